/- The framework: abstract states over plain data, the operations, the rules for code; plain data and plain functions. -/
import Derived.Tactics
import Derived.Orders
import Derived.Laws.AppendOwn
import Derived.Laws.MakeOwn
import Derived.Laws.BytesString
import Derived.Laws.Slices
import Derived.Below
import Derived.Lib.LaidTab
import Derived.Lib.ItoaNum
import Derived.Laws.Tables
import Derived.Great.BuildSlice
import Derived.RowKit3
import Derived.Laws.BitsLemmas
import Derived.Lib.ConvBytes
import Derived.Conc.MuLone
import Derived.Test.YtmabaopgkimfmaaGreatDoorProg
set_option maxHeartbeats 12800000
namespace Go
open Int renaming toNat_natCast→aXy
open List renaming length_append→aXz,length_cons→aX1,length_nil→aX2,length_take→aX4,getD_eq_getElem?_getD→aX6,length_drop→aX7,getElem?_eq_getElem→aX9,getElem?_eq_some_iff→aYa,range→aYb,mem_map→aYc,all_eq_true→aYd,take_length→aYe
open Nat renaming le_of_ble_eq_true→aX0,zero_le→aX5,le_refl→aX8
open Bool renaming and_eq_true→aX3
theorem aA.{u,v} {α:Sort u} {β:Sort v} {a b:α} (f:α→β) (h:a=b):f a=f b:=congrArg f h
theorem aB.{u} {c:Prop} {h:Decidable c} (hc: ¬c) {α:Sort u} {t e:α}:ite c t e=e:=if_neg hc
theorem aC.{u} {c:Prop} {h:Decidable c} (hc:c) {α:Sort u} {t e:α}:ite c t e=t:=if_pos hc
theorem aD {p:Prop} [Decidable p]: (decide p=true)=p:=decide_eq_true_eq
end Go
namespace Go.Ab
open Int renaming toNat_natCast→aXy
open List renaming length_append→aXz,length_cons→aX1,length_nil→aX2,length_take→aX4,getD_eq_getElem?_getD→aX6,length_drop→aX7,getElem?_eq_getElem→aX9,getElem?_eq_some_iff→aYa,range→aYb,mem_map→aYc,all_eq_true→aYd,take_length→aYe
open Nat renaming le_of_ble_eq_true→aX0,zero_le→aX5,le_refl→aX8
open Bool renaming and_eq_true→aX3
open Go Go.RowKit
set_option linter.unusedVariables false
inductive D where
 |i (n:Int)
 |u (n:Int)
 |b (x:Bool)
 |s (l:List UInt8)
 |x (v:Value)
 |sl (rows:List (List D))
inductive C where
 |d (x:D)
 |nil
 |own (o n:Nat)
 |pt (o k:Nat)
 |pe (o n i k:Nat)
 |rp (cs:List D)
 |z (o:Nat) (Q:Value→Value→Prop)
inductive E where
 |c (x:C)
 |agg (cs:List C)
inductive V where
 |e (x:E)
 |tup (xs:List E)
def blk:Value→Option Nat
 | .pointer (some a)=>some a.block
 | .slice (some a) _ _=>some a.block
 |_=>none
def uZ:Value→Nat→Prop
 | .pointer (some a),b=>a.block=b
 | .slice (some a) _ _,b=>a.block=b
 | .tuple vs,b=> ∃v∈vs.toList,blk v=some b
 |_,_=>False
structure gt where
 le:Value→Value→Prop
 R:World→(Nat→Prop)→Value→Prop
 refl: ∀p,le p p
 trans: ∀{p q r},le p q→le q r→le p r
 mono: ∀{w w':World} {S S':Nat→Prop} {p:Value},(∀b,S b→S' b)→(∀b,S b→w'.heap[b]? =w.heap[b]?)→(∀b,uZ p b→w'.heap[b]? =w.heap[b]?)→R w S p→R w' S' p
 lt: ∀{w:World} {S:Nat→Prop} {p:Value} {b:Nat},R w S p→uZ p b→b<w.heap.size
inductive K where
 |v (x:V)
 |box (ty:TypeId) (cs:List C)
 |row (e:TypeId) (es:Nat) (rows:List (List D))
 |dead
 |cv (s:Nat) (want b:Bool) (x:V)
 |zone (Z:gt)
inductive dK where
 |t (s:Nat)
 |o (n:Nat)
 deriving DecidableEq
abbrev St:=List (dK×K)
def aV:St→dK→Option K
 | [],_=>none
 |p::r,m=>if p.1=m then some p.2 else aV r m
def qM:St→dK→K→St
 | [],m,k=>[(m,k)]
 |p::r,m,k=>if p.1=m then(m,k)::r else p::qM r m k
def iP:St→List (dK×K)→St
 |s,[]=>s
 |s,p::r=>iP (qM s p.1 p.2) r
theorem lV (s:St) (m:dK) (k:K) (l:dK):aV (qM s m k) l=if m=l then some k else aV s l:=by
 induction s with
 |nil=>simp[aV,qM]
 |cons p r ih=>
  unfold qM
  by_cases h:p.1=m
  · rw[aC h]
    by_cases h2:m=l
    · simp[aV,h2]
    · simp[aV,h2,h]
  · rw[aB h]
    by_cases h2:p.1=l
    · have:m≠l:=fun e=>h (h2.trans e.symm)
      simp[aV,h2,this]
    · simp[aV,h2,ih]
theorem dD (s:St) (m:dK) (k:K):aV (qM s m k) m=some k:=by rw[lV,aC rfl]
theorem cT (s:St) {m l:dK} (k:K) (h:m≠l):aV (qM s m k) l=aV s l:=by rw[lV,aB h]
inductive DR (w:World) (S:Nat→Prop):D→Value→Prop
 |i (n:Int):DR w S (.i n) (.int .i64 n)
 |u (n:Int):DR w S (.u n) (.int .u8 n)
 |b (x:Bool):DR w S (.b x) (.bool x)
 |s (l:List UInt8):DR w S (.s l) (.string ⟨l.toArray⟩)
 |x (v:Value) (h:v.oneCell'=true):DR w S (.x v) v
 |sl (rows:List (List D)) (a:Option Addr) (cap es:Nat) (ad:Addr) (u:Nat→Nat→Value)
  (hc:rows.length≤cap) (hm:cap≤maxLen) (he: ∀r∈rows,r.length=es)
  (ha:rows≠[]→a=some ad) (hw: ∀i r k d,rows[i]? =some r→r[k]? =some d→S ad.block∧w.cell? (ad.add (i*es+k))=some (u i k))
  (hd: ∀i r k d,rows[i]? =some r→r[k]? =some d→DR w S d (u i k)):DR w S (.sl rows) (.slice a rows.length cap)
theorem DR.oneCell {w:World} {S:Nat→Prop} {d:D} {v:Value} (h:DR w S d v):v.oneCell'=true:=by
 cases h<;>first|rfl|assumption
theorem DR.mono {w w':World} {S S':Nat→Prop} (hS: ∀b,S b→S' b) (hw: ∀b,S b→w'.heap[b]? =w.heap[b]?) {d:D} {v:Value} (h:DR w S d v):DR w' S' d v:=by
 induction h with
 |i n=>exact .i n
 |u n=>exact .u n
 |b x=>exact .b x
 |s l=>exact .s l
 |x v h=>exact .x v h
 |sl rows a cap es ad u hc hm he ha h1 hd ih=>
  refine .sl rows a cap es ad u hc hm he ha (fun i r k d hi hk=> ?_) ih
  obtain⟨hs,hcell⟩:=h1 i r k d hi hk
  refine⟨hS _ hs,?_⟩
  have hb: (ad.add (i*es+k)).block=ad.block:=by unfold Addr.add;split<;>rfl
  rw[World.cell?_of_block (w:=w) (by rw[hb];exact hw _ hs)]
  exact hcell
def CR (σ:St) (ι:Nat→Value) (w:World) (S:Nat→Prop):C→Value→Prop
 | .d x,v=>DR w S x v
 | .nil,v=>v= .slice none 0 0
 | .own o n,v=>v.oneCell'=true∧((∃e es rows,aV σ (.o o)=some (.row e es rows)∧n≤rows.length∧(rows.length=n→v=ι o))∨aV σ (.o o)=some .dead)
 | .pt o k,v=>v.oneCell'=true∧((∃ty cs,aV σ (.o o)=some (.box ty cs)∧ ∃b,ι o= .pointer (some ⟨b,0,none⟩)∧v= .pointer (some ⟨b,k,none⟩))∨aV σ (.o o)=some .dead)
 | .pe o n i k,v=>v.oneCell'=true∧((∃e es rows,aV σ (.o o)=some (.row e es rows)∧n≤rows.length∧(rows.length=n→ ∃g off cap,ι o= .slice (some ⟨g,off,none⟩) n cap∧v= .pointer (some ⟨g,off+i*es+k,none⟩)))∨aV σ (.o o)=some .dead)
 | .rp cs,v=> ∃ad,v= .pointer (some ad)∧ ∀(k:Nat) d,cs[k]? =some d→S ad.block∧ ∃u,w.cell? (ad.add k)=some u∧DR w S d u
 | .z o Q,v=>v.oneCell'=true∧((∃Z,aV σ (.o o)=some (.zone Z)∧ ∀p,Z.le (ι o) p→Q p v)∨aV σ (.o o)=some .dead)
def ER (σ:St) (ι:Nat→Value) (w:World) (S:Nat→Prop):E→Value→Prop
 | .c x,v=>CR σ ι w S x v
 | .agg cs,v=> ∃vs:List Value,v= .agg vs.toArray∧vs.length=cs.length∧ ∀(k:Nat) c u,cs[k]? =some c→vs[k]? =some u→CR σ ι w S c u
def mI (σ:St) (ι:Nat→Value) (w:World) (S:Nat→Prop):V→Value→Prop
 | .e x,v=>ER σ ι w S x v
 | .tup xs,v=> ∃vs:List Value,v= .tuple vs.toArray∧vs.length=xs.length∧ ∀(k:Nat) x u,xs[k]? =some x→vs[k]? =some u→ER σ ι w S x u
def aNq (fz:Nat×Nat) (n:Nat):Prop:=fz=(0,0)∨n≤fz.1
def OR (σ:St) (ι:Nat→Value) (w:World) (S:Nat→Prop) (p:Value):K→Prop
 | .v _=>True
 | .dead=>True
 | .cv .. =>True
 | .zone Z=>Z.R w S p
 | .box ty cs=> ∃(b:Nat) (vs:Array Value),p= .pointer (some ⟨b,0,none⟩)∧w.heap[b]? =some (.cells vs ty (0,0))∧vs.size=cs.length∧ ∀(k:Nat) c u,cs[k]? =some c→vs[k]? =some u→CR σ ι w S c u
 | .row e es rows=>(p= .slice none 0 0∧rows=[])∨ ∃(g off cap:Nat) (cur:Array Value) (fz:Nat×Nat),p= .slice (some ⟨g,off,none⟩) rows.length cap∧w.heap[g]? =some (.cells cur e fz)∧aNq fz cur.size∧
  rows.length≤cap∧cap≤maxLen∧off+cap*es≤cur.size∧ ∀(i:Nat) r,rows[i]? =some r→r.length=es∧ ∀(k:Nat) d,r[k]? =some d→ ∃u,cur[off+i*es+k]? =some u∧DR w S d u
def K.live:K→Prop
 | .box .. | .row .. | .zone .. =>True
 |_=>False
def lJ (σ:St) (ι:Nat→Value) (o b:Nat):Prop:=(∃k,aV σ (.o o)=some k∧k.live)∧uZ (ι o) b
def rU (σ:St) (ι:Nat→Value) (w:World) (S:Nat→Prop):K→Value→Prop
 | .v x,v=>mI σ ι w S x v
 | .cv _ _ b x,v=>(b=true→mI σ ι w S x v)∧(b=false→v=undef)
 |_,_=>True
structure VR (σ:St) (ι ν:Nat→Value) (S:Nat→Prop) (w:World):Prop where
 slots: ∀s k,aV σ (.t s)=some k→rU σ ι w S k (ν s)
 objs: ∀o k,aV σ (.o o)=some k→OR σ ι w S (ι o) k
 mutS: ∀o b,lJ σ ι o b→ ¬S b
 inj: ∀o o' b,lJ σ ι o b→lJ σ ι o' b→o=o'
 sz: ∀b,S b→b<w.heap.size
def nU (p p':Value):K→K→Prop
 |_,.dead=>True
 | .box _ _,.box _ _=>p'=p
 | .row _ es r,.row _ es' r'=>es'=es∧r.length≤r'.length∧(r'.length=r.length→p'=p)
 | .zone Z,.zone Z'=>Z'.le=Z.le∧Z.le p p'
 | .v _,_=>True
 | .cv ..,_=>True
 | .dead,_=>False
 |_,_=>False
structure rS (σ:St) (ι:Nat→Value) (S:Nat→Prop) (w:World) (σ':St) (ι':Nat→Value) (S':Nat→Prop) (w':World):Prop where
 sub: ∀b,S b→S' b
 keep: ∀b,S b→w'.heap[b]? =w.heap[b]?
 evo: ∀o k,aV σ (.o o)=some k→ ∃k',aV σ' (.o o)=some k'∧nU (ι o) (ι' o) k k'
section
variable {σ σ':St} {ι ι' ν:Nat→Value} {S S':Nat→Prop} {w w':World}
theorem CR.step (h:rS σ ι S w σ' ι' S' w') {c:C} {v:Value} (hc:CR σ ι w S c v):CR σ' ι' w' S' c v:=by
 cases c with
 |d x=>exact DR.mono h.sub h.keep hc
 |nil=>exact hc
 |own o n=>
  obtain⟨h1,h2⟩:=hc
  refine⟨h1,?_⟩
  rcases h2 with⟨e,es,rows,hl,hn,hv⟩|hl
  · obtain⟨k',hl',hev⟩:=h.evo o _ hl
    cases k'<;>simp only[nU] at hev
    case dead=>exact .inr hl'
    case row e' es' rows'=>exact .inl ⟨e',es',rows',hl',by omega,fun hh=>by rw[hv (by omega)];exact(hev.2.2 (by omega)).symm⟩
  · obtain⟨k',hl',hev⟩:=h.evo o _ hl
    cases k'<;>simp only[nU] at hev
    exact .inr hl'
 |pt o k=>
  obtain⟨h1,h2⟩:=hc
  refine⟨h1,?_⟩
  rcases h2 with⟨ty,cs,hl,b,hi,hv⟩|hl
  · obtain⟨k',hl',hev⟩:=h.evo o _ hl
    cases k'<;>simp only[nU] at hev
    case dead=>exact .inr hl'
    case box ty' cs'=>exact .inl ⟨ty',cs',hl',b,by rw[hev];exact hi,hv⟩
  · obtain⟨k',hl',hev⟩:=h.evo o _ hl
    cases k'<;>simp only[nU] at hev
    exact .inr hl'
 |pe o n i k=>
  obtain⟨h1,h2⟩:=hc
  refine⟨h1,?_⟩
  rcases h2 with⟨e,es,rows,hl,hn,hv⟩|hl
  · obtain⟨k',hl',hev⟩:=h.evo o _ hl
    cases k'<;>simp only[nU] at hev
    case dead=>exact .inr hl'
    case row e' es' rows'=>
     refine .inl ⟨e',es',rows',hl',by omega,fun hh=> ?_⟩
     obtain⟨g,off,cap,hi,hvv⟩:=hv (by omega)
     exact⟨g,off,cap,by rw[hev.2.2 (by omega)];exact hi,by rw[hev.1];exact hvv⟩
  · obtain⟨k',hl',hev⟩:=h.evo o _ hl
    cases k'<;>simp only[nU] at hev
    exact .inr hl'
 |rp cs=>
  obtain⟨ad,hv,hk⟩:=hc
  refine⟨ad,hv,fun k d hd=> ?_⟩
  obtain⟨hs,u,hu,hdr⟩:=hk k d hd
  refine⟨h.sub _ hs,u,?_,DR.mono h.sub h.keep hdr⟩
  have hb: (ad.add k).block=ad.block:=by unfold Addr.add;split<;>rfl
  rw[World.cell?_of_block (w:=w) (by rw[hb];exact h.keep _ hs)]
  exact hu
 |z o Q=>
  obtain⟨h1,h2⟩:=hc
  refine⟨h1,?_⟩
  rcases h2 with⟨Z,hl,hq⟩|hl
  · obtain⟨k',hl',hev⟩:=h.evo o _ hl
    cases k'<;>simp only[nU] at hev
    case dead=>exact .inr hl'
    case zone Z'=>exact .inl ⟨Z',hl',fun p hp=>hq p (Z.trans hev.2 (by rw[← hev.1];exact hp))⟩
  · obtain⟨k',hl',hev⟩:=h.evo o _ hl
    cases k'<;>simp only[nU] at hev
    exact .inr hl'
theorem ER.step (h:rS σ ι S w σ' ι' S' w') {c:E} {v:Value} (hc:ER σ ι w S c v):ER σ' ι' w' S' c v:=by
 cases c with
 |c x=>exact CR.step h hc
 |agg cs=>
  obtain⟨vs,hv,hl,hk⟩:=hc
  exact⟨vs,hv,hl,fun k c u h1 h2=>CR.step h (hk k c u h1 h2)⟩
theorem mI.step (h:rS σ ι S w σ' ι' S' w') {c:V} {v:Value} (hc:mI σ ι w S c v):mI σ' ι' w' S' c v:=by
 cases c with
 |e x=>exact ER.step h hc
 |tup cs=>
  obtain⟨vs,hv,hl,hk⟩:=hc
  exact⟨vs,hv,hl,fun k c u h1 h2=>ER.step h (hk k c u h1 h2)⟩
theorem rU.step (h:rS σ ι S w σ' ι' S' w') {k:K} {v:Value} (hc:rU σ ι w S k v):rU σ' ι' w' S' k v:=by
 cases k with
 |v x=>exact mI.step h hc
 |cv s want b x=>exact⟨fun hb=>mI.step h (hc.1 hb),hc.2⟩
 |_=>trivial
theorem OR.step (h:rS σ ι S w σ' ι' S' w') {p:Value} {k:K} (hb: ∀b,uZ p b→w'.heap[b]? =w.heap[b]?) (hk:OR σ ι w S p k):OR σ' ι' w' S' p k:=by
 cases k with
 |v _=>trivial
 |dead=>trivial
 |cv _ _ _ _=>trivial
 |zone Z=>exact Z.mono h.sub h.keep hb hk
 |box ty cs=>
  obtain⟨b,vs,rfl,hh,hs,hc⟩:=hk
  exact⟨b,vs,rfl,by rw[hb b rfl];exact hh,hs,fun k c u h1 h2=>CR.step h (hc k c u h1 h2)⟩
 |row e es rows=>
  rcases hk with hn|⟨g,off,cap,cur,fz,rfl,hh,hfz,h1,h2,h3,h4⟩
  · exact .inl hn
  · refine .inr ⟨g,off,cap,cur,fz,rfl,by rw[hb g rfl];exact hh,hfz,h1,h2,h3,fun i r hr=>⟨(h4 i r hr).1,fun k d hd=> ?_⟩⟩
    obtain⟨u,hu,hdr⟩:=(h4 i r hr).2 k d hd
    exact⟨u,hu,DR.mono h.sub h.keep hdr⟩
theorem nU.refl (p:Value) {k:K}:k≠ .dead→nU p p k k:=by
 intro h
 cases k<;>simp_all[nU,gt.refl]
theorem nU.refl' (p:Value) (k:K):nU p p k k:=by cases k<;>simp[nU,gt.refl]
end
structure Fr (M:Nat→Prop) (w0 w:World):Prop where
 os:w.os=w0.os
 tape:w.tape=w0.tape
 output:w.output=w0.output
 size:w0.heap.size≤w.heap.size
 block: ∀b,b<w0.heap.size→ ¬M b→w.heap[b]? =w0.heap[b]?
theorem Fr.refl (M:Nat→Prop) (w:World):Fr M w w:=⟨rfl,rfl,rfl,aX8 _,fun _ _ _=>rfl⟩
theorem Fr.trans {M M':Nat→Prop} {a b c:World} (h:Fr M a b) (k:Fr M' b c) (hM: ∀x,x<a.heap.size→M' x→M x):Fr M a c:=
 ⟨k.os.trans h.os,k.tape.trans h.tape,k.output.trans h.output,Nat.le_trans h.size k.size,
  fun x hx hm=>(k.block x (Nat.lt_of_lt_of_le hx h.size) (fun h'=>hm (hM x hx h'))).trans (h.block x hx hm)⟩
theorem Fr.weak {M M':Nat→Prop} {a b:World} (h:Fr M' a b) (hM: ∀x,M' x→M x):Fr M a b:=(Fr.refl M a).trans h fun x _ hx=>hM x hx
def aK9 (P:Program) (w:World):Prop:=Lib.TabIs P w "internal/strconv.uint64pow10" .u64 Lib.pow10Tab∧ ∃m,w.var? P "internal/bytealg.MaxLen" =some #[.int .i64 m]
def GB (P:Program) (w:World) (M:Nat→Prop):Prop:= ∀w',Fr M w w'→aK9 P w'
theorem GB.weak {P:Program} {w:World} {M M':Nat→Prop} (h:GB P w M) (hM: ∀x,M' x→M x):GB P w M':=fun w' h'=>h w' (h'.weak hM)
structure Cx (P:Program) where
 N:Nat
 w0:World
 S0:Nat→Prop
 k0:Nat→Option K
 kio:Nat→Option K
 ι0:Nat→Value
 gb:GB P w0 fun b=> ∃o k,k0 o=some k∧k.live∧uZ (ι0 o) b
def Cx.M {P:Program} (cx:Cx P) (b:Nat):Prop:= ∃o k,cx.k0 o=some k∧k.live∧uZ (cx.ι0 o) b
def iZ (a:Act):Nat→Value:=fun s=>a.tmps.getD s undef
structure RW {P:Program} (cx:Cx P) (σ:St) (ι:Nat→Value) (S:Nat→Prop) (a:Act) (w:World):Prop where
 vr:VR σ ι (iZ a) S w
 size:a.tmps.size=cx.N
 defers:a.defers=[]
 fr:Fr cx.M cx.w0 w
 own: ∀o b,lJ σ ι o b→cx.w0.heap.size≤b∨cx.M b
 rd: ∀b,S b→cx.S0 b∨cx.w0.heap.size≤b∨cx.M b
 io: ∀o k,cx.kio o=some k→ ∃k',aV σ (.o o)=some k'∧nU (cx.ι0 o) (ι o) k k'
theorem nU.trans {p q r:Value} {a b c:K} (h:nU p q a b) (k:nU q r b c):nU p r a c:=by
 cases a<;>cases b<;>cases c<;>simp_all[nU]
 · obtain⟨h1,h2,h3⟩:=h
   obtain⟨k1,k2,k3⟩:=k
   exact⟨by omega,fun hh=>(k3 (by omega)).trans (h3 (by omega))⟩
 · exact gt.trans _ h.2 k.2
theorem gu {a:Act} {d:Nat} (hd:d<a.tmps.size) (v:Value) (s:Nat):iZ (a.put (some d) v) s=if s=d then v else iZ a s:=by
 unfold iZ Act.put
 by_cases h:s=d
 · subst h;simp[hd]
 · rw[aB h]
   simp only[Array.getD_eq_getD_getElem?]
   rw[Array.getElem?_setIfInBounds_ne (fun e=>h e.symm)]
theorem aE3 (a:Act) (v:Value):a.put none v=a:=rfl
section
variable {P:Program} {cx:Cx P} {σ:St} {ι:Nat→Value} {S:Nat→Prop} {a:Act} {w:World}
theorem qw {s:Nat} {k:K} {o b:Nat}:lJ (qM σ (.t s) k) ι o b↔lJ σ ι o b:=by
 unfold lJ
 rw[cT _ _ (by simp)]
theorem rS.t {s:Nat} {k:K}:rS σ ι S w (qM σ (.t s) k) ι S w:=
 ⟨fun _ h=>h,fun _ _=>rfl,fun o k h=>⟨k,by rw[cT _ _ (by simp)];exact h,nU.refl' _ _⟩⟩
theorem OR.t {s:Nat} {k k':K} {p:Value} (h:OR σ ι w S p k'):OR (qM σ (.t s) k) ι w S p k':=OR.step rS.t (fun _ _=>rfl) h
theorem RW.put (h:RW cx σ ι S a w) {d:Nat} (hd:d<cx.N) {x:V} {v:Value} (hx:mI σ ι w S x v):RW cx (qM σ (.t d) (.v x)) ι S (a.put (some d) v) w:=by
 have hd':d<a.tmps.size:=by rw[h.size];exact hd
 refine⟨⟨fun s y hy=> ?_,fun o k hk=> ?_,fun o b hm=> ?_,fun o o' b hm hm'=> ?_,h.vr.sz⟩,?_,h.defers,h.fr,fun o b hm=>h.own o b (qw.1 hm),h.rd,fun o k ho=>by rw[cT _ _ (by simp)];exact h.io o k ho⟩
 · rw[gu hd']
   rw[lV] at hy
   by_cases e:d=s
   · subst e
     simp at hy
     subst hy
     rw[aC rfl]
     exact mI.step rS.t hx
   · rw[aB (by simpa using e)] at hy
     rw[aB (fun h=>e h.symm)]
     exact rU.step rS.t (h.vr.slots s y hy)
 · rw[cT _ _ (by simp)] at hk
   exact OR.t (h.vr.objs o k hk)
 · exact h.vr.mutS o b (qw.1 hm)
 · exact h.vr.inj o o' b (qw.1 hm) (qw.1 hm')
 · simpa[Act.put] using h.size
theorem RW.putDead (h:RW cx σ ι S a w) {d:Nat} (hd:d<cx.N) (v:Value):RW cx (qM σ (.t d) .dead) ι S (a.put (some d) v) w:=by
 have hd':d<a.tmps.size:=by rw[h.size];exact hd
 refine⟨⟨fun s y hy=> ?_,fun o k hk=> ?_,fun o b hm=> ?_,fun o o' b hm hm'=> ?_,h.vr.sz⟩,?_,h.defers,h.fr,fun o b hm=>h.own o b (qw.1 hm),h.rd,fun o k ho=>by rw[cT _ _ (by simp)];exact h.io o k ho⟩
 · rw[gu hd']
   rw[lV] at hy
   by_cases e:d=s
   · subst e
     simp at hy
     subst hy
     trivial
   · rw[aB (by simpa using e)] at hy
     rw[aB (fun h=>e h.symm)]
     exact rU.step rS.t (h.vr.slots s y hy)
 · rw[cT _ _ (by simp)] at hk
   exact OR.t (h.vr.objs o k hk)
 · exact h.vr.mutS o b (qw.1 hm)
 · exact h.vr.inj o o' b (qw.1 hm) (qw.1 hm')
 · simpa[Act.put] using h.size
theorem VR.of_heap {ν:Nat→Value} {w':World} (h:VR σ ι ν S w) (hh:w'.heap=w.heap):VR σ ι ν S w':=by
 have st:rS σ ι S w σ ι S w':=⟨fun _ h=>h,fun _ _=>by rw[hh],fun o k h=>⟨k,h,nU.refl' _ _⟩⟩
 exact⟨fun s x hx=>rU.step st (h.slots s x hx),fun o k hk=>OR.step st (fun _ _=>by rw[hh]) (h.objs o k hk),h.mutS,h.inj,fun b hb=>by rw[hh];exact h.sz b hb⟩
theorem RW.drew (h:RW cx σ ι S a w):RW cx σ ι S a {w with drawn:=w.drawn+1}:=
 ⟨h.vr.of_heap rfl,h.size,h.defers,⟨h.fr.os,h.fr.tape,h.fr.output,h.fr.size,h.fr.block⟩,h.own,h.rd,h.io⟩
theorem OR.lt {p:Value} {k:K} {b:Nat} (h:OR σ ι w S p k) (hl:k.live) (hb:uZ p b):b<w.heap.size:=by
 cases k with
 |v _=>exact hl.elim
 |dead=>exact hl.elim
 |cv _ _ _ _=>exact hl.elim
 |zone Z=>exact Z.lt h hb
 |box ty cs=>
  obtain⟨b',vs,rfl,hh,_⟩:=h
  simp[uZ] at hb;subst hb
  exact(Array.getElem?_eq_some_iff.1 hh).1
 |row e es rows=>
  rcases h with⟨rfl,_⟩|⟨g,off,cap,cur,fz,rfl,hh,_⟩
  · simp[uZ] at hb
  · simp[uZ] at hb;subst hb
    exact(Array.getElem?_eq_some_iff.1 hh).1
structure aLa (σ:St) (ι:Nat→Value) (S:Nat→Prop) (w:World) (id:Nat) (old:Option Nat) (k:K) (p:Value) (w':World):Prop where
 os:w'.os=w.os
 tape:w'.tape=w.tape
 output:w'.output=w.output
 size:w.heap.size≤w'.heap.size
 block: ∀b,b<w.heap.size→some b≠old→w'.heap[b]? =w.heap[b]?
 mine: ∀b,old=some b→lJ σ ι id b
 evo:aV σ (.o id)=none∨ ∃k0,aV σ (.o id)=some k0∧nU (ι id) p k0 k
 new: ∀b,uZ p b→some b=old∨w.heap.size≤b
 or_:OR (qM σ (.o id) k) (fun o=>if o=id then p else ι o) w' S p k
theorem VR.turn {ν:Nat→Value} (h:VR σ ι ν S w) {id:Nat} {old:Option Nat} {k:K} {p:Value} {w':World} (t:aLa σ ι S w id old k p w'):
 VR (qM σ (.o id) k) (fun o=>if o=id then p else ι o) ν S w':=by
 have keepS: ∀b,S b→w'.heap[b]? =w.heap[b]?:=fun b hb=>t.block b (h.sz b hb) (fun e=>h.mutS id b (t.mine b e.symm) hb)
 have st:rS σ ι S w (qM σ (.o id) k) (fun o=>if o=id then p else ι o) S w':=by
  refine⟨fun _ h=>h,keepS,fun o k0 hk=> ?_⟩
  by_cases e:o=id
  · subst e
    refine⟨k,dD _ _ _,?_⟩
    rcases t.evo with hn|⟨k1,hk1,hev⟩
    · rw[hn] at hk;cases hk
    · rw[hk1] at hk;cases hk;rw[aC rfl];exact hev
  · refine⟨k0,by rw[cT _ _ (by simpa using fun h=>e h.symm)];exact hk,?_⟩
    rw[aB e];exact nU.refl' _ _
 have mut_ne: ∀o b,o≠id→lJ (qM σ (.o id) k) (fun o=>if o=id then p else ι o) o b→lJ σ ι o b:=by
  intro o b ne hm
  obtain⟨⟨k0,hk,hl⟩,hb⟩:=hm
  rw[cT _ _ (by simpa using fun h=>ne h.symm)] at hk
  dsimp only at hb
  rw[aB ne] at hb
  exact⟨⟨k0,hk,hl⟩,hb⟩
 have mlt: ∀o b,lJ σ ι o b→b<w.heap.size:=fun o b ⟨⟨k0,hk,hl⟩,hb⟩=>OR.lt (h.objs o k0 hk) hl hb
 have mid: ∀b,lJ (qM σ (.o id) k) (fun o=>if o=id then p else ι o) id b→some b=old∨w.heap.size≤b:=by
  intro b hm
  have hb:=hm.2
  dsimp only at hb
  rw[aC rfl] at hb
  exact t.new b hb
 refine⟨fun s x hx=> ?_,fun o k0 hk=> ?_,fun o b hm hS=> ?_,fun o o' b hm hm'=> ?_,fun b hb=>Nat.lt_of_lt_of_le (h.sz b hb) t.size⟩
 · rw[cT _ _ (by simp)] at hx
   exact rU.step st (h.slots s x hx)
 · by_cases e:o=id
   · subst e
     rw[dD] at hk;cases hk
     rw[aC rfl]
     exact t.or_
   · rw[cT _ _ (by simpa using fun h=>e h.symm)] at hk
     rw[aB e]
     have ho:=h.objs o k0 hk
     by_cases hl:k0.live
     · refine OR.step st (fun b hb=> ?_) ho
       have hmut:lJ σ ι o b:=⟨⟨k0,hk,hl⟩,hb⟩
       exact t.block b (mlt o b hmut) (fun e2=>e (h.inj o id b hmut (t.mine b e2.symm)))
     · cases k0<;>simp[K.live] at hl<;>trivial
 · by_cases e:o=id
   · subst e
     rcases mid b hm with h1|h1
     · exact h.mutS o b (t.mine b h1.symm) hS
     · have:=h.sz b hS;omega
   · exact h.mutS o b (mut_ne o b e hm) hS
 · by_cases e:o=id
   · by_cases e':o'=id
     · rw[e,e']
     · subst e
       have h2:=mut_ne o' b e' hm'
       rcases mid b hm with h1|h1
       · exact absurd (h.inj o' o b h2 (t.mine b h1.symm)) e'
       · have:=mlt o' b h2;omega
   · by_cases e':o'=id
     · subst e'
       have h2:=mut_ne o b e hm
       rcases mid b hm' with h1|h1
       · exact absurd (h.inj o o' b h2 (t.mine b h1.symm)) e
       · have:=mlt o b h2;omega
     · exact h.inj o o' b (mut_ne o b e hm) (mut_ne o' b e' hm')
theorem RW.turn (h:RW cx σ ι S a w) {id:Nat} {old:Option Nat} {k:K} {p:Value} {w':World} (t:aLa σ ι S w id old k p w'):
 RW cx (qM σ (.o id) k) (fun o=>if o=id then p else ι o) S a w':=by
 refine⟨h.vr.turn t,h.size,h.defers,⟨t.os.trans h.fr.os,t.tape.trans h.fr.tape,t.output.trans h.fr.output,Nat.le_trans h.fr.size t.size,fun b hb hm=> ?_⟩,fun o b hm=> ?_,h.rd,fun o k1 ho=> ?_⟩
 · rw[t.block b (Nat.lt_of_lt_of_le hb h.fr.size) (fun e=> ?_)]
   · exact h.fr.block b hb hm
   · rcases h.own id b (t.mine b e.symm) with h1|h1
     · omega
     · exact hm h1
 · by_cases e:o=id
   · subst e
     have hb:=hm.2
     dsimp only at hb
     rw[aC rfl] at hb
     rcases t.new b hb with h1|h1
     · exact h.own o b (t.mine b h1.symm)
     · exact .inl (Nat.le_trans h.fr.size h1)
   · obtain⟨⟨k0,hk,hl⟩,hb⟩:=hm
     rw[cT _ _ (by simpa using fun h=>e h.symm)] at hk
     dsimp only at hb
     rw[aB e] at hb
     exact h.own o b ⟨⟨k0,hk,hl⟩,hb⟩
 · obtain⟨k',hk',hev⟩:=h.io o k1 ho
   by_cases e:o=id
   · subst e
     refine⟨k,dD _ _ _,?_⟩
     rw[aC rfl]
     rcases t.evo with hn|⟨k2,hk2,hev2⟩
     · rw[hn] at hk';cases hk'
     · rw[hk2] at hk';cases hk';exact hev.trans hev2
   · refine⟨k',by rw[cT _ _ (by simpa using fun h=>e h.symm)];exact hk',?_⟩
     rw[aB e];exact hev
end
abbrev I (n:Int):V:= .e (.c (.d (.i n)))
abbrev B (x:Bool):V:= .e (.c (.d (.b x)))
abbrev Dv (x:D):V:= .e (.c (.d x))
def bV (R:List (dK×Option K)) (σ:St):Prop:= ∀p∈R,aV σ p.1=p.2
theorem bV.left {R R':List (dK×Option K)} {σ:St} (h:bV (R++R') σ):bV R σ:=fun p hp=>h p (List.mem_append_left _ hp)
theorem bV.right {R R':List (dK×Option K)} {σ:St} (h:bV (R++R') σ):bV R' σ:=fun p hp=>h p (List.mem_append_right _ hp)
def vW (P:Program) (o:Oper) (R:List (dK×Option K)) (W:List (dK×K)):Prop:=
 ∀(cx:Cx P) (σ:St) (ι:Nat→Value) (S:Nat→Prop) (a:Act) (w:World),bV R σ→RW cx σ ι S a w→(∀d,o.dst=some d→d<cx.N)→
  ∀(next:Act→World→Prop) (Q:Exit→Act→World→Prop),(∀ι' S' a' w',RW cx (iP σ W) ι' S' a' w'→next a' w')→o.wp P a w next Q
theorem oL {P:Program} {o:Oper} {d:Nat} {R:List (dK×Option K)} {x:V} (hd:o.dst=some d)
 (h: ∀(cx:Cx P) (σ:St) (ι:Nat→Value) (S:Nat→Prop) (a:Act) (w:World),bV R σ→RW cx σ ι S a w→ ∃v,(execOp a.eval o).run P w= .ok (.value v) w∧mI σ ι w S x v):
 vW P o R [(.t d,.v x)]:=by
 intro cx σ ι S a w hr hw hb next Q hn
 obtain⟨v,he,hx⟩:=h cx σ ι S a w hr hw
 unfold Oper.wp
 rw[he]
 simp only[Oper.upon,hd]
 exact hn ι S _ w (hw.put (hb d hd) hx)
def aC8:Value→C
 | .int .i64 n=> .d (.i n)
 | .int .u8 n=> .d (.u n)
 | .bool x=> .d (.b x)
 | .string s=> .d (.s s.data.toList)
 | .slice none 0 0=> .nil
 |v=> .d (.x v)
def ev (σ:St):Operand→Option (V×List (dK×Option K))
 | .tmp t=>match aV σ (.t t) with
  |some (.v X)=>some (X,[(.t t,some (.v X))])
  |_=>none
 | .const v=>if v.oneCell' then some (.e (.c (aC8 v)),[]) else none
 |_=>none
theorem jq {σ:St} {ι:Nat→Value} {w:World} {S:Nat→Prop} {v:Value} (h:v.oneCell'=true):CR σ ι w S (aC8 v) v:=by
 unfold aC8
 split
 · exact .i _
 · exact .u _
 · exact .b _
 · exact .s _
 · rfl
 · exact .x _ h
theorem dH {σ:St} {x:Operand} {X:V} {R:List (dK×Option K)} (h:ev σ x=some (X,R)):bV R σ:=by
 intro p hp
 cases x with
 |tmp t=>
  simp only[ev] at h
  split at h
  · rename_i X' hl
    simp at h
    obtain⟨rfl,rfl⟩:=h
    simp at hp
    subst hp
    exact hl
  · cases h
 |const v=>
  simp only[ev] at h
  split at h
  · simp at h;obtain⟨rfl,rfl⟩:=h;simp at hp
  · cases h
 |global g=>simp[ev] at h
 |func f=>simp[ev] at h
theorem dP {σ0:St} {x:Operand} {X:V} {R:List (dK×Option K)} (h:ev σ0 x=some (X,R)) {P:Program} {cx:Cx P} {σ:St} {ι:Nat→Value} {S:Nat→Prop} {a:Act} {w:World}
 (hr:bV R σ) (hw:RW cx σ ι S a w):mI σ ι w S X (a.eval x):=by
 cases x with
 |tmp t=>
  simp only[ev] at h
  split at h
  · rename_i X' hl
    simp at h
    obtain⟨rfl,rfl⟩:=h
    exact hw.vr.slots t _ (hr (.t t,some (.v X')) (by simp))
  · cases h
 |const v=>
  simp only[ev] at h
  split at h
  · rename_i hv
    simp at h;obtain⟨rfl,rfl⟩:=h
    exact jq hv
  · cases h
 |global g=>simp[ev] at h
 |func f=>simp[ev] at h
inductive TK where
 |int (k:IntKind)
 |bool
 |str
 |sl (e:TypeId)
 |st (fs:List (Nat×TypeId))
 |arr (n:Nat) (e:TypeId)
 |ptr (e:TypeId)
structure TI where
 kind:TK
 size:Nat
 bytes:Nat
 zero:List C
abbrev hZ:=TypeId→Option TI
def TK.agg:TK→Bool
 | .st _| .arr _ _=>true
 |_=>false
def zv:C→Value
 | .d (.i n)=> .int .i64 n
 | .d (.u n)=> .int .u8 n
 | .d (.b x)=> .bool x
 | .d (.s l)=> .string ⟨l.toArray⟩
 | .d (.x v)=>v
 |_=> .slice none 0 0
def aC9:C→Bool
 | .nil=>true
 | .d (.sl _)=>false
 | .d (.x v)=>v.oneCell'
 | .d _=>true
 |_=>false
theorem uF {σ:St} {ι:Nat→Value} {w:World} {S:Nat→Prop} {c:C} (h:aC9 c=true):CR σ ι w S c (zv c):=by
 cases c with
 |d x=>cases x<;>simp[aC9] at h<;>(simp only[zv,CR];constructor)<;>assumption
 |nil=>rfl
 |_=>simp[aC9] at h
def mM (P:Program) (t:TypeId):TK→Prop
 | .int k=>P.underlying t=some (.int k)
 | .bool=>P.underlying t=some .bool
 | .str=>P.underlying t=some .string
 | .sl e=>P.underlying t=some (.slice e)
 | .st fs=> ∃fields,P.underlying t=some (.struct fields)∧fields.toList.map (fun f=>(f.offset,f.type))=fs
 | .arr n e=>P.underlying t=some (.array n e)
 | .ptr e=>P.underlying t=some (.pointer e)
structure eU (P:Program) (t:TypeId) (x:TI):Prop where
 kind:mM P t x.kind
 info: ∃i z,P.info? t=some i∧i.size=x.size∧i.bytes=x.bytes∧i.zero=some z∧z.cells.toList=x.zero.map zv
 zlen:x.zero.length=x.size
 zok:x.zero.all aC9=true
 pos:0<x.size
 bpos:0<x.bytes
def dV (P:Program) (T:hZ):Prop:= ∀t x,T t=some x→eU P t x
section
variable {P:Program} {T:hZ} {t:TypeId} {x:TI} {w:World}
theorem fU (h:eU P t x): (sizeOf t).run P w= .ok x.size w:=by
 obtain⟨i,z,hi,hs,_⟩:=h.info
 simp[sizeOf,typeInfo,hi,hs]
theorem rY (h:eU P t x): (isAgg t).run P w= .ok x.kind.agg w:=by
 have hk:=h.kind
 unfold isAgg
 cases hx:x.kind<;>rw[hx] at hk<;>simp only[mM] at hk
 case st fs=>
  obtain⟨fields,hu,_⟩:=hk
  rw[Sem.run_bind,run_underlying hu];rfl
 all_goals(rw[Sem.run_bind,run_underlying hk];rfl)
theorem aLb (h:eU P t x): ∃z,(zeroValue t).run P w= .ok z w∧z.cells.toList=x.zero.map zv:=by
 obtain⟨i,z,hi,_,_,hz,hc⟩:=h.info
 exact⟨z,by simp[zeroValue,typeInfo,hi,hz],hc⟩
theorem mZ (h:eU P t x) (hg:x.kind.agg=true) (a:Addr) (cells:List Value) (hl:cells.length=x.size) (hc: ∀(j:Nat) v,cells[j]? =some v→w.cell? (a.add j)=some v):
 (loadVar t a).run P w= .ok (.agg cells.toArray) w:=by
 have:=run_loadCells_list (P:=P) w a cells hc
 simp[loadVar,rY h,hg,fU h,← hl,this]
theorem tT (h:eU P t x) (hg:x.kind.agg=false) (a:Addr) (v:Value) (hc:w.cell? a=some v): (loadVar t a).run P w= .ok v w:=by
 simp[loadVar,rY h,hg,run_load,hc]
end
set_option linter.unusedSimpArgs false
abbrev Res:=Option (Prop×List (dK×Option K)×List (dK×K))
def lU (P:Program) (o:Oper) (σ:St) (r:Res):Prop:= ∀p R W,r=some (p,R,W)→p→vW P o R W∧bV R σ
def jP (σ:St) (x:Operand) (d:Option Tmp) (f:V→Option (Prop×List (dK×Option K)×V)):Res:=
 match ev σ x,d with
 |some (X,R),some d=>match f X with
  |some (p,R',Y)=>some (p,R++R',[(.t d,.v Y)])
  |none=>none
 |_,_=>none
def rV (σ:St) (x y:Operand) (d:Option Tmp) (f:V→V→Option (Prop×List (dK×Option K)×V)):Res:=
 match ev σ x,ev σ y,d with
 |some (X,R),some (Y,R2),some d=>match f X Y with
  |some (p,R',Z)=>some (p,R++R2++R',[(.t d,.v Z)])
  |none=>none
 |_,_,_=>none
theorem bV.append {R R':List (dK×Option K)} {σ:St} (h:bV R σ) (h':bV R' σ):bV (R++R') σ:=fun p hp=>(List.mem_append.1 hp).elim (h p) (h' p)
theorem bV.nil {σ:St}:bV [] σ:=fun _ h=>by cases h
theorem bV.one {σ:St} {l:dK} {k:Option K} (h:aV σ l=k):bV [(l,k)] σ:=fun p hp=>by simp at hp;subst hp;exact h
theorem kT {P:Program} {o:Oper} {σ0:St} {x:Operand} {f:V→Option (Prop×List (dK×Option K)×V)}
 (hf: ∀X p R Y,f X=some (p,R,Y)→p→bV R σ0∧ ∀(cx:Cx P) (σ:St) (ι:Nat→Value) (S:Nat→Prop) (a:Act) (w:World),bV R σ→RW cx σ ι S a w→mI σ ι w S X (a.eval x)→
  ∃v,(execOp a.eval o).run P w= .ok (.value v) w∧mI σ ι w S Y v):lU P o σ0 (jP σ0 x o.dst f):=by
 intro p R W h hp
 unfold jP at h
 split at h
 · rename_i X Rx d hx hd
   split at h
   · rename_i p' R' Y hfx
     simp only[Option.some.injEq,Prod.mk.injEq] at h
     obtain⟨rfl,rfl,rfl⟩:=h
     obtain⟨h1,h2⟩:=hf X p' R' Y hfx hp
     exact⟨oL hd fun cx σ ι S a w hr hw=>h2 cx σ ι S a w hr.right hw (dP hx hr.left hw),(dH hx).append h1⟩
   · cases h
 · cases h
theorem rZ {P:Program} {o:Oper} {σ0:St} {x y:Operand} {f:V→V→Option (Prop×List (dK×Option K)×V)}
 (hf: ∀X Y p R Z,f X Y=some (p,R,Z)→p→bV R σ0∧ ∀(cx:Cx P) (σ:St) (ι:Nat→Value) (S:Nat→Prop) (a:Act) (w:World),bV R σ→RW cx σ ι S a w→mI σ ι w S X (a.eval x)→mI σ ι w S Y (a.eval y)→
  ∃v,(execOp a.eval o).run P w= .ok (.value v) w∧mI σ ι w S Z v):lU P o σ0 (rV σ0 x y o.dst f):=by
 intro p R W h hp
 unfold rV at h
 split at h
 · rename_i X Rx Y Ry d hx hy hd
   split at h
   · rename_i p' R' Z hfx
     simp only[Option.some.injEq,Prod.mk.injEq] at h
     obtain⟨rfl,rfl,rfl⟩:=h
     obtain⟨h1,h2⟩:=hf X Y p' R' Z hfx hp
     exact⟨oL hd fun cx σ ι S a w hr hw=>h2 cx σ ι S a w hr.right hw (dP hx hr.left.left hw) (dP hy hr.left.right hw),((dH hx).append (dH hy)).append h1⟩
   · cases h
 · cases h
def fId:V→Option (Prop×List (dK×Option K)×V):=fun X=>some (True,[],X)
theorem aBg {P:Program} {o:Oper} {σ:St} {x:Operand} (ho:o.op= .move x∨o.op= .assign x):lU P o σ (jP σ x o.dst fId):=
 kT fun X p R Y h _=>by
  cases h
  refine⟨bV.nil,fun cx σ ι S a w _ _ hx=>⟨a.eval x,?_,hx⟩⟩
  rcases ho with ho|ho<;>simp[execOp,ho]
theorem fq {P:Program} {T:hZ} {o:Oper} {σ0:St} {x:Operand} (ho:o.op= .nilCheck x):
 lU P o σ0 (jP σ0 x o.dst fun X=>match X with
  | .e (.c (.pt ob k))=>match aV σ0 (.o ob) with
   |some (.box ty cs)=>some (True,[(.o ob,some (.box ty cs))],.e (.c (.pt ob k)))
   |_=>none
  |_=>none):=
 kT fun X p R Y h _=>by
  split at h
  · rename_i ob k
    split at h
    · rename_i ty cs hl
      cases h
      refine⟨bV.one hl,fun cx σ ι S a w hr hw hx=> ?_⟩
      have hl':=hr (.o ob,some (.box ty cs)) (by simp)
      have hx':CR σ ι w S (.pt ob k) (a.eval x):=hx
      obtain⟨_,h2⟩:=hx'
      rcases h2 with⟨ty',cs',hl2,b,hi,hv⟩|hd
      · exact⟨a.eval x,by simp[execOp,ho,hv],hx⟩
      · dsimp only at hl';rw[hl'] at hd;cases hd
    · cases h
  · cases h
def uo (i:Nat):V→Option (Prop×List (dK×Option K)×V)
 | .tup xs=>match xs[i]? with
  |some x=>some (True,[],.e x)
  |none=>none
 |_=>none
theorem aDa {P:Program} {o:Oper} {σ:St} {x:Operand} {i:Nat} (ho:o.op= .extract x i):lU P o σ (jP σ x o.dst (uo i)):=
 kT fun X p R Y h _=>by
  unfold uo at h
  split at h
  · rename_i xs
    split at h
    · rename_i y hy
      cases h
      refine⟨bV.nil,fun cx σ ι S a w _ _ hx=> ?_⟩
      obtain⟨vs,hv,hl,hk⟩:=hx
      have hi:i<vs.length:=by rw[hl];exact(aYa.1 hy).1
      exact⟨vs[i],by simp[execOp,ho,hv,Instr.extract,hi],hk i y _ hy (aX9 hi)⟩
    · cases h
  · cases h
def aBh (m n:Int):Int:=IntKind.i64.wrap ((BitVec.ofInt IntKind.i64.bits m ^^^ BitVec.ofInt IntKind.i64.bits n).toNat)
def nr (m n:Int):Int:=IntKind.u8.wrap ((BitVec.ofInt IntKind.u8.bits m ^^^ BitVec.ofInt IntKind.u8.bits n).toNat)
def jB (n:Int):Int:=n % 256
theorem xS (n:Int):IntKind.i64.wrap n=wrap64 n:=IntKind.wrap_i64 n
theorem jr (n:Int):IntKind.u8.wrap n=jB n:=by
 simp[IntKind.wrap,IntKind.bits,IntKind.signed,jB]
def aNr:Nat:=9223372036854775807
def bin:BinOp→D→D→Option (Prop×D)
 | .add,.i m,.i n=>some (True,.i (wrap64 (m+n)))
 | .sub,.i m,.i n=>some (True,.i (wrap64 (m - n)))
 | .mul,.i m,.i n=>some (True,.i (wrap64 (m*n)))
 | .quo,.i m,.i n=>some (n≠0,.i (wrap64 (m.tdiv n)))
 | .rem,.i m,.i n=>some (n≠0,.i (m.tmod n))
 | .xor,.i m,.i n=>some (True,.i (aBh m n))
 | .eql,.i m,.i n=>some (True,.b (m==n))
 | .neq,.i m,.i n=>some (True,.b (m != n))
 | .lss,.i m,.i n=>some (True,.b (decide (m<n)))
 | .leq,.i m,.i n=>some (True,.b (decide (m≤n)))
 | .gtr,.i m,.i n=>some (True,.b (decide (m>n)))
 | .geq,.i m,.i n=>some (True,.b (decide (m≥n)))
 | .add,.u m,.u n=>some (True,.u (jB (m+n)))
 | .sub,.u m,.u n=>some (True,.u (jB (m - n)))
 | .xor,.u m,.u n=>some (True,.u (nr m n))
 | .eql,.u m,.u n=>some (True,.b (m==n))
 | .neq,.u m,.u n=>some (True,.b (m != n))
 | .lss,.u m,.u n=>some (True,.b (decide (m<n)))
 | .leq,.u m,.u n=>some (True,.b (decide (m≤n)))
 | .gtr,.u m,.u n=>some (True,.b (decide (m>n)))
 | .geq,.u m,.u n=>some (True,.b (decide (m≥n)))
 | .add,.s l,.s r=>some (l.length+r.length≤aNr,.s (l++r))
 | .eql,.s l,.s r=>some (True,.b (l==r))
 | .neq,.s l,.s r=>some (True,.b (!(l==r)))
 |_,_,_=>none
theorem aLc (l:List UInt8): (⟨l.toArray⟩:ByteArray).toList=l:=by
 have h: ∀(n i:Nat) (acc:List UInt8),l.length - i=n→ByteArray.toList.loop ⟨l.toArray⟩ i acc=acc.reverse++l.drop i:=by
  intro n
  induction n with
  |zero=>
   intro i acc hn
   unfold ByteArray.toList.loop
   have: ¬i< (⟨l.toArray⟩:ByteArray).size:=by show ¬i<l.toArray.size;simp;omega
   rw[aB this,List.drop_eq_nil_of_le (by omega)]
   simp
  |succ n ih=>
   intro i acc hn
   unfold ByteArray.toList.loop
   have hi:i<l.length:=by omega
   have:i< (⟨l.toArray⟩:ByteArray).size:=by show i<l.toArray.size;simpa using hi
   rw[aC this,ih (i+1) _ (by omega),List.drop_eq_getElem_cons hi]
   have hg: (⟨l.toArray⟩:ByteArray).get! i=l[i]:=by
    show l.toArray[i]! =l[i]
    simp[hi]
   rw[hg];simp
 unfold ByteArray.toList
 rw[h _ 0 [] rfl];simp
theorem yR (l:List UInt8): (⟨l.toArray⟩:ByteArray).size=l.length:=by show l.toArray.size=l.length;simp
theorem aLd (l r:List UInt8): (⟨l.toArray⟩:ByteArray)++⟨r.toArray⟩=⟨(l++r).toArray⟩:=by
 apply ByteArray.ext
 rw[ByteArray.data_append]
 simp
theorem nA {P:Program} {w:World} (op:BinOp) (t:TypeId) (x y:Operand) (k k':IntKind) (m n:Int): (eqGuard op t x y (.int k m) (.int k' n)).run P w= .ok () w:=by
 cases op<;>rfl
theorem ba {P:Program} {w:World} (op:BinOp) (t:TypeId) (x y:Operand) (m n:ByteArray): (eqGuard op t x y (.string m) (.string n)).run P w= .ok () w:=by
 cases op<;>rfl
theorem xT {P:Program} {w:World} (op:BinOp) (t:TypeId) (x y:Operand) (m n:Bool): (eqGuard op t x y (.bool m) (.bool n)).run P w= .ok () w:=by
 cases op<;>rfl
theorem aLe {P:Program} {w:World} {S:Nat→Prop} {op:BinOp} {x y z:D} {p:Prop} {vx vy:Value} (h:bin op x y=some (p,z)) (hp:p) (hx:DR w S x vx) (hy:DR w S y vy) (t:TypeId) (ox oy:Operand):
 ∃v,(do eqGuard op t ox oy vx vy;binOp op t vx vy:Sem Value).run P w= .ok v w∧DR w S z v:=by
 cases hx<;>cases hy<;>cases op<;>first
  |(simp only[bin] at h;cases h;done)
  |(simp only[bin,Option.some.injEq,Prod.mk.injEq] at h
    obtain⟨rfl,rfl⟩:=h
    first
     |(refine⟨_,?_,DR.i _⟩;rw[Sem.run_bind,nA];rfl)
     |(refine⟨_,?_,DR.u _⟩;rw[Sem.run_bind,nA];rfl)
     |(refine⟨_,?_,DR.i _⟩;simp[nA,binOp,Op.intArith,Op.intDiv,Op.intBits,Op.intCmp,xS,hp,aBh,IntKind.bits];done)
     |(refine⟨_,?_,DR.b _⟩;simp[nA,binOp,Op.intArith,Op.intDiv,Op.intBits,Op.intCmp,ba,Op.stringOp,aLc];done)
     |(refine⟨_,?_,DR.u _⟩;simp[nA,binOp,Op.intArith,Op.intDiv,Op.intBits,Op.intCmp,jr,nr,IntKind.bits,jB];done)
     |(refine⟨_,?_,DR.s _⟩;simp only[aNr] at hp;simp[ba,binOp,Op.stringOp,aLd,yR,IntKind.max,IntKind.bits,IntKind.signed];omega))
set_option linter.unusedSimpArgs false
def fUn:UnOp→V→Option (Prop×List (dK×Option K)×V)
 | .not,.e (.c (.d (.b x)))=>some (True,[],B (!x))
 | .neg,.e (.c (.d (.i n)))=>some (True,[],I (wrap64 (0 - n)))
 |_,_=>none
theorem aQa {P:Program} {o:Oper} {σ:St} {x:Operand} {u:UnOp} {t:TypeId} (ho:o.op= .unOp u t x):lU P o σ (jP σ x o.dst (fUn u)):=
 kT fun X p R Y h _=>by
  unfold fUn at h
  split at h
  · cases h
    refine⟨bV.nil,fun cx σ ι S a w _ _ hx=> ?_⟩
    simp only[mI,ER,CR] at hx
    cases hv:a.eval x<;>rw[hv] at hx<;>cases hx
    exact⟨_,by simp[execOp,ho,hv,Op.unary]<;>rfl,.b _⟩
  · cases h
    refine⟨bV.nil,fun cx σ ι S a w _ _ hx=> ?_⟩
    simp only[mI,ER,CR] at hx
    cases hv:a.eval x<;>rw[hv] at hx<;>cases hx
    exact⟨_,by simp[execOp,ho,hv,Op.unary,Op.intArith,xS]<;>rfl,.i _⟩
  · cases h
def aQb (op:BinOp):V→V→Option (Prop×List (dK×Option K)×V)
 | .e (.c (.d x)),.e (.c (.d y))=>match bin op x y with
  |some (p,z)=>some (p,[],Dv z)
  |none=>none
 |_,_=>none
theorem aE4 {P:Program} {o:Oper} {σ:St} {x y:Operand} {op:BinOp} {t u:TypeId} (ho:o.op= .binOp op t x y u):lU P o σ (rV σ x y o.dst (aQb op)):=
 rZ fun X Y p R Z h hp=>by
  unfold aQb at h
  split at h
  · split at h
    · rename_i p' z hb
      cases h
      refine⟨bV.nil,fun cx σ ι S a w _ _ hx hy=> ?_⟩
      obtain⟨v,hr,hz⟩:=aLe (P:=P) hb hp hx hy t x y
      exact⟨v,by unfold execOp;simp only[ho];rw[Sem.run_bind,hr];rfl,hz⟩
    · cases h
  · cases h
def aNs (T:hZ) (dst:TypeId):V→Option (Prop×List (dK×Option K)×V)
 | .e (.c (.d (.i n)))=>match T dst with
  |some ⟨.int .i64,_,_,_⟩=>some (True,[],I (wrap64 n))
  |some ⟨.int .u8,_,_,_⟩=>some (True,[],Dv (.u (jB n)))
  |_=>none
 | .e (.c (.d (.u n)))=>match T dst with
  |some ⟨.int .i64,_,_,_⟩=>some (True,[],I (wrap64 n))
  |some ⟨.int .u8,_,_,_⟩=>some (True,[],Dv (.u (jB n)))
  |_=>none
 |_=>none
theorem aE5 {P:Program} {w:World} {src dst:TypeId} {k k':IntKind} {n:Int} (hs: (P.underlying src).isSome=true) (hd:P.underlying dst=some (.int k')): (convert src dst (.int k n)).run P w= .ok (.int k' (k'.wrap n)) w:=by
 obtain⟨d,hd'⟩:=Option.isSome_iff_exists.mp hs
 simp[convert,run_underlying hd',run_underlying hd,Conv.intToInt]
theorem aLf {P:Program} {T:hZ} (hT:dV P T) {o:Oper} {σ:St} {x:Operand} {src dst:TypeId} (ho:o.op= .convert src dst x) (hs: (T src).isSome=true):lU P o σ (jP σ x o.dst (aNs T dst)):=by
 obtain⟨si,hsi⟩:=Option.isSome_iff_exists.mp hs
 have hsrc: (P.underlying src).isSome=true:=by
  have:=(hT src si hsi).kind
  cases hk:si.kind<;>rw[hk] at this<;>simp only[mM] at this<;>(try(obtain⟨_,this,_⟩:=this))<;>simp[this]
 refine kT fun X p R Y h _=> ?_
 unfold aNs at h
 split at h<;>try(cases h;done)
 all_goals
  split at h<;>try(cases h;done)
  all_goals
   rename_i ht
   cases h
   refine⟨bV.nil,fun cx σ ι S a w _ _ hx=> ?_⟩
   have hk:=(hT dst _ ht).kind
   simp only[mM] at hk
   simp only[mI,ER,CR] at hx
   cases hv:a.eval x<;>rw[hv] at hx<;>cases hx
   first
    |exact⟨_,by simp[execOp,ho,hv,aE5 hsrc hk,xS,jr]<;>rfl,.i _⟩
    |exact⟨_,by simp[execOp,ho,hv,aE5 hsrc hk,xS,jr]<;>rfl,.u _⟩
def aNt:V→V→Option (Prop×List (dK×Option K)×V)
 | .e (.c (.d (.s l))),.e (.c (.d (.i n)))=>some (0≤n∧n<l.length,[],Dv (.u ((l.getD n.toNat 0).toNat:Int)))
 |_,_=>none
theorem aLg {P:Program} {T:hZ} (hT:dV P T) {o:Oper} {σ:St} {x y:Operand} {t:TypeId} {ti:TI} (ho:o.op= .index t x y) (ht:T t=some ti) (hk:ti.kind= .str):lU P o σ (rV σ x y o.dst aNt):=
 rZ fun X Y p R Z h hp=>by
  unfold aNt at h
  split at h
  · rename_i l n
    cases h
    refine⟨bV.nil,fun cx σ ι S a w _ _ hx hy=> ?_⟩
    have hu:=(hT t ti ht).kind
    rw[hk] at hu;simp only[mM] at hu
    simp only[mI,ER,CR] at hx hy
    cases hv:a.eval x<;>rw[hv] at hx<;>cases hx
    cases hv2:a.eval y<;>rw[hv2] at hy<;>cases hy
    have hlt:n.toNat<l.length:=by omega
    have hg: (⟨l.toArray⟩:ByteArray)[n.toNat]? =some l[n.toNat]:=by
     have hsz:n.toNat< (⟨l.toArray⟩:ByteArray).size:=by rw[yR];exact hlt
     rw[getElem?_pos (⟨l.toArray⟩:ByteArray) n.toNat hsz];rfl
    refine⟨.int .u8 (l[n.toNat].toNat),?_,?_⟩
    · simp[execOp,ho,hv,hv2,Instr.index,asIntOf,run_underlying hu,hp.1,hg]
    · have:l.getD n.toNat 0=l[n.toNat]:=by simp[hlt]
      rw[this];exact .u _
  · cases h
def nt (σ:St):V→Option (Prop×List (dK×Option K)×V)
 | .e (.c (.d (.s l)))=>some (True,[],I l.length)
 | .e (.c (.d (.sl rows)))=>some (True,[],I rows.length)
 | .e (.c .nil)=>some (True,[],I 0)
 | .e (.c (.own ob n))=>match aV σ (.o ob) with
  |some (.row e es rows)=>some (rows.length=n,[(.o ob,some (.row e es rows))],I n)
  |_=>none
 |_=>none
theorem aNu {P:Program} {T:hZ} (hT:dV P T) {o:Oper} {σ0:St} {x:Operand} {t:TypeId} {ti:TI} (ho:o.op= .call {callee:= .builtin .len,args:= #[x],argTypes:= #[t]}) (ht:T t=some ti)
 (hk:ti.kind= .str∨ ∃e,ti.kind= .sl e):lU P o σ0 (jP σ0 x o.dst fun X=>match ti.kind,X with
  | .str,.e (.c (.d (.s l)))=>nt σ0 (.e (.c (.d (.s l))))
  | .sl _,.e (.c (.d (.sl rows)))=>nt σ0 (.e (.c (.d (.sl rows))))
  | .sl _,.e (.c .nil)=>nt σ0 (.e (.c .nil))
  | .sl _,.e (.c (.own ob n))=>nt σ0 (.e (.c (.own ob n)))
  |_,_=>none):=
 kT fun X p R Y h hp=>by
  have hu:=(hT t ti ht).kind
  split at h<;>try(cases h;done)
  · rename_i hkk
    rw[hkk] at hu;simp only[mM] at hu
    cases h
    refine⟨bV.nil,fun cx σ ι S a w _ _ hx=> ?_⟩
    simp only[mI,ER,CR] at hx
    cases hv:a.eval x<;>rw[hv] at hx<;>cases hx
    exact⟨_,by simp[execOp,ho,hv,resolve,invoke,builtin,Builtin.len_,run_underlying hu,yR]<;>rfl,.i _⟩
  · rename_i hkk
    rw[hkk] at hu;simp only[mM] at hu
    cases h
    refine⟨bV.nil,fun cx σ ι S a w _ _ hx=> ?_⟩
    simp only[mI,ER,CR] at hx
    cases hv:a.eval x<;>rw[hv] at hx<;>cases hx
    exact⟨_,by simp[execOp,ho,hv,resolve,invoke,builtin,Builtin.len_,run_underlying hu]<;>rfl,.i _⟩
  · rename_i hkk
    rw[hkk] at hu;simp only[mM] at hu
    cases h
    refine⟨bV.nil,fun cx σ ι S a w _ _ hx=> ?_⟩
    simp only[mI,ER,CR] at hx
    exact⟨_,by simp[execOp,ho,hx,resolve,invoke,builtin,Builtin.len_,run_underlying hu]<;>rfl,.i _⟩
  · rename_i e ob n hkk
    rw[hkk] at hu;simp only[mM] at hu
    simp only[nt] at h
    split at h
    · rename_i e' es rows hl
      cases h
      refine⟨bV.one hl,fun cx σ ι S a w hr hw hx=> ?_⟩
      have hl':=hr (.o ob,some (.row e' es rows)) (by simp)
      dsimp only at hl'
      obtain⟨_,h2⟩:=(show CR σ ι w S (.own ob n) (a.eval x) from hx)
      rcases h2 with⟨e2,es2,rows2,hl2,hn,hv⟩|hd
      · rw[hl'] at hl2;cases hl2
        have hv:=hv hp
        have ho2:=hw.vr.objs ob _ hl'
        have hlen: ∃a0 c0,ι ob= .slice a0 n c0:=by
         rcases ho2 with⟨hn2,hr2⟩|⟨g,off,cap,cur,fz,hg,_⟩
         · subst hr2;simp at hp;subst hp;exact⟨_,_,hn2⟩
         · rw[hp] at hg;exact⟨_,_,hg⟩
        obtain⟨a0,c0,hi⟩:=hlen
        exact⟨_,by simp[execOp,ho,hv,hi,resolve,invoke,builtin,Builtin.len_,run_underlying hu]<;>rfl,.i _⟩
      · rw[hl'] at hd;cases hd
    · cases h
set_option linter.unusedSimpArgs false
theorem lO (b k n:Nat): (⟨b,k,none⟩:Addr).add n=⟨b,k+n,none⟩:=by unfold Addr.add;split<;>simp_all
theorem add_add (a:Addr) (m n:Nat): (a.add m).add n=a.add (m+n):=by
 unfold Addr.add
 by_cases h:m=0
 · subst h;simp
 · by_cases h2:n=0
   · subst h2;simp[h]
   · simp[h,h2,Nat.add_assoc,show m+n≠0 by omega]
theorem nu (a:Addr) (n:Nat): (a.add n).block=a.block:=by unfold Addr.add;split<;>rfl
theorem DR.sl_inv {w:World} {S:Nat→Prop} {rows:List (List D)} {v:Value} (h:DR w S (.sl rows) v):
 ∃(a:Option Addr) (cap es:Nat) (ad:Addr) (u:Nat→Nat→Value),v= .slice a rows.length cap∧rows.length≤cap∧cap≤maxLen∧(∀r∈rows,r.length=es)∧(rows≠[]→a=some ad)∧
  (∀(i:Nat) r (k:Nat) d,rows[i]? =some r→r[k]? =some d→S ad.block∧w.cell? (ad.add (i*es+k))=some (u i k))∧(∀(i:Nat) r (k:Nat) d,rows[i]? =some r→r[k]? =some d→DR w S d (u i k)):=by
 generalize hq:D.sl rows=q at h
 cases h with
 |sl rows' a cap es ad u h1 h2 h3 h4 h5 h6=>cases hq;exact⟨a,cap,es,ad,u,rfl,h1,h2,h3,h4,h5,h6⟩
 |_=>cases hq
def uG (T:hZ) (s f:Nat):Option (Nat×TI):=
 match T s with
 |some ⟨.st fs,_,_,_⟩=>match fs[f]? with
  |some (off,ft)=>match T ft with
   |some ti=>some (off,ti)
   |none=>none
  |none=>none
 |_=>none
theorem wW {P:Program} {T:hZ} (hT:dV P T) {s f off:Nat} {ti:TI} (h:uG T s f=some (off,ti)):
 ∃(fields:Array Field) (fl:Field),P.underlying s=some (.struct fields)∧fields[f]? =some fl∧fl.offset=off∧eU P fl.type ti:=by
 unfold uG at h
 split at h
 · rename_i fs _ _ _ hs
   split at h
   · rename_i off' ft hf
     split at h
     · rename_i ti' ht
       cases h
       obtain⟨fields,hu,hm⟩:=(hT s _ hs).kind
       rw[← hm,List.getElem?_map] at hf
       cases hq:fields.toList[f]? with
       |none=>rw[hq] at hf;cases hf
       |some fl=>
        rw[hq] at hf
        simp at hf
        refine⟨fields,fl,hu,by simpa using hq,hf.1,?_⟩
        rw[hf.2];exact hT ft _ ht
     · cases h
   · cases h
 · cases h
def gv (T:hZ) (σ:St) (s f:Nat):V→Option (Prop×List (dK×Option K)×V)
 | .e (.c (.pt ob k))=>match uG T s f,aV σ (.o ob) with
  |some (off,_),some (.box ty cs)=>some (True,[(.o ob,some (.box ty cs))],.e (.c (.pt ob (k+off))))
  |_,_=>none
 | .e (.c (.pe ob n i k))=>match uG T s f,aV σ (.o ob) with
  |some (off,_),some (.row e es rows)=>some (rows.length=n,[(.o ob,some (.row e es rows))],.e (.c (.pe ob n i (k+off))))
  |_,_=>none
 | .e (.c (.rp cs))=>match uG T s f with
  |some (off,_)=>some (True,[],.e (.c (.rp (cs.drop off))))
  |_=>none
 |_=>none
theorem vX {P:Program} {w:World} {T:hZ} (hT:dV P T) {s f off:Nat} {ti:TI} (h:uG T s f=some (off,ti)) (a:Addr): (Instr.fieldAt s (.pointer (some a)) f).run P w= .ok (.pointer (some (a.add off))) w:=by
 obtain⟨fields,fl,hu,hf,ho,hti⟩:=wW hT h
 have hp:=hti.pos
 have hne: ¬ti.size=0:=by omega
 simp[Instr.fieldAt,run_underlying hu,hf,Instr.sureAddr,fieldPlace,fU hti,hne,ho]
theorem uq {P:Program} {T:hZ} (hT:dV P T) {o:Oper} {σ0:St} {x:Operand} {s f:Nat} (ho:o.op= .fieldAddr s x f):lU P o σ0 (jP σ0 x o.dst (gv T σ0 s f)):=
 kT fun X p R Y h hp=>by
  unfold gv at h
  split at h
  · rename_i ob k
    split at h
    · rename_i off ti ty cs hf hl
      cases h
      refine⟨bV.one hl,fun cx σ ι S a w hr hw hx=> ?_⟩
      have hl':=hr (.o ob,some (.box ty cs)) (by simp)
      dsimp only at hl'
      obtain⟨_,h2⟩:=(show CR σ ι w S (.pt ob k) (a.eval x) from hx)
      rcases h2 with⟨ty2,cs2,hl2,b,hi,hv⟩|hd
      · refine⟨.pointer (some ⟨b,k+off,none⟩),by simp[execOp,ho,hv,vX hT hf,lO],rfl,.inl ⟨ty2,cs2,hl2,b,hi,rfl⟩⟩
      · rw[hl'] at hd;cases hd
    · cases h
  · rename_i ob n i k
    split at h
    · rename_i off ti e es rows hf hl
      cases h
      refine⟨bV.one hl,fun cx σ ι S a w hr hw hx=> ?_⟩
      have hl':=hr (.o ob,some (.row e es rows)) (by simp)
      dsimp only at hl'
      obtain⟨_,h2⟩:=(show CR σ ι w S (.pe ob n i k) (a.eval x) from hx)
      rcases h2 with⟨e2,es2,rows2,hl2,hn,hv⟩|hd
      · rw[hl'] at hl2;cases hl2
        obtain⟨g,off',cap,hi,hvv⟩:=hv hp
        refine⟨.pointer (some ⟨g,off'+i*es+(k+off),none⟩),by simp[execOp,ho,hvv,vX hT hf,lO];omega,rfl,.inl ⟨e,es,rows,hl',hn,fun _=>⟨g,off',cap,hi,rfl⟩⟩⟩
      · rw[hl'] at hd;cases hd
    · cases h
  · rename_i cs
    split at h
    · rename_i off ti hf
      cases h
      refine⟨bV.nil,fun cx σ ι S a w _ hw hx=> ?_⟩
      obtain⟨ad,hv,hk⟩:=(show CR σ ι w S (.rp cs) (a.eval x) from hx)
      refine⟨.pointer (some (ad.add off)),by simp[execOp,ho,hv,vX hT hf],ad.add off,rfl,fun k d hd=> ?_⟩
      rw[List.getElem?_drop] at hd
      obtain⟨hs,u,hu,hdr⟩:=hk (off+k) d hd
      refine⟨by rw[nu];exact hs,u,by rw[add_add];exact hu,hdr⟩
    · cases h
  · cases h
def aHn (T:hZ) (s f:Nat):V→Option (Prop×List (dK×Option K)×V)
 | .e (.agg cs)=>match uG T s f with
  |some (off,ti)=>if ti.kind.agg then some (off+ti.size≤cs.length,[],.e (.agg ((cs.drop off).take ti.size))) else some (off<cs.length,[],.e (.c (cs.getD off .nil)))
  |none=>none
 |_=>none
theorem aHo {P:Program} {T:hZ} (hT:dV P T) {o:Oper} {σ0:St} {x:Operand} {s f:Nat} (ho:o.op= .field s x f):lU P o σ0 (jP σ0 x o.dst (aHn T s f)):=
 kT fun X p R Y h hp=>by
  unfold aHn at h
  split at h
  · rename_i cs
    split at h
    · rename_i off ti hf
      obtain⟨fields,fl,hu,hfl,hoff,hti⟩:=wW hT hf
      split at h
      · rename_i hag
        cases h
        refine⟨bV.nil,fun cx σ ι S a w _ hw hx=> ?_⟩
        obtain⟨vs,hv,hl,hk⟩:=(show ER σ ι w S (.agg cs) (a.eval x) from hx)
        refine⟨.agg ((vs.drop off).take ti.size).toArray,?_,(vs.drop off).take ti.size,rfl,by simp[hl],fun k c u h1 h2=> ?_⟩
        · simp[execOp,ho,hv,Instr.field,run_underlying hu,hfl,asAgg,part,rY hti,hag,fU hti,hoff,List.extract_eq_take_drop]
        · rw[List.getElem?_take] at h1 h2
          split at h1
          · rename_i hlt
            rw[aC hlt] at h2
            rw[List.getElem?_drop] at h1 h2
            exact hk _ c u h1 h2
          · cases h1
      · rename_i hag
        cases h
        refine⟨bV.nil,fun cx σ ι S a w _ hw hx=> ?_⟩
        obtain⟨vs,hv,hl,hk⟩:=(show ER σ ι w S (.agg cs) (a.eval x) from hx)
        have hlt:off<vs.length:=by rw[hl];exact hp
        have hag':ti.kind.agg=false:=by simpa using hag
        refine⟨vs[off],?_,?_⟩
        · simp[execOp,ho,hv,Instr.field,run_underlying hu,hfl,asAgg,part,rY hti,hag',hoff,hlt]
        · have:cs.getD off .nil=cs[off]:=by simp[hp]
          rw[this]
          exact hk off _ _ (aX9 hp) (aX9 hlt)
    · cases h
  · cases h
def gw (T:hZ) (σ:St) (t:TypeId):V→V→Option (Prop×List (dK×Option K)×V)
 | .e (.c (.own ob n)),.e (.c (.d (.i j)))=>match T t,aV σ (.o ob) with
  |some ⟨.sl e,_,_,_⟩,some (.row e' es rows)=>match T e with
   |some ti=>if ti.size=es then some (rows.length=n∧0≤j∧j<n,[(.o ob,some (.row e' es rows))],.e (.c (.pe ob n j.toNat 0))) else none
   |none=>none
  |_,_=>none
 | .e (.c (.d (.sl rows))),.e (.c (.d (.i j)))=>match T t with
  |some ⟨.sl e,_,_,_⟩=>match T e with
   |some ti=>some ((0≤j∧j<rows.length)∧(rows.getD j.toNat []).length=ti.size,[],.e (.c (.rp (rows.getD j.toNat []))))
   |none=>none
  |_=>none
 | .e (.c (.pt ob k)),.e (.c (.d (.i j)))=>match T t,aV σ (.o ob) with
  |some ⟨.arr n e,_,_,_⟩,some (.box ty cs)=>match T e with
   |some ti=>some (0≤j∧j<n,[(.o ob,some (.box ty cs))],.e (.c (.pt ob (k+j.toNat*ti.size))))
   |none=>none
  |_,_=>none
 |_,_=>none
theorem vA {P:Program} {w:World} {t e:TypeId} {ti:TI} (hu:P.underlying t=some (.slice e)) (he:eU P e ti) (a:Addr) (len cap:Nat) (j:Int) (h0:0≤j) (h1:j<len):
 (Instr.indexAt t (.slice (some a) len cap) (.int .i64 j)).run P w= .ok (.pointer (some (a.add (j.toNat*ti.size)))) w:=by
 simp[Instr.indexAt,run_underlying hu,asIntOf,h0,h1,fU he]
theorem ur {P:Program} {T:hZ} (hT:dV P T) {o:Oper} {σ0:St} {x y:Operand} {t:TypeId} (ho:o.op= .indexAddr t x y):lU P o σ0 (rV σ0 x y o.dst (gw T σ0 t)):=
 rZ fun X Y p R Z h hp=>by
  unfold gw at h
  split at h
  · rename_i ob n j
    split at h<;>try(cases h;done)
    rename_i e _ _ _ e' es rows ht hl
    split at h<;>try(cases h;done)
    rename_i ti hte
    split at h<;>try(cases h;done)
    rename_i hes
    cases h
    have hu:=(hT t _ ht).kind
    simp only[mM] at hu
    refine⟨bV.one hl,fun cx σ ι S a w hr hw hx hy=> ?_⟩
    have hl':=hr (.o ob,some (.row e' es rows)) (by simp)
    dsimp only at hl'
    simp only[mI,ER,CR] at hy
    cases hv2:a.eval y<;>rw[hv2] at hy<;>cases hy
    obtain⟨_,h2⟩:=(show CR σ ι w S (.own ob n) (a.eval x) from hx)
    rcases h2 with⟨e2,es2,rows2,hl2,hn,hv⟩|hd
    · rw[hl'] at hl2;cases hl2
      have hv:=hv hp.1
      rcases hw.vr.objs ob _ hl' with⟨hn2,hr2⟩|⟨g,off,cap,cur,fz,hg,_⟩
      · subst hr2;have h1:=hp.1;have h3:=hp.2.2;have h4:=hp.2.1;simp at h1;omega
      · rw[hp.1] at hg
        refine⟨.pointer (some ⟨g,off+j.toNat*es+0,none⟩),?_,rfl,.inl ⟨e',es,rows,hl',hn,fun _=>⟨g,off,cap,hg,rfl⟩⟩⟩
        simp[execOp,ho,hv,hv2,hg,vA hu (hT e ti hte) ⟨g,off,none⟩ n cap j hp.2.1 hp.2.2,lO,hes]
    · rw[hl'] at hd;cases hd
  · rename_i rows j
    split at h<;>try(cases h;done)
    rename_i e _ _ _ ht
    split at h<;>try(cases h;done)
    rename_i ti hte
    cases h
    have hu:=(hT t _ ht).kind
    simp only[mM] at hu
    refine⟨bV.nil,fun cx σ ι S a w hr hw hx hy=> ?_⟩
    simp only[mI,ER,CR] at hx hy
    cases hv2:a.eval y<;>rw[hv2] at hy<;>cases hy
    obtain⟨⟨h0,h1⟩,hlen⟩:=hp
    have hlt:j.toNat<rows.length:=by omega
    have hrow:rows.getD j.toNat []=rows[j.toNat]:=by simp[hlt]
    obtain⟨a0,cap,es,ad,u,hv,hc,hm,he,ha,hw1,hd1⟩:=hx.sl_inv
    have ha0:=ha (by intro e;rw[e] at hlt;simp at hlt)
    subst ha0
    refine⟨.pointer (some (ad.add (j.toNat*ti.size))),?_,ad.add (j.toNat*ti.size),rfl,fun k d hd=> ?_⟩
    · simp[execOp,ho,hv,hv2,vA hu (hT e ti hte) ad rows.length cap j h0 h1]
    · rw[hrow] at hd hlen
      have hes:es=ti.size:=by rw[← hlen];exact(he _ (List.getElem_mem hlt)).symm
      obtain⟨hs,hcell⟩:=hw1 j.toNat _ k d (aX9 hlt) hd
      rw[hes] at hcell
      exact⟨by rw[nu];exact hs,_,by rw[add_add];exact hcell,hd1 j.toNat _ k d (aX9 hlt) hd⟩
  · rename_i ob k j
    split at h<;>try(cases h;done)
    rename_i n e _ _ _ ty cs ht hl
    split at h<;>try(cases h;done)
    rename_i ti hte
    cases h
    have hu:=(hT t _ ht).kind
    simp only[mM] at hu
    refine⟨bV.one hl,fun cx σ ι S a w hr hw hx hy=> ?_⟩
    have hl':=hr (.o ob,some (.box ty cs)) (by simp)
    dsimp only at hl'
    simp only[mI,ER,CR] at hy
    cases hv2:a.eval y<;>rw[hv2] at hy<;>cases hy
    obtain⟨_,h2⟩:=(show CR σ ι w S (.pt ob k) (a.eval x) from hx)
    rcases h2 with⟨ty2,cs2,hl2,b,hi,hv⟩|hd
    · refine⟨.pointer (some ⟨b,k+j.toNat*ti.size,none⟩),?_,rfl,.inl ⟨ty2,cs2,hl2,b,hi,rfl⟩⟩
      simp[execOp,ho,hv,hv2,Instr.indexAt,run_underlying hu,asIntOf,Instr.sureAddr,hp.1,hp.2,fU (hT e ti hte),lO]
    · rw[hl'] at hd;cases hd
  · cases h
set_option linter.unusedSimpArgs false
def ut (T:hZ) (σ:St) (t:TypeId):V→Option (Prop×List (dK×Option K)×V)
 | .e (.c (.pt ob k))=>match T t,aV σ (.o ob) with
  |some ti,some (.box ty cs)=>if ti.kind.agg then some (k+ti.size≤cs.length,[(.o ob,some (.box ty cs))],.e (.agg ((cs.drop k).take ti.size)))
   else some (k<cs.length,[(.o ob,some (.box ty cs))],.e (.c (cs.getD k .nil)))
  |_,_=>none
 | .e (.c (.pe ob n i k))=>match T t,aV σ (.o ob) with
  |some ti,some (.row e es rows)=>if ti.kind.agg then some (rows.length=n∧i<n∧k+ti.size≤(rows.getD i []).length,[(.o ob,some (.row e es rows))],.e (.agg ((((rows.getD i []).drop k).take ti.size).map C.d)))
   else some (rows.length=n∧i<n∧k< (rows.getD i []).length,[(.o ob,some (.row e es rows))],Dv ((rows.getD i []).getD k (.i 0)))
  |_,_=>none
 | .e (.c (.rp cs))=>match T t with
  |some ti=>if ti.kind.agg then some (ti.size≤cs.length,[],.e (.agg ((cs.take ti.size).map C.d))) else some (0<cs.length,[],Dv (cs.getD 0 (.i 0)))
  |_=>none
 |_=>none
theorem aBi {P:Program} {T:hZ} (hT:dV P T) {o:Oper} {σ0:St} {x:Operand} {t:TypeId} (ho:o.op= .load t x):lU P o σ0 (jP σ0 x o.dst (ut T σ0 t)):=
 kT fun X p R Y h hp=>by
  unfold ut at h
  split at h
  · rename_i ob k
    split at h<;>try(cases h;done)
    rename_i ti ty cs ht hl
    have hti:=hT t ti ht
    have main: ∀(cx:Cx P) (σ:St) (ι:Nat→Value) (S:Nat→Prop) (a:Act) (w:World),bV [(.o ob,some (.box ty cs))] σ→RW cx σ ι S a w→mI σ ι w S (.e (.c (.pt ob k))) (a.eval x)→
     ∃(b:Nat) (vs:List Value),a.eval x= .pointer (some ⟨b,k,none⟩)∧vs.length=cs.length∧(∀(j:Nat) v,vs[j]? =some v→w.cell? ⟨b,j,none⟩=some v)∧ ∀(j:Nat) c u,cs[j]? =some c→vs[j]? =some u→CR σ ι w S c u:=by
     intro cx σ ι S a w hr hw hx
     have hl':=hr (.o ob,some (.box ty cs)) (by simp)
     dsimp only at hl'
     obtain⟨_,h2⟩:=(show CR σ ι w S (.pt ob k) (a.eval x) from hx)
     rcases h2 with⟨ty2,cs2,hl2,b,hi,hv⟩|hd
     · obtain⟨b',vs,hi',hh,hsz,hc⟩:=hw.vr.objs ob _ hl'
       rw[hi] at hi'
       cases hi'
       refine⟨b,vs.toList,hv,by simpa using hsz,fun j v hj=> ?_,fun j c u h1 h2=>hc j c u h1 (by simpa using h2)⟩
       rw[cell_of_row w b j vs ty (0,0) hh];simpa using hj
     · rw[hl'] at hd;cases hd
    split at h
    · rename_i hag
      cases h
      refine⟨bV.one hl,fun cx σ ι S a w hr hw hx=> ?_⟩
      obtain⟨b,vs,hv,hlen,hcell,hc⟩:=main cx σ ι S a w hr hw hx
      refine⟨.agg ((vs.drop k).take ti.size).toArray,?_,(vs.drop k).take ti.size,rfl,by simp[hlen],fun j c u h1 h2=> ?_⟩
      · have:=mZ (w:=w) hti hag ⟨b,k,none⟩ ((vs.drop k).take ti.size) (by simp[hlen];omega) (fun j v hj=>by
         rw[lO]
         rw[List.getElem?_take] at hj
         split at hj
         · rw[List.getElem?_drop] at hj;exact hcell _ _ hj
         · cases hj)
        simp[execOp,ho,hv,Instr.loadAt,Instr.sureAddr,this]
      · rw[List.getElem?_take] at h1 h2
        split at h1
        · rename_i hlt
          rw[aC hlt] at h2
          rw[List.getElem?_drop] at h1 h2
          exact hc _ c u h1 h2
        · cases h1
    · rename_i hag
      have hag':ti.kind.agg=false:=by simpa using hag
      cases h
      refine⟨bV.one hl,fun cx σ ι S a w hr hw hx=> ?_⟩
      obtain⟨b,vs,hv,hlen,hcell,hc⟩:=main cx σ ι S a w hr hw hx
      have hlt:k<vs.length:=by rw[hlen];exact hp
      refine⟨vs[k],?_,?_⟩
      · have:=tT (w:=w) hti hag' ⟨b,k,none⟩ vs[k] (hcell k _ (aX9 hlt))
        simp[execOp,ho,hv,Instr.loadAt,Instr.sureAddr,this]
      · have:cs.getD k .nil=cs[k]:=by simp[hp]
        rw[this]
        exact hc k _ _ (aX9 hp) (aX9 hlt)
  · rename_i ob n i k
    split at h<;>try(cases h;done)
    rename_i ti e es rows ht hl
    have hti:=hT t ti ht
    have main: ∀(cx:Cx P) (σ:St) (ι:Nat→Value) (S:Nat→Prop) (a:Act) (w:World),bV [(.o ob,some (.row e es rows))] σ→RW cx σ ι S a w→mI σ ι w S (.e (.c (.pe ob n i k))) (a.eval x)→rows.length=n→i<n→
     ∃(b off:Nat),a.eval x= .pointer (some ⟨b,off+k,none⟩)∧(∀(j:Nat) d,(rows.getD i [])[j]? =some d→ ∃u,w.cell? ⟨b,off+j,none⟩=some u∧DR w S d u):=by
     intro cx σ ι S a w hr hw hx hn hi
     have hl':=hr (.o ob,some (.row e es rows)) (by simp)
     dsimp only at hl'
     obtain⟨_,h2⟩:=(show CR σ ι w S (.pe ob n i k) (a.eval x) from hx)
     rcases h2 with⟨e2,es2,rows2,hl2,hn2,hv⟩|hd
     · rw[hl'] at hl2;cases hl2
       obtain⟨g,off,cap,hig,hvv⟩:=hv hn
       rcases hw.vr.objs ob _ hl' with⟨hn3,_⟩|⟨g',off',cap',cur,fz,hg,hh,_,_,_,_,hrows⟩
       · rw[hig] at hn3;cases hn3
       · rw[hig] at hg;cases hg
         have hlt:i<rows.length:=by omega
         have hrow:rows.getD i []=rows[i]:=by simp[hlt]
         refine⟨g,off+i*es,hvv,fun j d hd=> ?_⟩
         rw[hrow] at hd
         obtain⟨u,hu,hdr⟩:=(hrows i _ (aX9 hlt)).2 j d hd
         exact⟨u,by rw[cell_of_row w g _ cur e fz hh];exact hu,hdr⟩
     · rw[hl'] at hd;cases hd
    split at h
    · rename_i hag
      cases h
      refine⟨bV.one hl,fun cx σ ι S a w hr hw hx=> ?_⟩
      obtain⟨b,off,hv,hcell⟩:=main cx σ ι S a w hr hw hx hp.1 hp.2.1
      have hex: ∃vs:List Value,vs.length=ti.size∧(∀(j:Nat) v,vs[j]? =some v→w.cell? ⟨b,off+k+j,none⟩=some v)∧ ∀(j:Nat) d u,(((rows.getD i []).drop k).take ti.size)[j]? =some d→vs[j]? =some u→DR w S d u:=by
       refine⟨(aYb ti.size).map fun j=>(w.cell? ⟨b,off+k+j,none⟩).getD undef,by simp,fun j v hj=> ?_,fun j d u h1 h2=> ?_⟩
       · have hjl:j<ti.size:=by have:=(aYa.1 hj).1;simpa using this
         simp[hjl] at hj
         have hlt:k+j< (rows.getD i []).length:=by omega
         obtain⟨u,hu,_⟩:=hcell (k+j) _ (aX9 hlt)
         rw[← Nat.add_assoc] at hu
         rw[hu] at hj ⊢
         simpa using hj
       · have hjl:j<ti.size:=by have:=(aYa.1 h2).1;simpa using this
         rw[List.getElem?_take,aC hjl,List.getElem?_drop] at h1
         obtain⟨u',hu,hdr⟩:=hcell (k+j) d h1
         rw[← Nat.add_assoc] at hu
         simp[hjl,hu] at h2
         subst h2;exact hdr
      obtain⟨vs,hvl,hvc,hvd⟩:=hex
      refine⟨.agg vs.toArray,?_,vs,rfl,by rw[List.length_map,aX4,aX7,hvl];omega,fun j c u h1 h2=> ?_⟩
      · have:=mZ (w:=w) hti hag ⟨b,off+k,none⟩ vs hvl (fun j v hj=>by rw[lO];exact hvc j v hj)
        simp[execOp,ho,hv,Instr.loadAt,Instr.sureAddr,this]
      · rw[List.getElem?_map] at h1
        cases hq: (((rows.getD i []).drop k).take ti.size)[j]? with
        |none=>rw[hq] at h1;cases h1
        |some d=>rw[hq] at h1;cases h1;exact hvd j d u hq h2
    · rename_i hag
      have hag':ti.kind.agg=false:=by simpa using hag
      cases h
      refine⟨bV.one hl,fun cx σ ι S a w hr hw hx=> ?_⟩
      obtain⟨b,off,hv,hcell⟩:=main cx σ ι S a w hr hw hx hp.1 hp.2.1
      have hlt:=hp.2.2
      obtain⟨u,hu,hdr⟩:=hcell k _ (aX9 hlt)
      refine⟨u,?_,?_⟩
      · have:=tT (w:=w) hti hag' ⟨b,off+k,none⟩ u hu
        simp[execOp,ho,hv,Instr.loadAt,Instr.sureAddr,this]
      · have: (rows.getD i []).getD k (.i 0)=(rows.getD i [])[k]:=by
         rw[aX6,aX9 hlt];rfl
        simp only[Dv,mI,ER,CR]
        rw[this];exact hdr
  · rename_i cs
    split at h<;>try(cases h;done)
    rename_i ti ht
    have hti:=hT t ti ht
    split at h
    · rename_i hag
      cases h
      refine⟨bV.nil,fun cx σ ι S a w hr hw hx=> ?_⟩
      obtain⟨ad,hv,hk⟩:=(show CR σ ι w S (.rp cs) (a.eval x) from hx)
      have hex: ∃vs:List Value,vs.length=ti.size∧(∀(j:Nat) v,vs[j]? =some v→w.cell? (ad.add j)=some v)∧ ∀(j:Nat) d u,(cs.take ti.size)[j]? =some d→vs[j]? =some u→DR w S d u:=by
       refine⟨(aYb ti.size).map fun j=>(w.cell? (ad.add j)).getD undef,by simp,fun j v hj=> ?_,fun j d u h1 h2=> ?_⟩
       · have hjl:j<ti.size:=by have:=(aYa.1 hj).1;simpa using this
         simp[hjl] at hj
         have hlt:j<cs.length:=by omega
         obtain⟨_,u,hu,_⟩:=hk j _ (aX9 hlt)
         rw[hu] at hj ⊢
         simpa using hj
       · have hjl:j<ti.size:=by have:=(aYa.1 h2).1;simpa using this
         rw[List.getElem?_take,aC hjl] at h1
         obtain⟨_,u',hu,hdr⟩:=hk j d h1
         simp[hjl,hu] at h2
         subst h2;exact hdr
      obtain⟨vs,hvl,hvc,hvd⟩:=hex
      refine⟨.agg vs.toArray,?_,vs,rfl,by simp[hvl];omega,fun j c u h1 h2=> ?_⟩
      · have:=mZ (w:=w) hti hag ad vs hvl hvc
        simp[execOp,ho,hv,Instr.loadAt,Instr.sureAddr,this]
      · rw[List.getElem?_map] at h1
        cases hq: (cs.take ti.size)[j]? with
        |none=>rw[hq] at h1;cases h1
        |some d=>rw[hq] at h1;cases h1;exact hvd j d u hq h2
    · rename_i hag
      have hag':ti.kind.agg=false:=by simpa using hag
      cases h
      refine⟨bV.nil,fun cx σ ι S a w hr hw hx=> ?_⟩
      obtain⟨ad,hv,hk⟩:=(show CR σ ι w S (.rp cs) (a.eval x) from hx)
      obtain⟨_,u,hu,hdr⟩:=hk 0 _ (aX9 hp)
      have ha0:ad.add 0=ad:=by simp[Addr.add]
      rw[ha0] at hu
      refine⟨u,?_,?_⟩
      · have:=tT (w:=w) hti hag' ad u hu
        simp[execOp,ho,hv,Instr.loadAt,Instr.sureAddr,this]
      · have:cs.getD 0 (.i 0)=cs[0]:=by
         rw[aX6,aX9 hp];rfl
        simp only[Dv,mI,ER,CR]
        rw[this];exact hdr
  · cases h
def aJ7 (σ:St) (c x y:Operand) (d:Option Tmp):Res:=
 match ev σ c,d with
 |some (.e (.c (.d (.b b))),R),some d=>match(if b then ev σ x else ev σ y) with
  |some (Y,R')=>some (True,R++R',[(.t d,.v Y)])
  |none=>none
 |_,_=>none
theorem aBj {P:Program} {o:Oper} {σ0:St} {c x y:Operand} (ho:o.op= .pick c x y):lU P o σ0 (aJ7 σ0 c x y o.dst):=by
 intro p R W h hp
 unfold aJ7 at h
 split at h
 · rename_i b Rc d hc hd
   split at h
   · rename_i Y R' hy
     cases h
     cases b with
     |true=>
      have hy:ev σ0 x=some (Y,R'):=hy
      refine⟨oL hd fun cx σ ι S a w hr hw=>⟨a.eval x,?_,dP hy hr.right hw⟩,(dH hc).append (dH hy)⟩
      have hcv:=dP hc hr.left hw
      simp only[mI,ER,CR] at hcv
      cases hv:a.eval c<;>rw[hv] at hcv<;>cases hcv
      simp[execOp,ho,hv,asBool]
     |false=>
      have hy:ev σ0 y=some (Y,R'):=hy
      refine⟨oL hd fun cx σ ι S a w hr hw=>⟨a.eval y,?_,dP hy hr.right hw⟩,(dH hc).append (dH hy)⟩
      have hcv:=dP hc hr.left hw
      simp only[mI,ER,CR] at hcv
      cases hv:a.eval c<;>rw[hv] at hcv<;>cases hcv
      simp[execOp,ho,hv,asBool]
   · cases h
 · cases h
set_option linter.unusedSimpArgs false
def wX (σ:St) (l:dK):Bool:=(aV σ l).isNone
def jU (σ:St) (d:Nat):Nat:=if wX σ (.o d) then d else if wX σ (.o (d+1000)) then d+1000 else d+2000
theorem qD {σ:St} {l:dK} (h:wX σ l=true):aV σ l=none:=by simpa[wX] using h
theorem jt {P:Program} {o:Oper} {d id:Nat} {R:List (dK×Option K)} {k:K} {X:V} (hd:o.dst=some d) (habs: (dK.o id,none)∈R)
 (h: ∀(cx:Cx P) (σ:St) (ι:Nat→Value) (S:Nat→Prop) (a:Act) (w:World),bV R σ→RW cx σ ι S a w→ ∃v p w',(execOp a.eval o).run P w= .ok (.value v) w'∧aLa σ ι S w id none k p w'∧
  mI (qM σ (.o id) k) (fun o=>if o=id then p else ι o) w' S X v):vW P o R [(.o id,k),(.t d,.v X)]:=by
 intro cx σ ι S a w hr hw hb next Q hn
 obtain⟨v,p,w',he,ht,hx⟩:=h cx σ ι S a w hr hw
 unfold Oper.wp
 rw[he]
 simp only[Oper.upon,hd]
 exact hn _ S _ w' ((hw.turn ht).put (hb d hd) hx)
theorem CR.one {σ:St} {ι:Nat→Value} {w:World} {S:Nat→Prop} {c:C} {v:Value} (h:CR σ ι w S c v):v.oneCell'=true:=by
 cases c with
 |d x=>exact DR.oneCell h
 |nil=>have h:v= .slice none 0 0:=h;rw[h];rfl
 |own o n=>exact h.1
 |pt o k=>exact h.1
 |pe o n i k=>exact h.1
 |rp cs=>obtain⟨ad,hv,_⟩:=h;rw[hv];rfl
 |z o Q=>exact h.1
def cellsOf:V→Option (List C)
 | .e (.c c)=>some [c]
 | .e (.agg cs)=>some cs
 |_=>none
theorem nN {σ:St} {ι:Nat→Value} {w:World} {S:Nat→Prop} {X:V} {cs:List C} {v:Value} (h:cellsOf X=some cs) (hx:mI σ ι w S X v):
 ∃vs:List Value,v.cells=vs.toArray∧vs.length=cs.length∧ ∀(k:Nat) c u,cs[k]? =some c→vs[k]? =some u→CR σ ι w S c u:=by
 unfold cellsOf at h
 split at h
 · rename_i c
   cases h
   have h1:=CR.one (show CR σ ι w S c v from hx)
   refine⟨[v],?_,rfl,fun k c' u h2 h3=> ?_⟩
   · cases v<;>first|rfl|(simp[Value.oneCell'] at h1)
   · cases k with
     |zero=>simp at h2 h3;subst h2;subst h3;exact hx
     |succ k=>simp at h2
 · rename_i cs'
   cases h
   obtain⟨vs,hv,hl,hk⟩:=(show ER σ ι w S (.agg cs) v from hx)
   exact⟨vs,by rw[hv];rfl,hl,hk⟩
 · cases h
theorem yS {σ:St} {ι ν:Nat→Value} {S:Nat→Prop} {w w0:World} {id:Nat} {k:K} {p:Value} {o:Obj} (hw:w0.heap=w.heap∧w0.os=w.os∧w0.tape=w.tape∧w0.output=w.output) (hno:aV σ (.o id)=none)
 (hp: ∀b,uZ p b→b=w.heap.size) (hor:rS σ ι S w (qM σ (.o id) k) (fun o=>if o=id then p else ι o) S (w0.alloc o)→OR (qM σ (.o id) k) (fun o=>if o=id then p else ι o) (w0.alloc o) S p k)
 (hsz: ∀b,S b→b<w.heap.size):aLa σ ι S w id none k p (w0.alloc o)∧rS σ ι S w (qM σ (.o id) k) (fun o=>if o=id then p else ι o) S (w0.alloc o):=by
 obtain⟨hh,ho,ht,hu⟩:=hw
 have hold: ∀b,b<w.heap.size→(w0.alloc o).heap[b]? =w.heap[b]?:=fun b hb=>by rw[heap_alloc_old w0 o b (by rw[hh];exact hb),hh]
 have st:rS σ ι S w (qM σ (.o id) k) (fun o=>if o=id then p else ι o) S (w0.alloc o):=by
  refine⟨fun _ h=>h,fun b hb=>hold b (hsz b hb),fun o' k0 hk=> ?_⟩
  by_cases e:o'=id
  · subst e;rw[hno] at hk;cases hk
  · refine⟨k0,by rw[cT _ _ (by simpa using fun h=>e h.symm)];exact hk,?_⟩
    rw[aB e];exact nU.refl' _ _
 exact⟨⟨ho,ht,hu,by simp[hh],fun b hb _=>hold b hb,(fun b hb=>by cases hb),.inl hno,(fun b hb=> .inr (by rw[hp b hb];exact aX8 _)),hor st⟩,st⟩
def aUj (σ:St) (elem:TypeId) (x:Operand) (d:Option Tmp):Res:=
 match ev σ x,d with
 |some (X,R),some d=>match cellsOf X with
  |some cs=>if wX σ (.o (jU σ d)) then some (True,R++[(.o (jU σ d),none)],[(.o (jU σ d),.box elem cs),(.t d,.v (.e (.c (.pt (jU σ d) 0))))]) else none
  |none=>none
 |_,_=>none
theorem aNv {P:Program} {o:Oper} {σ0:St} {elem:TypeId} {x:Operand} (ho:o.op= .box elem x):lU P o σ0 (aUj σ0 elem x o.dst):=by
 intro p R W h hp
 unfold aUj at h
 split at h<;>try(cases h;done)
 rename_i X Rx d hx hd
 split at h<;>try(cases h;done)
 rename_i cs hcs
 split at h<;>try(cases h;done)
 rename_i habs
 cases h
 refine⟨jt hd (by simp) fun cx σ ι S a w hr hw=> ?_,(dH hx).append (bV.one (qD habs))⟩
 have hno:=hr.right (.o (jU σ0 d),none) (by simp)
 dsimp only at hno
 have hX:=dP hx hr.left hw
 obtain⟨vs,hv,hl,hk⟩:=nN hcs hX
 obtain⟨ht,st⟩:=yS (ν:=iZ a) (w:=w) (w0:=w) (σ:=σ) (ι:=ι) (S:=S) (id:=jU σ0 d) (k:= .box elem cs) (p:= .pointer (some ⟨w.heap.size,0,none⟩)) (o:= .cells vs.toArray elem) ⟨rfl,rfl,rfl,rfl⟩ hno
  (fun b hb=>by simp[uZ] at hb;exact hb.symm)
  (fun st=>⟨w.heap.size,vs.toArray,rfl,heap_alloc_new w _,by simpa using hl,fun k c u h1 h2=>CR.step st (hk k c u h1 (by simpa using h2))⟩) hw.vr.sz
 refine⟨_,_,_,?_,ht,rfl,.inl ⟨elem,cs,dD _ _ _,w.heap.size,by simp,rfl⟩⟩
 simp[execOp,ho,Instr.box,newVar,newRow,hv]
def aHp (T:hZ) (σ:St) (elem:TypeId) (d:Option Tmp):Res:=
 match T elem,d with
 |some ti,some d=>if wX σ (.o (jU σ d)) then some (True,[(.o (jU σ d),none)],[(.o (jU σ d),.box elem ti.zero),(.t d,.v (.e (.c (.pt (jU σ d) 0))))]) else none
 |_,_=>none
theorem aHq {P:Program} {T:hZ} (hT:dV P T) {o:Oper} {σ0:St} {elem:TypeId} (ho:o.op= .alloc elem):lU P o σ0 (aHp T σ0 elem o.dst):=by
 intro p R W h hp
 unfold aHp at h
 split at h<;>try(cases h;done)
 rename_i ti d hti hd
 split at h<;>try(cases h;done)
 rename_i habs
 cases h
 have hok:=hT elem ti hti
 refine⟨jt hd (by simp) fun cx σ ι S a w hr hw=> ?_,bV.one (qD habs)⟩
 have hno:=hr (.o (jU σ0 d),none) (by simp)
 dsimp only at hno
 obtain⟨z,hz,hzc⟩:=aLb (w:=w) hok
 obtain⟨ht,st⟩:=yS (ν:=iZ a) (w:=w) (w0:=w) (σ:=σ) (ι:=ι) (S:=S) (id:=jU σ0 d) (k:= .box elem ti.zero) (p:= .pointer (some ⟨w.heap.size,0,none⟩)) (o:= .cells z.cells elem) ⟨rfl,rfl,rfl,rfl⟩ hno
  (fun b hb=>by simp[uZ] at hb;exact hb.symm)
  (fun st=>⟨w.heap.size,z.cells,rfl,heap_alloc_new w _,by rw[← Array.length_toList,hzc];simp,fun k c u h1 h2=>by
   rw[← Array.getElem?_toList,hzc,List.getElem?_map,h1] at h2
   cases h2
   exact uF (aYd.1 hok.zok c (List.mem_of_getElem? h1))⟩) hw.vr.sz
 refine⟨_,_,_,?_,ht,rfl,.inl ⟨elem,ti.zero,dD _ _ _,w.heap.size,by simp,rfl⟩⟩
 simp[execOp,ho,Instr.alloc,newVar,newRow,hz]
set_option linter.unusedSimpArgs false
theorem sA {σ:St} {ι ν:Nat→Value} {S:Nat→Prop} {w w':World} (h:VR σ ι ν S w) {id:Nat} {old:Option Nat} {k:K} {p:Value}
 (block: ∀b,b<w.heap.size→some b≠old→w'.heap[b]? =w.heap[b]?) (mine: ∀b,old=some b→lJ σ ι id b) (evo:aV σ (.o id)=none∨ ∃k0,aV σ (.o id)=some k0∧nU (ι id) p k0 k):
 rS σ ι S w (qM σ (.o id) k) (fun o=>if o=id then p else ι o) S w':=by
 refine⟨fun _ h=>h,fun b hb=>block b (h.sz b hb) (fun e=>h.mutS id b (mine b e.symm) hb),fun o k0 hk=> ?_⟩
 by_cases e:o=id
 · subst e
   refine⟨k,dD _ _ _,?_⟩
   rcases evo with hn|⟨k1,hk1,hev⟩
   · rw[hn] at hk;cases hk
   · rw[hk1] at hk;cases hk;rw[aC rfl];exact hev
 · refine⟨k0,by rw[cT _ _ (by simpa using fun h=>e h.symm)];exact hk,?_⟩
   rw[aB e];exact nU.refl' _ _
def dN {α:Type} (cs:List α) (k:Nat) (vs:List α):List α:=cs.take k++vs++cs.drop (k+vs.length)
theorem fR {α:Type} {cs vs:List α} {k:Nat} (h:k+vs.length≤cs.length): (dN cs k vs).length=cs.length:=by
 simp[dN];omega
theorem jE {α:Type} {cs vs:List α} {k:Nat} (h:k+vs.length≤cs.length) (j:Nat):
 (dN cs k vs)[j]? =if j<k then cs[j]? else if j<k+vs.length then vs[j - k]? else cs[j]?:=by
 have hk: (cs.take k).length=k:=by simp;omega
 unfold dN
 by_cases h1:j<k
 · rw[aC h1,List.append_assoc,List.getElem?_append_left (by rw[hk];exact h1),List.getElem?_take,aC h1]
 · rw[aB h1]
   by_cases h2:j<k+vs.length
   · rw[aC h2,List.append_assoc,List.getElem?_append_right (by rw[hk];omega),hk,List.getElem?_append_left (by omega)]
   · rw[aB h2,List.getElem?_append_right (by simp;omega),List.getElem?_drop]
     congr 1
     simp;omega
theorem uu {α β:Type} (r:α→β→Prop) {cs vs:List α} {us ws:List β} {k:Nat} (hl:us.length=cs.length) (hv:ws.length=vs.length) (hk:k+vs.length≤cs.length)
 (h1: ∀(j:Nat) c u,cs[j]? =some c→us[j]? =some u→r c u) (h2: ∀(j:Nat) c u,vs[j]? =some c→ws[j]? =some u→r c u):
 ∀(j:Nat) c u,(dN cs k vs)[j]? =some c→(dN us k ws)[j]? =some u→r c u:=by
 intro j c u hc hu
 rw[jE hk] at hc
 rw[jE (by omega)] at hu
 rw[hv] at hu
 split at hc
 · rename_i h;rw[aC h] at hu;exact h1 j c u hc hu
 · rename_i h
   rw[aB h] at hu
   split at hc
   · rename_i h';rw[aC h'] at hu;exact h2 _ c u hc hu
   · rename_i h';rw[aB h'] at hu;exact h1 j c u hc hu
def toD:C→Option D
 | .d x=>some x
 | .nil=>some (.sl [])
 |_=>none
def nw:List C→Option (List D)
 | []=>some []
 |c::cs=>match toD c,nw cs with
  |some x,some xs=>some (x::xs)
  |_,_=>none
theorem xU {σ:St} {ι:Nat→Value} {w:World} {S:Nat→Prop} {c:C} {x:D} {v:Value} (h:toD c=some x) (hc:CR σ ι w S c v):DR w S x v:=by
 cases c with
 |d y=>cases h;exact hc
 |nil=>
  cases h
  have hc:v= .slice none 0 0:=hc
  subst hc
  exact .sl [] none 0 0 ⟨0,0,none⟩ (fun _ _=>undef) (by simp) (by simp[maxLen]) (by simp) (by simp) (by simp) (by simp)
 |_=>cases h
theorem qF: ∀{cs:List C} {xs:List D},nw cs=some xs→xs.length=cs.length
 | [],xs,h=>by cases h;rfl
 |c::cs,xs,h=>by
  simp only[nw] at h
  split at h<;>try(cases h;done)
  rename_i x ys h1 h2
  cases h
  simp[qF h2]
theorem xV: ∀{cs:List C} {xs:List D},nw cs=some xs→ ∀(k:Nat) x,xs[k]? =some x→ ∃c,cs[k]? =some c∧toD c=some x
 | [],xs,h,k,x,hx=>by cases h;simp at hx
 |c::cs,xs,h,k,x,hx=>by
  simp only[nw] at h
  split at h<;>try(cases h;done)
  rename_i y ys h1 h2
  cases h
  cases k with
  |zero=>simp at hx;subst hx;exact⟨c,rfl,h1⟩
  |succ k=>simpa using xV h2 k x (by simpa using hx)
theorem nS {P:Program} (g o:Nat) (t:TypeId) (fz:Nat×Nat): ∀(vs:List Value) (i:Nat) (cur:Array Value) (w:World),w.heap[g]? =some (.cells cur t fz)→aNq fz cur.size→o+i+vs.length≤cur.size→(∀v∈vs,v.oneCell'=true)→
 (storeCells ⟨g,o,none⟩ vs i).run P w= .ok () (w.setRow g (dN cur.toList (o+i) vs).toArray)
 | [],i,cur,w,hg,hfz,_,_=>by
  simp only[storeCells,dN,List.append_nil,aX2,Nat.add_zero,List.take_append_drop,Array.toArray_toList]
  rw[setRow_self w g cur t fz hg]
  rfl
 |v::rest,i,cur,w,hg,hfz,hl,h1=>by
  have hi:o+i<cur.size:=by simp at hl;omega
  have hadd: (⟨g,o,none⟩:Addr).add i=⟨g,o+i,none⟩:=by unfold Addr.add;split<;>simp_all
  have hcell:w.cell? ⟨g,o+i,none⟩=some cur[o+i]:=by simp[World.cell?,hg,hi]
  have hfro:w.frozen? ⟨g,o+i,none⟩=false:=by
   obtain⟨lo,hi'⟩:=fz
   simp only[World.frozen?,hg]
   rcases hfz with h|h
   · cases h;simp
   · simp only at h
     rw[Bool.and_eq_false_iff]
     left;rw[decide_eq_false_iff_not];omega
  have hst: (store ((⟨g,o,none⟩:Addr).add i) v).run P w= .ok () (w.setRow g (cur.setIfInBounds (o+i) v)):=by
   rw[hadd,run_store P w _ v _ (h1 v (by simp)),hcell]
   simp[hfro,setCell_eq_setRow w g (o+i) cur t fz v hg]
  have ih:=nS (P:=P) g o t fz rest (i+1) (cur.setIfInBounds (o+i) v) (w.setRow g (cur.setIfInBounds (o+i) v)) (setRow_heap w g cur _ t _ hg) (by simpa using hfz) (by simp at hl ⊢; omega) (fun x hx=>h1 x (by simp[hx]))
  simp only[storeCells,Sem.run_bind,hst,Result.andThen_ok,ih,setRow_setRow]
  congr 3
  rw[Array.toList_setIfInBounds]
  apply List.ext_getElem?
  intro j
  have hlen:cur.toList.length=cur.size:=Array.length_toList
  have hl':o+i+(rest.length+1)≤cur.size:=by simpa using hl
  rw[jE (by rw[List.length_set,hlen];omega),jE (by rw[hlen,aX1];omega),List.getElem?_set,aX1]
  by_cases c1:j<o+i
  · rw[aC (by omega),aB (by omega),aC (by omega)]
  · by_cases c2:j=o+i
    · subst c2
      rw[aC (by omega),aC rfl,aC (by omega),aB (by omega),aC (by omega)]
      simp
    · by_cases c3:j<o+i+(rest.length+1)
      · rw[aB (by omega),aC (by omega),aB (by omega),aC (by omega),show j - (o+i)=(j - (o+(i+1)))+1 by omega,List.getElem?_cons_succ]
      · rw[aB (by omega),aB (by omega),aB (by omega),aB (by omega),aB (by omega)]
theorem sB {P:Program} {w:World} {t ty:TypeId} {ti:TI} (hti:eU P t ti) (b off:Nat) (cur:Array Value) {fz:Nat×Nat} (hfz:aNq fz cur.size) (hg:w.heap[b]? =some (.cells cur ty fz)) (v:Value) (vs:List Value) (hv:v.cells=vs.toArray)
 (hl:vs.length=ti.size) (hfit:off+vs.length≤cur.size) (h1: ∀u∈vs,u.oneCell'=true):
 (storeVar t ⟨b,off,none⟩ v).run P w= .ok () (w.setRow b (dN cur.toList off vs).toArray):=by
 have:=nS (P:=P) b off ty fz vs 0 cur w hg hfz (by simpa using hfit) h1
 simp only[Nat.add_zero] at this
 simp[storeVar,fU hti,hv,hl,this]
theorem aE6 {P:Program} {o:Oper} {id:Nat} {R:List (dK×Option K)} {k:K} (hd:o.dst=none)
 (h: ∀(cx:Cx P) (σ:St) (ι:Nat→Value) (S:Nat→Prop) (a:Act) (w:World),bV R σ→RW cx σ ι S a w→ ∃old p w',(execOp a.eval o).run P w= .ok .skip w'∧aLa σ ι S w id old k p w'):
 vW P o R [(.o id,k)]:=by
 intro cx σ ι S a w hr hw hb next Q hn
 obtain⟨old,p,w',he,ht⟩:=h cx σ ι S a w hr hw
 unfold Oper.wp
 rw[he]
 simp only[Oper.upon,hd,aE3]
 exact hn _ S _ w' (hw.turn ht)
def aHr (T:hZ) (σ:St) (t:TypeId) (x y:Operand) (d:Option Tmp):Res:=
 match ev σ x,ev σ y,T t,d with
 |some (.e (.c (.pt ob k)),R),some (X,R2),some ti,none=>match cellsOf X,aV σ (.o ob) with
  |some vs,some (.box ty cs)=>some (vs.length=ti.size∧k+vs.length≤cs.length,R++R2++[(.o ob,some (.box ty cs))],[(.o ob,.box ty (dN cs k vs))])
  |_,_=>none
 |some (.e (.c (.pe ob n i k)),R),some (X,R2),some ti,none=>match(cellsOf X).bind nw,aV σ (.o ob) with
  |some vs,some (.row e es rows)=>some (rows.length=n∧i<n∧vs.length=ti.size∧k+vs.length≤(rows.getD i []).length,R++R2++[(.o ob,some (.row e es rows))],[(.o ob,.row e es (rows.set i (dN (rows.getD i []) k vs)))])
  |_,_=>none
 |_,_,_,_=>none
theorem aHs {P:Program} {T:hZ} (hT:dV P T) {o:Oper} {σ0:St} {t:TypeId} {x y:Operand} (ho:o.op= .store t x y):lU P o σ0 (aHr T σ0 t x y o.dst):=by
 intro p R W h hp
 unfold aHr at h
 split at h
 · rename_i ob k Rx X Ry ti hx hy hti hd
   split at h<;>try(cases h;done)
   rename_i vs ty cs hvs hl
   cases h
   have hok:=hT t ti hti
   refine⟨aE6 hd fun cx σ ι S a w hr hw=> ?_,((dH hx).append (dH hy)).append (bV.one hl)⟩
   have hl':=hr.right (.o ob,some (.box ty cs)) (by simp)
   dsimp only at hl'
   have hX:=dP hx hr.left.left hw
   have hY:=dP hy hr.left.right hw
   obtain⟨us,hu,hul,huk⟩:=nN hvs hY
   obtain⟨b,cur,hi,hh,hsz,hc⟩:=hw.vr.objs ob _ hl'
   obtain⟨_,h2⟩:=(show CR σ ι w S (.pt ob k) (a.eval x) from hX)
   rcases h2 with⟨ty2,cs2,hl2,b',hi',hv⟩|hdd
   · rw[hi] at hi';cases hi'
     have hone: ∀u∈us,u.oneCell'=true:=fun u hu'=>by
      obtain⟨j,hj⟩:=List.mem_iff_getElem?.1 hu'
      have hlt:j<vs.length:=by rw[← hul];exact(aYa.1 hj).1
      exact CR.one (huk j _ u (aX9 hlt) hj)
     have hrun:=sB (P:=P) hok b k cur (.inl rfl) hh (a.eval y) us hu (by rw[hul];exact hp.1) (by rw[hul,hsz];exact hp.2) hone
     have hmine: ∀b',some b=some b'→lJ σ ι ob b':=fun b' e=>by cases e;exact⟨⟨_,hl',trivial⟩,by rw[hi];rfl⟩
     have hblock: ∀b',b'<w.heap.size→some b'≠some b→(w.setRow b (dN cur.toList k us).toArray).heap[b']? =w.heap[b']?:=fun b' _ hne=>setRow_other w b b' _ (fun e=>hne (by rw[e]))
     have hevo:aV σ (.o ob)=none∨ ∃k0,aV σ (.o ob)=some k0∧nU (ι ob) (ι ob) k0 (.box ty (dN cs k vs)):= .inr ⟨_,hl',rfl⟩
     have st:=sA hw.vr (p:=ι ob) hblock hmine hevo
     refine⟨some b,ι ob,w.setRow b (dN cur.toList k us).toArray,by simp[execOp,ho,hv,Instr.storeAt,Instr.sureAddr,hrun],⟨rfl,rfl,rfl,by simp,hblock,hmine,hevo,fun b' hb=> .inl (by rw[hi] at hb;exact aA some hb.symm),?_⟩⟩
     refine⟨b,(dN cur.toList k us).toArray,hi,setRow_heap w b cur _ ty _ hh,?_,?_⟩
     · rw[List.size_toArray,fR (by have h9:cur.toList.length=cur.size:=Array.length_toList;have:=hp.2;omega),fR hp.2];exact(Array.length_toList (xs:=cur)).trans hsz
     · intro j c u h1 h2
       have h2': (dN cur.toList k us)[j]? =some u:=by simpa using h2
       exact uu (fun c u=>CR (qM σ (.o ob) (.box ty (dN cs k vs))) (fun o=>if o=ob then ι ob else ι o) (w.setRow b (dN cur.toList k us).toArray) S c u) (by simpa using hsz) hul hp.2
        (fun j c u h1 h2=>CR.step st (hc j c u h1 (by simpa using h2))) (fun j c u h1 h2=>CR.step st (huk j c u h1 h2)) j c u h1 h2'
   · rw[hl'] at hdd;cases hdd
 · rename_i ob n i k Rx X Ry ti hx hy hti hd
   split at h<;>try(cases h;done)
   rename_i vs e es rows hvs hl
   cases h
   have hok:=hT t ti hti
   obtain⟨h1,h2,h3,h4⟩:=hp
   cases hcs:cellsOf X with
   |none=>rw[hcs] at hvs;cases hvs
   |some ccs=>
   rw[hcs] at hvs
   have hvs:nw ccs=some vs:=hvs
   refine⟨aE6 hd fun cx σ ι S a w hr hw=> ?_,((dH hx).append (dH hy)).append (bV.one hl)⟩
   have hl':=hr.right (.o ob,some (.row e es rows)) (by simp)
   dsimp only at hl'
   have hX:=dP hx hr.left.left hw
   have hY:=dP hy hr.left.right hw
   obtain⟨us,hu,hul,huk⟩:=nN hcs hY
   have hvl:=qF hvs
   have hdr: ∀(j:Nat) d u,vs[j]? =some d→us[j]? =some u→DR w S d u:=fun j d u hj hu'=>by
    obtain⟨c,hc,htd⟩:=xV hvs j d hj
    exact xU htd (huk j c u hc hu')
   obtain⟨_,hpe⟩:=(show CR σ ι w S (.pe ob n i k) (a.eval x) from hX)
   rcases hpe with⟨e2,es2,rows2,hl2,hn,hv⟩|hdd
   · rw[hl'] at hl2;cases hl2
     obtain⟨g,off,cap,hig,hvv⟩:=hv h1
     rcases hw.vr.objs ob _ hl' with⟨hn3,_⟩|⟨g',off',cap',cur,fz,hg,hh,hfz,hc1,hc2,hc3,hrows⟩
     · rw[hig] at hn3;cases hn3
     · have hg':=hg
       rw[hig] at hg;cases hg
       have hlt:i<rows.length:=by omega
       have hrow:rows.getD i []=rows[i]:=by simp[hlt]
       rw[hrow] at h4
       have hri:=hrows i _ (aX9 hlt)
       have hone: ∀u∈us,u.oneCell'=true:=fun u hu'=>by
        obtain⟨j,hj⟩:=List.mem_iff_getElem?.1 hu'
        have hlt:j<ccs.length:=by rw[← hul];exact(aYa.1 hj).1
        exact CR.one (huk j _ u (aX9 hlt) hj)
       have hin:i*es+es≤cap*es:=by
        have: (i+1)*es≤cap*es:=Nat.mul_le_mul_right _ (by omega)
        rw[Nat.add_mul,Nat.one_mul] at this;exact this
       have hfit:off+i*es+k+us.length≤cur.size:=by rw[hul,← hvl];rw[hri.1] at h4;omega
       have hrun:=sB (P:=P) hok g (off+i*es+k) cur hfz hh (a.eval y) us hu (by rw[hul,← hvl];exact h3) hfit hone
       have hmine: ∀b',some g=some b'→lJ σ ι ob b':=fun b' e=>by cases e;exact⟨⟨_,hl',trivial⟩,by rw[hig];rfl⟩
       have hblock: ∀b',b'<w.heap.size→some b'≠some g→(w.setRow g (dN cur.toList (off+i*es+k) us).toArray).heap[b']? =w.heap[b']?:=fun b' _ hne=>setRow_other w g b' _ (fun e=>hne (by rw[e]))
       have hevo:aV σ (.o ob)=none∨ ∃k0,aV σ (.o ob)=some k0∧nU (ι ob) (ι ob) k0 (.row e es (rows.set i (dN (rows.getD i []) k vs))):= .inr ⟨_,hl',rfl,by simp,fun _=>rfl⟩
       have st:=sA hw.vr (p:=ι ob) hblock hmine hevo
       refine⟨some g,ι ob,w.setRow g (dN cur.toList (off+i*es+k) us).toArray,by simp[execOp,ho,hvv,Instr.storeAt,Instr.sureAddr,hrun],⟨rfl,rfl,rfl,by simp,hblock,hmine,hevo,fun b' hb=> .inl (by rw[hig] at hb;exact aA some hb.symm),?_⟩⟩
       · refine .inr ⟨g,off,cap,(dN cur.toList (off+i*es+k) us).toArray,fz,by rw[hg'];simp,setRow_heap w g cur _ e _ hh,by rw[List.size_toArray,fR (by have h9:cur.toList.length=cur.size:=Array.length_toList;omega),Array.length_toList];exact hfz,by simpa using hc1,hc2,?_,fun i2 r2 hr2=> ?_⟩
         · rw[List.size_toArray,fR (by have h9:cur.toList.length=cur.size:=Array.length_toList;omega)];exact(Array.length_toList (xs:=cur))▸hc3
         · rw[List.getElem?_set] at hr2
           have get: ∀j,(dN cur.toList (off+i*es+k) us).toArray[j]? =if j<off+i*es+k then cur[j]? else if j<off+i*es+k+us.length then us[j - (off+i*es+k)]? else cur[j]?:=fun j=>by
            rw[← Array.getElem?_toList,List.toList_toArray,jE (by have h9:cur.toList.length=cur.size:=Array.length_toList;omega)]
            simp
           by_cases hii:i=i2
           · subst hii
             simp[hlt] at hr2
             have hr2:dN rows[i] k vs=r2:=by rw[← hr2]
             subst hr2
             refine⟨by rw[fR h4];exact hri.1,fun j d hd=> ?_⟩
             rw[jE h4] at hd
             rw[get]
             split at hd
             · rename_i hjk
               obtain⟨u,hu1,hu2⟩:=hri.2 j d hd
               exact⟨u,by rw[aC (by omega)];exact hu1,DR.mono st.sub st.keep hu2⟩
             · rename_i hjk
               split at hd
               · rename_i hjk2
                 have hjl:j - k<us.length:=by omega
                 refine⟨us[j - k],?_,DR.mono st.sub st.keep (hdr _ d _ hd (aX9 hjl))⟩
                 rw[aB (by omega),aC (by omega),show off+i*es+j - (off+i*es+k)=j - k by omega]
                 exact aX9 hjl
               · rename_i hjk2
                 obtain⟨u,hu1,hu2⟩:=hri.2 j d hd
                 exact⟨u,by rw[aB (by omega),aB (by omega)];exact hu1,DR.mono st.sub st.keep hu2⟩
           · rw[aB hii] at hr2
             have hr3:=hrows i2 r2 hr2
             refine⟨hr3.1,fun j d hd=> ?_⟩
             obtain⟨u,hu1,hu2⟩:=hr3.2 j d hd
             refine⟨u,?_,DR.mono st.sub st.keep hu2⟩
             rw[get]
             have hjes:j<es:=by rw[← hr3.1];exact(aYa.1 hd).1
             rw[hri.1] at h4
             rcases Nat.lt_or_gt_of_ne hii with hlt2|hgt2
             · have: (i+1)*es≤i2*es:=Nat.mul_le_mul_right _ hlt2
               rw[Nat.add_mul,Nat.one_mul] at this
               rw[aB (by omega),aB (by omega)];exact hu1
             · have: (i2+1)*es≤i*es:=Nat.mul_le_mul_right _ hgt2
               rw[Nat.add_mul,Nat.one_mul] at this
               rw[aC (by omega)];exact hu1
   · rw[hl'] at hdd;cases hdd
 · cases h
set_option linter.unusedSimpArgs false
def evs (σ:St):List (Nat×Operand)→Option (List (Nat×V)×List (dK×Option K))
 | []=>some ([],[])
 |(i,x)::r=>match ev σ x,evs σ r with
  |some (X,R),some (Xs,R')=>some ((i,X)::Xs,R++R')
  |_,_=>none
theorem nx {σ:St}: ∀{ps:List (Nat×Operand)} {Xs:List (Nat×V)} {R:List (dK×Option K)},evs σ ps=some (Xs,R)→bV R σ
 | [],Xs,R,h=>by cases h;exact bV.nil
 |(i,x)::r,Xs,R,h=>by
  simp only[evs] at h
  split at h<;>try(cases h;done)
  rename_i X R1 Ys R2 h1 h2
  cases h
  exact(dH h1).append (nx h2)
def aDb (σ:St) (ι:Nat→Value) (w:World) (S:Nat→Prop):List (Nat×V)→List (Nat×Value)→Prop
 | [],[]=>True
 |(i,X)::r,(j,v)::r'=>i=j∧mI σ ι w S X v∧aDb σ ι w S r r'
 |_,_=>False
theorem ny {σ0:St} {P:Program} {cx:Cx P} {σ:St} {ι:Nat→Value} {S:Nat→Prop} {a:Act} {w:World} (hw:RW cx σ ι S a w):
 ∀{ps:List (Nat×Operand)} {Xs:List (Nat×V)} {R:List (dK×Option K)},evs σ0 ps=some (Xs,R)→bV R σ→aDb σ ι w S Xs (ps.map fun x=>(x.1,a.eval x.2))
 | [],Xs,R,h,_=>by cases h;trivial
 |(i,x)::r,Xs,R,h,hr=>by
  simp only[evs] at h
  split at h<;>try(cases h;done)
  rename_i X R1 Ys R2 h1 h2
  cases h
  exact⟨rfl,dP h1 hr.left hw,ny hw h2 hr.right⟩
def vY:List C→Nat→List C→List C
 | [],_,_=>[]
 |c::cs,n+1,vs=>c::vY cs n vs
 |c::cs,0,[]=>c::cs
 |_::cs,0,v::vs=>v::vY cs 0 vs
theorem gx: ∀{cs:List C} {k:Nat} {vs:List C},k+vs.length≤cs.length→vY cs k vs=dN cs k vs
 | [],k,vs,h=>by
  obtain rfl:vs=[]:=by simp at h;exact h.2
  simp[vY,dN]
 |c::cs,n+1,vs,h=>by
  have:=gx (cs:=cs) (k:=n) (vs:=vs) (by simp at h;omega)
  simp[vY,this,dN,Nat.add_right_comm]
 |c::cs,0,[],h=>by simp[vY,dN]
 |c::cs,0,v::vs,h=>by
  have:=gx (cs:=cs) (k:=0) (vs:=vs) (by simp at h ⊢; omega)
  simp[vY,this,dN]
def aJ8 (T:hZ) (t:TypeId):List C→List (Nat×V)→Option (Prop×List C)
 |cs,[]=>some (True,cs)
 |cs,(i,X)::rest=>match uG T t i,cellsOf X with
  |some (off,ti),some vs=>match aJ8 T t (vY cs off vs) rest with
   |some (p,r)=>some ((vs.length=ti.size∧off+vs.length≤cs.length)∧p,r)
   |none=>none
  |_,_=>none
def ju (T:hZ):List (Nat×TypeId)→Option (List (Nat×Nat))
 | []=>some []
 |(off,t)::r=>match T t,ju T r with
  |some ti,some ps=>some ((off,ti.size)::ps)
  |_,_=>none
theorem ca {P:Program} {T:hZ} (hT:dV P T): ∀(fs:List Field) (ps:List (Nat×Nat)),ju T (fs.map fun f=>(f.offset,f.type))=some ps→
 fs.mapM (fun f=>(P.info? f.type).map fun i=>(f.offset,i.size))=some ps∧ ∀(i:Nat) f,fs[i]? =some f→ ∃ti,T f.type=some ti∧ps[i]? =some (f.offset,ti.size)
 | [],ps,h=>by cases h;exact⟨rfl,by simp⟩
 |f::fs,ps,h=>by
  simp only[List.map_cons,ju] at h
  split at h<;>try(cases h;done)
  rename_i ti ps' h1 h2
  cases h
  obtain⟨g1,g2⟩:=ca hT fs ps' h2
  obtain⟨i,z,hi,hs,_⟩:=(hT _ _ h1).info
  refine⟨by simp[hi,g1,hs],fun j f' hj=> ?_⟩
  cases j with
  |zero=>simp at hj;subst hj;exact⟨ti,h1,rfl⟩
  |succ j=>simpa using g2 j f' (by simpa using hj)
theorem aNw (off:Nat) (vs:List Value) (cells:Array Value) (h:off+vs.length≤cells.size):
 (vs.toArray.zipIdx.foldl (fun cs (x:Value×Nat)=>cs.setIfInBounds (off+x.2) x.1) cells)=(dN cells.toList off vs).toArray:=by
 rw[← Array.foldl_toList,Array.toList_zipIdx]
 obtain⟨h1,h2⟩:=Go.Great.foldl_set off vs 0 cells
 apply Array.ext_getElem?
 intro k
 have h9:cells.toList.length=cells.size:=Array.length_toList
 have e9: (dN cells.toList off vs).toArray[k]? =(dN cells.toList off vs)[k]?:=by simp
 rw[h2 k,e9,jE (by omega)]
 simp only[Nat.add_zero]
 by_cases e1:k<off
 · rw[aB (by omega),aC e1];simp
 · rw[aB e1]
   by_cases e2:k<off+vs.length
   · rw[aC ⟨by omega,e2,by omega⟩,aC e2]
   · rw[aB (by omega),aB e2];simp
theorem qy {P:Program} {T:hZ} (hT:dV P T) {t:TypeId} {fields:Array Field} (hu:P.underlying t=some (.struct fields)) {ps:List (Nat×Nat)}
 (hps: ∀(i:Nat) f,fields.toList[i]? =some f→ ∃ti,T f.type=some ti∧ps[i]? =some (f.offset,ti.size)) {σ:St} {ι:Nat→Value} {w:World} {S:Nat→Prop}:
 ∀(Xs:List (Nat×V)) (vals:List (Nat×Value)) (cs:List C) (cells:Array Value) (p:Prop) (r:List C),aDb σ ι w S Xs vals→cells.size=cs.length→
  (∀(j:Nat) c u,cs[j]? =some c→cells[j]? =some u→CR σ ι w S c u)→aJ8 T t cs Xs=some (p,r)→p→
  ∃rc:List Value,Instr.fill (ps.toArray[·]?) cells vals=some rc.toArray∧rc.length=r.length∧ ∀(j:Nat) c u,r[j]? =some c→rc[j]? =some u→CR σ ι w S c u
 | [],[],cs,cells,p,r,_,hsz,hc,h,_=>by
  cases h
  exact⟨cells.toList,by simp[Instr.fill],by simpa using hsz,fun j c u h1 h2=>hc j c u h1 (by simpa using h2)⟩
 |(i,X)::Xs,(j,v)::vals,cs,cells,p,r,hp,hsz,hc,h,hpp=>by
  obtain⟨rfl,hX,hp⟩:=hp
  simp only[aJ8] at h
  split at h<;>try(cases h;done)
  rename_i off ti vs hf hvs
  split at h<;>try(cases h;done)
  rename_i p' r' hrest
  cases h
  obtain⟨⟨h1,h2⟩,hp'⟩:=hpp
  rw[gx h2] at hrest
  obtain⟨us,hu',hul,huk⟩:=nN hvs hX
  obtain⟨fields',fl,hu2,hfl,hoff,hti⟩:=wW hT hf
  rw[hu] at hu2;cases hu2
  obtain⟨ti',hti',hpl⟩:=hps i fl (by simpa using hfl)
  have hsize:ti'.size=ti.size:=by
   obtain⟨i1,z1,q1,q2,_⟩:=(hT _ _ hti').info
   obtain⟨i2,z2,q3,q4,_⟩:=hti.info
   rw[q1] at q3;cases q3
   rw[← q2,← q4]
  rw[hoff,hsize] at hpl
  have hfold:=aNw off us cells (by rw[hul,hsz];exact h2)
  have h9:cells.toList.length=cells.size:=Array.length_toList
  obtain⟨rc,g1,g2,g3⟩:=qy hT hu hps Xs vals (dN cs off vs) (dN cells.toList off us).toArray p' r hp
   (by rw[List.size_toArray,fR (by omega),fR h2];omega)
   (fun j c u hcj huj=>uu (CR σ ι w S) (by omega) hul h2 (fun j c u h1 h2=>hc j c u h1 (by simpa using h2)) huk j c u hcj (by simpa using huj)) hrest hp'
  refine⟨rc,?_,g2,g3⟩
  unfold Instr.fill
  have hpl':ps.toArray[i]? =some (off,ti.size):=by simpa using hpl
  simp only[hpl',hu']
  rw[aB (by simp[hul,h1];omega),← g1,← hfold]
 | [],_::_,_,_,_,_,hp,_,_,_,_=>hp.elim
 |_::_,[],_,_,_,_,hp,_,_,_,_=>hp.elim
def aHt (T:hZ) (σ:St) (t:TypeId) (parts:List (Nat×Operand)) (d:Option Tmp):Res:=
 match T t,evs σ parts,d with
 |some ⟨.st fs,sz,by',zero⟩,some (Xs,R),some d=>match ju T fs,aJ8 T t zero Xs with
  |some _,some (p,r)=>some (p,R,[(.t d,.v (.e (.agg r)))])
  |_,_=>none
 |_,_,_=>none
theorem aHu {P:Program} {T:hZ} (hT:dV P T) {o:Oper} {σ0:St} {t:TypeId} {parts:Array (Nat×Operand)} (ho:o.op= .build t parts):lU P o σ0 (aHt T σ0 t parts.toList o.dst):=by
 intro p R W h hp
 unfold aHt at h
 split at h<;>try(cases h;done)
 rename_i fs sz by' zero Xs Rx d ht hxs hd
 split at h<;>try(cases h;done)
 rename_i places p' r hpl hfill
 cases h
 have hok:=hT t _ ht
 obtain⟨fields,hu,hfs⟩:=hok.kind
 rw[← hfs] at hpl
 obtain⟨hm,hps⟩:=ca hT fields.toList places hpl
 refine⟨oL hd fun cx σ ι S a w hr hw=> ?_,nx hxs⟩
 obtain⟨i,z,hi,_,_,hz,hzc⟩:=hok.info
 obtain⟨rc,g1,g2,g3⟩:=qy (σ:=σ) (ι:=ι) (w:=w) (S:=S) hT hu hps Xs (parts.toList.map fun x=>(x.1,a.eval x.2)) zero z.cells p r (ny hw hxs hr)
  (by rw[← Array.length_toList,hzc];simp)
  (fun j c u h1 h2=>by
   rw[← Array.getElem?_toList,hzc,List.getElem?_map,h1] at h2
   cases h2
   exact uF (aYd.1 hok.zok c (List.mem_of_getElem? h1))) hfill hp
 have hb:P.built t (parts.map fun x=>(x.1,a.eval x.2)).toList=some rc.toArray:=by
  unfold Program.built
  simp only[hi,hu,hz,hm]
  rw[Array.toList_map]
  exact g1
 refine⟨.agg rc.toArray,?_,rc,rfl,g2,g3⟩
 have hrun:=run_build (P:=P) w t (parts.map fun x=>(x.1,a.eval x.2)) rc.toArray hb
 simp[execOp,ho]
 rw[hrun];rfl
def nz:List (Nat×V)→Option (List (List D))
 | []=>some []
 |(i,X)::r=>match(cellsOf X).bind nw,nz r with
  |some ds,some rs=>some (ds::rs)
  |_,_=>none
def ej:Nat→List (Nat×Operand)→Bool
 |_,[]=>true
 |k,(i,_)::r=>i==k&&ej (k+1) r
def vZ (T:hZ) (σ:St) (t:TypeId) (len:Nat) (parts:List (Nat×Operand)) (d:Option Tmp):Res:=
 match T t,evs σ parts,d with
 |some ⟨.sl e,_,_,_⟩,some (Xs,R),some d=>match T e,nz Xs with
  |some ti,some rows=>if wX σ (.o (jU σ d))&&ej 0 parts&&(len==parts.length) then
   some ((∀r∈rows,r.length=ti.size)∧rows.length*ti.size≤2 ^ 24,R++[(.o (jU σ d),none)],[(.o (jU σ d),.row e ti.size rows),(.t d,.v (.e (.c (.own (jU σ d) rows.length))))]) else none
  |_,_=>none
 |_,_,_=>none
theorem fu: ∀{Xs:List (Nat×V)} {rows:List (List D)},nz Xs=some rows→rows.length=Xs.length
 | [],rows,h=>by cases h;rfl
 |(i,X)::r,rows,h=>by
  simp only[nz] at h
  split at h<;>try(cases h;done)
  rename_i ds rs h1 h2
  cases h
  simp[fu h2]
theorem uv {σ:St}: ∀{ps:List (Nat×Operand)} {Xs:List (Nat×V)} {R:List (dK×Option K)},evs σ ps=some (Xs,R)→Xs.length=ps.length
 | [],Xs,R,h=>by cases h;rfl
 |(i,x)::r,Xs,R,h=>by
  simp only[evs] at h
  split at h<;>try(cases h;done)
  rename_i X R1 Ys R2 h1 h2
  cases h
  simp[uv h2]
theorem aBk: ∀(k:Nat) (ps:List (Nat×Operand)) (f:Operand→Value),ej k ps=true→ps.map (fun x=>(x.1,f x.2))=((ps.map fun x=>f x.2).zipIdx k).map fun x=>(x.2,x.1)
 |k,[],f,_=>rfl
 |k,(i,x)::r,f,h=>by
  simp only[ej,aX3,beq_iff_eq] at h
  obtain⟨rfl,h⟩:=h
  simp[aBk (i+1) r f h]
theorem jv {σ:St} {ι:Nat→Value} {w:World} {S:Nat→Prop}: ∀{Xs:List (Nat×V)} {vals:List (Nat×Value)} {rows:List (List D)},aDb σ ι w S Xs vals→nz Xs=some rows→
 ∀(i:Nat) r,rows[i]? =some r→ ∃j v,vals[i]? =some (j,v)∧v.cells.size=r.length∧ ∀(k:Nat) d,r[k]? =some d→ ∃u,v.cells[k]? =some u∧DR w S d u
 | [],[],rows,_,h,i,r,hr=>by cases h;simp at hr
 |(i0,X)::Xs,(j0,v)::vals,rows,hp,h,i,r,hr=>by
  obtain⟨rfl,hX,hp⟩:=hp
  simp only[nz] at h
  split at h<;>try(cases h;done)
  rename_i ds rs h1 h2
  cases h
  cases i with
  |zero=>
   simp at hr;subst hr
   cases hcs:cellsOf X with
   |none=>rw[hcs] at h1;cases h1
   |some cs=>
    rw[hcs] at h1
    have h1:nw cs=some ds:=h1
    obtain⟨us,hu,hul,huk⟩:=nN hcs hX
    refine⟨i0,v,rfl,by rw[hu];simp[hul,qF h1],fun k d hd=> ?_⟩
    obtain⟨c,hc,htd⟩:=xV h1 k d hd
    have hlt:k<us.length:=by rw[hul];exact(aYa.1 hc).1
    exact⟨us[k],by rw[hu];simp[hlt],xU htd (huk k c _ hc (aX9 hlt))⟩
  |succ i=>
   obtain⟨j,v',g1,g2,g3⟩:=jv hp h2 i r (by simpa using hr)
   exact⟨j,v',by simpa using g1,g2,g3⟩
 | [],_::_,_,hp,_,_,_,_=>hp.elim
 |_::_,[],_,hp,_,_,_,_=>hp.elim
theorem aE7 {w:World} {S:Nat→Prop} {es:Nat} (hes:0<es) {rows:List (List D)} {vs:List Value} (hl:vs.length=rows.length) (hlen: ∀r∈rows,r.length=es)
 (h: ∀(i:Nat) r,rows[i]? =some r→ ∃v,vs[i]? =some v∧v.cells.size=r.length∧ ∀(k:Nat) d,r[k]? =some d→ ∃u,v.cells[k]? =some u∧DR w S d u):
 ∀(i:Nat) r,rows[i]? =some r→r.length=es∧ ∀(k:Nat) d,r[k]? =some d→ ∃u,(vs.flatMap fun v=>v.cells.toList).toArray[0+i*es+k]? =some u∧DR w S d u:=by
 have hall: ∀v∈vs,v.cells.size=es:=by
  intro v hv
  obtain⟨i,hi⟩:=List.mem_iff_getElem?.1 hv
  have hlt:i<rows.length:=by rw[← hl];exact(aYa.1 hi).1
  obtain⟨v',h1,h2,_⟩:=h i _ (aX9 hlt)
  rw[hi] at h1;cases h1
  rw[h2];exact hlen _ (List.getElem_mem hlt)
 intro i r hr
 have hre:=hlen r (List.mem_of_getElem? hr)
 refine⟨hre,fun k d hd=> ?_⟩
 obtain⟨v,h1,h2,h3⟩:=h i r hr
 obtain⟨u,hu,hdr⟩:=h3 k d hd
 refine⟨u,?_,hdr⟩
 have hk:k<es:=by rw[← hre];exact(aYa.1 hd).1
 rw[List.getElem?_toArray,Go.Great.flat_get hes vs hall]
 have e1: (0+i*es+k) / es=i:=by
  rw[Nat.zero_add,Nat.mul_comm,Nat.mul_add_div hes,Nat.div_eq_of_lt hk];rfl
 have e2: (0+i*es+k) % es=k:=by
  rw[Nat.zero_add,Nat.mul_comm,Nat.mul_add_mod,Nat.mod_eq_of_lt hk]
 rw[e1,e2,h1];exact hu
theorem bb {P:Program} {T:hZ} (hT:dV P T) {o:Oper} {σ0:St} {t:TypeId} {len:Nat} {parts:Array (Nat×Operand)} (ho:o.op= .buildSlice t len parts):lU P o σ0 (vZ T σ0 t len parts.toList o.dst):=by
 intro p R W h hp
 unfold vZ at h
 split at h<;>try(cases h;done)
 rename_i e _ _ _ Xs Rx d ht hxs hd
 split at h<;>try(cases h;done)
 rename_i ti rows hte hrows
 split at h<;>try(cases h;done)
 rename_i hcond
 simp only[aX3,beq_iff_eq] at hcond
 obtain⟨⟨habs,hdense⟩,hlen⟩:=hcond
 cases h
 obtain⟨hp1,hp2⟩:=hp
 have hu:=(hT t _ ht).kind
 simp only[mM] at hu
 have hok:=hT e ti hte
 refine⟨jt hd (by simp) fun cx σ ι S a w hr hw=> ?_,(nx hxs).append (bV.one (qD habs))⟩
 have hno:=hr.right (.o (jU σ0 d),none) (by simp)
 dsimp only at hno
 have hpairs:=ny hw hxs hr.left
 have hrl:=fu hrows
 have hxl:=uv hxs
 have hrs:=jv hpairs hrows
 obtain⟨vs,hvs⟩: ∃vs:List Value,vs=parts.toList.map fun x=>a.eval x.2:=⟨_,rfl⟩
 have hvl:vs.length=rows.length:=by rw[hvs];simp;simp at hxl;omega
 have hcells: ∀(i:Nat) r,rows[i]? =some r→ ∃v,vs[i]? =some v∧v.cells.size=r.length∧ ∀(k:Nat) d,r[k]? =some d→ ∃u,v.cells[k]? =some u∧DR w S d u:=by
  intro i r hri
  obtain⟨j,v,g1,g2,g3⟩:=hrs i r hri
  refine⟨v,?_,g2,g3⟩
  rw[hvs]
  rw[List.getElem?_map] at g1 ⊢
  cases hq:parts.toList[i]? with
  |none=>rw[hq] at g1;cases g1
  |some x=>rw[hq] at g1;cases g1;rfl
 have hall: ∀v∈vs,v.cells.size=ti.size:=by
  intro v hv
  obtain⟨i,hi⟩:=List.mem_iff_getElem?.1 hv
  have hlt:i<rows.length:=by rw[← hvl];exact(aYa.1 hi).1
  obtain⟨v',h1,h2,_⟩:=hcells i _ (aX9 hlt)
  rw[hi] at h1;cases h1
  rw[h2];exact hp1 _ (List.getElem_mem hlt)
 obtain⟨cells,hcl⟩: ∃cells:Array Value,cells=(vs.flatMap fun v=>v.cells.toList).toArray:=⟨_,rfl⟩
 have hcsz:cells.size=rows.length*ti.size:=by
  rw[hcl,List.size_toArray,← hvl]
  clear hvs hcells hcl hvl
  induction vs with
  |nil=>simp
  |cons v vs ih=>
   rw[List.flatMap_cons,aXz,ih (fun v hv=>hall v (List.mem_cons_of_mem _ hv)),Array.length_toList,hall v (List.mem_cons_self ..),aX1,Nat.add_mul,Nat.one_mul,Nat.add_comm]
 have hlen':len=rows.length:=by simp at hxl;rw[hlen];simp;omega
 have hrun: (Instr.buildSlice t len (parts.map fun x=>(x.1,a.eval x.2))).run P w= .ok (.slice (some ⟨w.heap.size,0,none⟩) len len) (w.alloc (.cells cells e)):=by
  obtain⟨i,z,hi,hs,_,hz,_⟩:=hok.info
  have hparts: (parts.map fun x=>(x.1,a.eval x.2)).toList=(vs.zipIdx 0).map fun x=>(x.2,x.1):=by
   rw[Array.toList_map,hvs];exact aBk 0 parts.toList a.eval hdense
  by_cases h0:len*ti.size=0
  · have hrz:rows.length=0:=by
     rcases Nat.mul_eq_zero.1 h0 with h|h
     · omega
     · have:=hok.pos;omega
    have hvs0:vs=[]:=List.eq_nil_of_length_eq_zero (by omega)
    have hc0:cells= #[]:=by rw[hcl,hvs0];rfl
    rw[hvs0] at hparts
    simp only[List.zipIdx_nil,List.map_nil] at hparts
    simp only[Instr.buildSlice,Sem.run_bind,run_underlying hu,Result.andThen_ok,fU hok]
    rw[aB (by omega)]
    rw[Array.toList_map] at hparts
    simp[h0,hparts,Instr.fill,newRow,hc0,Array.range_zero']
  · refine run_buildSlice w t e len _ cells i z hu hi hz (by rw[hs,hlen'];omega) (by rw[hs];exact h0) ?_
    rw[hs,hparts,hcl]
    exact Go.Great.fill_whole hok.pos vs _ hall (by rw[Array.size_map,Array.size_range,hvl,hlen'])
 obtain⟨htt,st⟩:=yS (ν:=iZ a) (w:=w) (w0:=w) (σ:=σ) (ι:=ι) (S:=S) (id:=jU σ0 d) (k:= .row e ti.size rows) (p:= .slice (some ⟨w.heap.size,0,none⟩) len len) (o:= .cells cells e) ⟨rfl,rfl,rfl,rfl⟩ hno
  (fun b hb=>by simp[uZ] at hb;exact hb.symm)
  (fun st=> .inr ⟨w.heap.size,0,len,cells,(0,0),by rw[hlen'],heap_alloc_new w _,.inl rfl,by omega,by
   have:=hp2;have h2:=hok.pos
   have h3:len≤len*ti.size:=Nat.le_mul_of_pos_right _ h2
   simp only[maxLen];rw[hlen'] at h3 ⊢; omega,by rw[hcsz,hlen'];omega,by
   intro i r hri
   have hflat:=aE7 (w:=w.alloc (.cells cells e)) (S:=S) hok.pos hvl hp1 (fun i r hri=>by
    obtain⟨v,g1,g2,g3⟩:=hcells i r hri
    exact⟨v,g1,g2,fun k d hd=>by obtain⟨u,hu1,hu2⟩:=g3 k d hd;exact⟨u,hu1,DR.mono st.sub st.keep hu2⟩⟩) i r hri
   rw[← hcl] at hflat
   exact hflat⟩) hw.vr.sz
 refine⟨.slice (some ⟨w.heap.size,0,none⟩) len len,_,_,?_,htt,rfl,.inl ⟨e,ti.size,rows,dD _ _ _,aX8 _,fun _=>by simp⟩⟩
 simp[execOp,ho]
 rw[hrun];rfl
set_option linter.unusedSimpArgs false
def sQ (T:hZ) (σ:St) (t2:TypeId):V→Option (Prop×List (List D)×List (dK×Option K))
 | .e (.c (.d (.sl rows)))=>match T t2 with
  |some ⟨.sl _,_,_,_⟩=>some (True,rows,[])
  |_=>none
 | .e (.c .nil)=>match T t2 with
  |some ⟨.sl _,_,_,_⟩=>some (True,[],[])
  |_=>none
 | .e (.c (.own ob n))=>match T t2,aV σ (.o ob) with
  |some ⟨.sl _,_,_,_⟩,some (.row e es rows)=>some (rows.length=n,rows,[(.o ob,some (.row e es rows))])
  |_,_=>none
 | .e (.c (.d (.s l)))=>match T t2 with
  |some ⟨.str,_,_,_⟩=>some (True,l.map fun b=>[.u b.toNat],[])
  |_=>none
 |_=>none
structure jw (P:Program) (w:World) (S:Nat→Prop) (es:Nat) (rows:List (List D)) (vx:Value) (news:List Value):Prop where
 len: (Builtin.lenOf vx).run P w= .ok rows.length w
 len': ∀w1,(Builtin.lenOf vx).run P w1= .ok rows.length w1
 pre: ∀w1 m,w1.heap=w.heap→m≤rows.length→(Builtin.firstCells es m vx).run P w1= .ok (news.take (m*es)).toArray w1
 size:news.length=rows.length*es
 one: ∀u∈news,u.oneCell'=true
 rel: ∀(i:Nat) r,rows[i]? =some r→ ∀(k:Nat) d,r[k]? =some d→ ∃u,news[i*es+k]? =some u∧DR w S d u
theorem jw.first {P:Program} {w:World} {S:Nat→Prop} {es:Nat} {rows:List (List D)} {vx:Value} {news:List Value} (h:jw P w S es rows vx news): ∀w1,w1.heap=w.heap→(Builtin.firstCells es rows.length vx).run P w1= .ok news.toArray w1:=fun w1 h1=>by
 have:=h.pre w1 rows.length h1 (aX8 _)
 rwa [← h.size,aYe] at this
theorem vB {w w1:World} (h:w1.heap=w.heap) (a:Addr):w1.cell? a=w.cell? a:=by simp[World.cell?,h]
theorem lP {i n es k:Nat} (hi:i<n) (hk:k<es):i*es+k<n*es:=by
 have: (i+1)*es≤n*es:=Nat.mul_le_mul_right _ hi
 rw[Nat.add_mul,Nat.one_mul] at this;omega
theorem ek {P:Program} {T:hZ} (hT:dV P T) {σ0:St} {t2:TypeId} {X:V} {p:Prop} {rows:List (List D)} {R:List (dK×Option K)} (h:sQ T σ0 t2 X=some (p,rows,R)) (hp:p) {es:Nat} (hes:0<es) (hlen: ∀r∈rows,r.length=es)
 {cx:Cx P} {σ:St} {ι:Nat→Value} {S:Nat→Prop} {a:Act} {w:World} (hr:bV R σ) (hw:RW cx σ ι S a w) {vx:Value} (hX:mI σ ι w S X vx): ∃news,jw P w S es rows vx news:=by
 unfold sQ at h
 split at h
 · split at h<;>try(cases h;done)
   cases h
   obtain⟨a0,cap,es',ad,u,hv,hc,hm,he,ha,hw1,hd1⟩:=(show DR w S (.sl rows) vx from hX).sl_inv
   by_cases hrz:rows=[]
   · subst hrz
     refine⟨[],⟨by rw[hv];simp[Builtin.lenOf],fun w1=>by rw[hv];simp[Builtin.lenOf],fun w1 m h1 hm=> ?_,by simp,by simp,by simp⟩⟩
     rw[hv]
     obtain rfl:m=0:=by simpa using hm
     cases a0<;>simp[Builtin.firstCells,loadCells,loadCellsFrom]
   · have ha0:=ha hrz
     subst ha0
     have hee:es'=es:=by
      obtain⟨r,hrm⟩:=List.exists_mem_of_ne_nil _ hrz
      rw[← he r hrm];exact hlen r hrm
     subst hee
     have hcell: ∀(j:Nat),j<rows.length*es'→w.cell? (ad.add j)=some (u (j / es') (j % es'))∧(u (j / es') (j % es')).oneCell'=true:=by
      intro j hj
      have h1:j / es'<rows.length:=(Nat.div_lt_iff_lt_mul hes).2 hj
      have h2:j % es'<es':=Nat.mod_lt _ hes
      have hrl:=he _ (List.getElem_mem h1)
      have h3:j % es'< (rows[j / es']).length:=by rw[hrl];exact h2
      obtain⟨_,hc⟩:=hw1 (j / es') _ (j % es') _ (aX9 h1) (aX9 h3)
      rw[Nat.div_add_mod'] at hc
      exact⟨hc,DR.oneCell (hd1 (j / es') _ (j % es') _ (aX9 h1) (aX9 h3))⟩
     refine⟨(aYb (rows.length*es')).map fun j=>u (j / es') (j % es'),⟨by rw[hv];simp[Builtin.lenOf],fun w1=>by rw[hv];simp[Builtin.lenOf],fun w1 m h1 hm=> ?_,by simp,?_,fun i r hri k d hk=> ?_⟩⟩
     · rw[hv]
       have hle:m*es'≤rows.length*es':=Nat.mul_le_mul_right _ hm
       refine run_firstCells_some (P:=P) w1 es' m ad rows.length cap _ (by rw[aX4,List.length_map,List.length_range];omega) (fun j v hj=> ?_)
       have hjl:j<m*es':=by have:=(aYa.1 hj).1;rw[aX4,List.length_map,List.length_range] at this;omega
       rw[List.getElem?_take,aC hjl] at hj
       have hjl:j<rows.length*es':=by omega
       simp[hjl] at hj
       rw[vB h1,(hcell j hjl).1,hj]
     · intro v hv2
       simp only[aYc,List.mem_range] at hv2
       obtain⟨j,hj,rfl⟩:=hv2
       exact(hcell j hj).2
     · have hil:i<rows.length:=(aYa.1 hri).1
       have hkl:k<es':=by rw[← hlen r (List.mem_of_getElem? hri)];exact(aYa.1 hk).1
       refine⟨u i k,?_,hd1 i r k d hri hk⟩
       have e1: (i*es'+k) / es'=i:=by rw[Nat.mul_comm,Nat.mul_add_div hes,Nat.div_eq_of_lt hkl];rfl
       have e2: (i*es'+k) % es'=k:=by rw[Nat.mul_comm,Nat.mul_add_mod,Nat.mod_eq_of_lt hkl]
       simp[lP hil hkl,e1,e2]
 · split at h<;>try(cases h;done)
   cases h
   have hv:vx= .slice none 0 0:=hX
   exact⟨[],⟨by rw[hv];simp[Builtin.lenOf],fun w1=>by rw[hv];simp[Builtin.lenOf],fun w1 m h1 hm=>by(obtain rfl:m=0:=by simpa using hm);rw[hv];simp[Builtin.firstCells],by simp,by simp,by simp⟩⟩
 · rename_i ob n
   split at h<;>try(cases h;done)
   rename_i e _ _ _ e' es' _ _ hl
   cases h
   have hl':=hr (.o ob,some (.row e' es' rows)) (by simp)
   dsimp only at hl'
   obtain⟨_,h2⟩:=(show CR σ ι w S (.own ob n) vx from hX)
   rcases h2 with⟨e2,es2,rows2,hl2,hn,hv⟩|hd
   · rw[hl'] at hl2;cases hl2
     have hv1:=hv hp
     clear hv
     have hv:=hv1
     clear hv1
     rcases hw.vr.objs ob _ hl' with⟨hn2,hr2⟩|⟨g,off,cap,cur,fz,hg,hh,hfz,hc1,hc2,hc3,hrows⟩
     · subst hr2
       rw[hn2] at hv
       exact⟨[],⟨by rw[hv];simp[Builtin.lenOf],fun w1=>by rw[hv];simp[Builtin.lenOf],fun w1 m h1 hm=>by(obtain rfl:m=0:=by simpa using hm);rw[hv];simp[Builtin.firstCells],by simp,by simp,by simp⟩⟩
     · rw[hg] at hv
       by_cases hrz:rows=[]
       · subst hrz
         exact⟨[],⟨by rw[hv];simp[Builtin.lenOf],fun w1=>by rw[hv];simp[Builtin.lenOf],fun w1 m h1 hm=>by(obtain rfl:m=0:=by simpa using hm);rw[hv];simp[Builtin.firstCells,loadCells,loadCellsFrom],by simp,by simp,by simp⟩⟩
       · have hee:es'=es:=by
          obtain⟨r,hrm⟩:=List.exists_mem_of_ne_nil _ hrz
          obtain⟨i,hi⟩:=List.mem_iff_getElem?.1 hrm
          rw[← (hrows i r hi).1];exact hlen r hrm
         subst hee
         have hle:rows.length*es'≤cap*es':=Nat.mul_le_mul_right _ hc1
         have h9:cur.toList.length=cur.size:=Array.length_toList
         have hget: ∀j,j<rows.length*es'→((cur.toList.drop off).take (rows.length*es'))[j]? =cur[off+j]?:=by
          intro j hj
          rw[List.getElem?_take,aC hj,List.getElem?_drop];simp
         refine⟨(cur.toList.drop off).take (rows.length*es'),⟨by rw[hv];simp[Builtin.lenOf],fun w1=>by rw[hv];simp[Builtin.lenOf],fun w1 m h1 hm=> ?_,by simp;omega,?_,fun i r hri k d hk=> ?_⟩⟩
         · rw[hv]
           have hle2:m*es'≤rows.length*es':=Nat.mul_le_mul_right _ hm
           refine run_firstCells_some (P:=P) w1 es' m ⟨g,off,none⟩ rows.length cap _ (by rw[aX4,aX4,aX7];omega) (fun j v hj=> ?_)
           have hjl:j<m*es':=by have:=(aYa.1 hj).1;rw[aX4] at this;omega
           rw[List.getElem?_take,aC hjl] at hj
           have hjl:j<rows.length*es':=by omega
           rw[hget j hjl] at hj
           rw[vB h1,lO,cell_of_row w g _ cur e' fz hh];exact hj
         · intro v hv2
           obtain⟨j,hj⟩:=List.mem_iff_getElem?.1 hv2
           have hjl:j<rows.length*es':=by have:=(aYa.1 hj).1;simp at this;omega
           rw[hget j hjl] at hj
           have h1:j / es'<rows.length:=(Nat.div_lt_iff_lt_mul hes).2 hjl
           have h2:j % es'<es':=Nat.mod_lt _ hes
           have hrr:=hrows (j / es') _ (aX9 h1)
           have h3:j % es'< (rows[j / es']).length:=by rw[hrr.1];exact h2
           obtain⟨u,hu,hdr⟩:=hrr.2 (j % es') _ (aX9 h3)
           rw[Nat.add_assoc,Nat.div_add_mod'] at hu
           rw[hu] at hj;cases hj
           exact DR.oneCell hdr
         · have hil:i<rows.length:=(aYa.1 hri).1
           have hkl:k<es':=by rw[← hlen r (List.mem_of_getElem? hri)];exact(aYa.1 hk).1
           obtain⟨u,hu,hdr⟩:=(hrows i r hri).2 k d hk
           exact⟨u,by rw[hget _ (lP hil hkl),← Nat.add_assoc];exact hu,hdr⟩
   · rw[hl'] at hd;cases hd
 · rename_i l
   split at h<;>try(cases h;done)
   cases h
   have hv:vx= .string ⟨l.toArray⟩:=by
    have hX:DR w S (.s l) vx:=hX
    cases hX;rfl
   by_cases hlz:l=[]
   · subst hlz
     refine⟨[],⟨by rw[hv];simp[Builtin.lenOf];rfl,fun w1=>by rw[hv];simp[Builtin.lenOf];rfl,fun w1 m h1 hm=> ?_,by simp,by simp,by simp⟩⟩
     rw[hv]
     obtain rfl:m=0:=by simpa using hm
     simp only[Builtin.firstCells,List.map_nil,aX2]
     have: ((⟨([]:List UInt8).toArray⟩:ByteArray).extract 0 0)=⟨([]:List UInt8).toArray⟩:=by
      apply ByteArray.ext
      simp
     rw[this];simp
   · have he1:es=1:=by
      obtain⟨b,hb⟩:=List.exists_mem_of_ne_nil _ hlz
      have:=hlen [.u b.toNat] (aYc.2 ⟨b,hb,rfl⟩)
      simpa using this.symm
     subst he1
     refine⟨l.map fun b=> .int .u8 b.toNat,⟨by rw[hv];simp[Builtin.lenOf,yR],fun w1=>by rw[hv];simp[Builtin.lenOf,yR],fun w1 m h1 hm=> ?_,by simp,by simp[Value.oneCell'],fun i r hri k d hk=> ?_⟩⟩
     · rw[hv]
       simp only[Builtin.firstCells,List.length_map]
       have: ((⟨l.toArray⟩:ByteArray).extract 0 m)=⟨(l.take m).toArray⟩:=by
        apply ByteArray.ext
        simp
       rw[this];simp
     · rw[List.getElem?_map] at hri
       cases hq:l[i]? with
       |none=>rw[hq] at hri;cases hri
       |some b=>
        rw[hq] at hri;cases hri
        cases k with
        |zero=>
         simp at hk;subst hk
         exact⟨.int .u8 b.toNat,by simp[hq],.u _⟩
        |succ k=>simp at hk
 · cases h
theorem bc {P:Program} {w:World} {t t2 ty e:TypeId} {ti:TI} {d2:TypeDesc} (hu:P.underlying t=some (.slice e)) (hok:eU P e ti) (hu2:P.underlying t2=some d2) (hd2: ∀k,d2≠ .int k)
 {S:Nat→Prop} {rows:List (List D)} {vx:Value} {news:List Value} (hs:jw P w S ti.size rows vx news)
 (g off sLen sCap:Nat) (cur:Array Value) (ce:TypeId) {fz:Nat×Nat} (hfz:aNq fz cur.size) (hg:w.heap[g]? =some (.cells cur ce fz)) (hroom:sLen+rows.length≤sCap) (hfit:off+sCap*ti.size≤cur.size):
 (Builtin.append_ #[t,t2] ty #[.slice (some ⟨g,off,none⟩) sLen sCap,vx]).run P w= .ok (.slice (some ⟨g,off,none⟩) (sLen+rows.length) sCap) (w.setRow g (dN cur.toList (off+sLen*ti.size) news).toArray):=by
 have hmul: (sLen+rows.length)*ti.size≤sCap*ti.size:=Nat.mul_le_mul_right _ hroom
 rw[Nat.add_mul,← hs.size] at hmul
 have hst:=nS (P:=P) g (off+sLen*ti.size) ce fz news 0 cur w hg hfz (by omega) hs.one
 simp only[Nat.add_zero,dN] at hst
 have hz: (match d2 with| .int _=>true|_=>false)=false:=by cases d2<;>first|rfl|exact absurd rfl (hd2 _)
 simp[Builtin.append_,run_underlying hu,run_underlying hu2,fU hok,hs.len,hroom,hs.first w rfl,lO,hst,dN,hz]
theorem tU {P:Program} {w:World} {t t2 ty e:TypeId} {ti:TI} {d2:TypeDesc} (hu:P.underlying t=some (.slice e)) (hok:eU P e ti) (hu2:P.underlying t2=some d2) (hd2: ∀k,d2≠ .int k)
 {S:Nat→Prop} {vx:Value} {news:List Value} (hs:jw P w S ti.size [] vx news):
 (Builtin.append_ #[t,t2] ty #[.slice none 0 0,vx]).run P w= .ok (.slice none 0 0) w:=by
 have hz: (match d2 with| .int _=>true|_=>false)=false:=by cases d2<;>first|rfl|exact absurd rfl (hd2 _)
 have h1:=hs.len
 have h2:=hs.first w rfl
 simp only[aX2] at h1 h2
 simp[Builtin.append_,run_underlying hu,run_underlying hu2,fU hok,h1,h2,hz]
theorem sC {P:Program} {w:World} {t t2 ty e:TypeId} {ti:TI} {d2:TypeDesc} (hu:P.underlying t=some (.slice e)) (hok:eU P e ti) (hu2:P.underlying t2=some d2) (hd2: ∀k,d2≠ .int k)
 {S:Nat→Prop} {rows:List (List D)} {vx:Value} {news:List Value} (hs:jw P w S ti.size rows vx news) (base:Option Addr) (sLen sCap:Nat) (olds:List Value)
 (hold: ∀w1,w1.heap=w.heap→(Builtin.firstCells ti.size sLen (.slice base sLen sCap)).run P w1= .ok olds.toArray w1)
 (hgrow:sCap<sLen+rows.length) (hbytes: (sLen+rows.length)*ti.bytes≤140737488355328):
 ∃cap zs,(Builtin.append_ #[t,t2] ty #[.slice base sLen sCap,vx]).run P w= .ok (.slice (some ⟨w.heap.size,0,none⟩) (sLen+rows.length) cap) (w.drew.alloc (.cells (olds++news++zs).toArray e))∧sLen+rows.length≤cap∧cap≤maxLen∧
  zs.length=(cap - (sLen+rows.length))*ti.size:=by
 have hz: (match d2 with| .int _=>true|_=>false)=false:=by cases d2<;>first|rfl|exact absurd rfl (hd2 _)
 obtain⟨i,z,hi,hsz,hby,hzero,hzc⟩:=hok.info
 have hb:=hok.bpos
 have hle:sLen+rows.length≤(sLen+rows.length)*ti.bytes:=Nat.le_mul_of_pos_right _ hb
 have hfit: ¬(281474976710656<Builtin.nextslicecap (sLen+rows.length) sCap*ti.bytes):=by
  have:=growslice_fits hgrow hbytes;omega
 have hcl:=grownCap_ge w (sLen+rows.length) sCap e
 have hcm:=grownCap_le_maxLen w (sLen+rows.length) sCap e (by simp only[maxLen];omega)
 have hzl:z.cells.size=ti.size:=by rw[← Array.length_toList,hzc,List.length_map,hok.zlen]
 refine⟨grownCap w (sLen+rows.length) sCap e,(Builtin.zeroCells z.cells (grownCap w (sLen+rows.length) sCap e - (sLen+rows.length))).toList,?_,hcl,hcm,?_⟩
 · have hn: ¬(sLen+rows.length≤sCap):=by omega
   have h63: ¬(9223372036854775807< ((sLen:Int)+(rows.length:Int))):=by omega
   have ho:=hold w.drew rfl
   have hf:=hs.first w.drew rfl
   simp[Builtin.append_,run_underlying hu,run_underlying hu2,fU hok,hs.len,hn,h63,typeInfo,hi,hby,hfit,hz,Question.forced,zeroValue,hzero,newRow,grownCap]
   rw[ho,Result.andThen_ok,hf,Result.andThen_ok]
   simp
   congr 2
   apply Array.toList_inj.1
   simp
 · simp[size_zeroCells,hzl]
set_option linter.unusedSimpArgs false
theorem yT {P:Program} {T:hZ} (hT:dV P T) {σ0:St} {t2:TypeId} {X:V} {p:Prop} {rows:List (List D)} {R:List (dK×Option K)} (h:sQ T σ0 t2 X=some (p,rows,R)):
 ∃d2,P.underlying t2=some d2∧ ∀k,d2≠ .int k:=by
 unfold sQ at h
 split at h<;>try(cases h;done)
 all_goals
  split at h<;>try(cases h;done)
  rename_i ht
  have:=(hT t2 _ ‹_›).kind
  simp only[mM] at this
  exact⟨_,this,fun k e=>by cases e⟩
theorem sR {T:hZ} {σ0:St} {t2:TypeId} {X:V} {p:Prop} {rows:List (List D)} {R:List (dK×Option K)} (h:sQ T σ0 t2 X=some (p,rows,R)):bV R σ0:=by
 unfold sQ at h
 split at h<;>try(cases h;done)
 all_goals
  split at h<;>try(cases h;done)
  cases h
  first|exact bV.nil|exact bV.one ‹_›
theorem oa {P:Program} {o:Oper} {d id:Nat} {R:List (dK×Option K)} {k:K} {X:V} (hd:o.dst=some d)
 (h: ∀(cx:Cx P) (σ:St) (ι:Nat→Value) (S:Nat→Prop) (a:Act) (w:World),bV R σ→RW cx σ ι S a w→ ∃v old p w',(execOp a.eval o).run P w= .ok (.value v) w'∧aLa σ ι S w id old k p w'∧
  mI (qM σ (.o id) k) (fun o=>if o=id then p else ι o) w' S X v):vW P o R [(.o id,k),(.t d,.v X)]:=by
 intro cx σ ι S a w hr hw hb next Q hn
 obtain⟨v,old,p,w',he,ht,hx⟩:=h cx σ ι S a w hr hw
 unfold Oper.wp
 rw[he]
 simp only[Oper.upon,hd]
 exact hn _ S _ w' ((hw.turn ht).put (hb d hd) hx)
def aDc (T:hZ) (σ:St) (t t2:TypeId) (x y:Operand) (d:Option Tmp):Res:=
 match ev σ x,ev σ y,T t,d with
 |some (.e (.c (.own ob n)),R),some (Y,R2),some ⟨.sl e,_,_,_⟩,some d=>match T e,aV σ (.o ob),sQ T σ t2 Y with
  |some ti,some (.row e' es rows),some (q,news,R3)=>if e=e'∧ti.size=es then
   some (q∧rows.length=n∧(∀r∈news,r.length=es)∧(n+news.length)*ti.bytes≤140737488355328,R++R2++R3++[(.o ob,some (.row e' es rows))],
    [(.o ob,.row e es (rows++news)),(.t d,.v (.e (.c (.own ob (rows++news).length))))]) else none
  |_,_,_=>none
 |some (.e (.c .nil),R),some (Y,R2),some ⟨.sl e,_,_,_⟩,some d=>match T e,sQ T σ t2 Y with
  |some ti,some (q,news,R3)=>if wX σ (.o (jU σ d)) then
   some (q∧(∀r∈news,r.length=ti.size)∧news.length*ti.bytes≤140737488355328,R++R2++R3++[(.o (jU σ d),none)],
    [(.o (jU σ d),.row e ti.size news),(.t d,.v (.e (.c (.own (jU σ d) news.length))))]) else none
  |_,_=>none
 |_,_,_,_=>none
theorem oc {w:World} {S:Nat→Prop} {es:Nat} {rows news:List (List D)} {off:Nat} {at_:Nat→Option Value}
 (hold: ∀(i:Nat) r,rows[i]? =some r→r.length=es∧ ∀(k:Nat) d,r[k]? =some d→ ∃u,at_ (off+i*es+k)=some u∧DR w S d u)
 (hnew: ∀r∈news,r.length=es) (hn: ∀(i:Nat) r,news[i]? =some r→ ∀(k:Nat) d,r[k]? =some d→ ∃u,at_ (off+rows.length*es+(i*es+k))=some u∧DR w S d u):
 ∀(i:Nat) r,(rows++news)[i]? =some r→r.length=es∧ ∀(k:Nat) d,r[k]? =some d→ ∃u,at_ (off+i*es+k)=some u∧DR w S d u:=by
 intro i r hr
 by_cases hi:i<rows.length
 · rw[List.getElem?_append_left hi] at hr
   exact hold i r hr
 · rw[List.getElem?_append_right (by omega)] at hr
   refine⟨hnew r (List.mem_of_getElem? hr),fun k d hk=> ?_⟩
   obtain⟨u,hu,hdr⟩:=hn (i - rows.length) r hr k d hk
   refine⟨u,?_,hdr⟩
   have:off+i*es+k=off+rows.length*es+((i - rows.length)*es+k):=by
    have:i*es=rows.length*es+(i - rows.length)*es:=by rw[← Nat.add_mul];congr 1;omega
    omega
   rw[this];exact hu
theorem aE8 {P:Program} {T:hZ} (hT:dV P T) {o:Oper} {σ0:St} {t t2:TypeId} {x y:Operand} (ho:o.op= .call {callee:= .builtin .append,args:= #[x,y],argTypes:= #[t,t2]}):
 lU P o σ0 (aDc T σ0 t t2 x y o.dst):=by
 intro p R W h hp
 unfold aDc at h
 split at h
 · rename_i ob n Rx Y Ry e _ _ _ d hx hy ht hd
   split at h<;>try(cases h;done)
   rename_i ti e' es rows q news R3 hte hl hsrc
   split at h<;>try(cases h;done)
   rename_i hee
   obtain⟨rfl,rfl⟩:=hee
   cases h
   obtain⟨hq,hn,hnl,hbytes⟩:=hp
   have hu:=(hT t _ ht).kind
   simp only[mM] at hu
   have hok:=hT e ti hte
   obtain⟨d2,hu2,hd2⟩:=yT hT hsrc
   refine⟨oa hd fun cx σ ι S a w hr hw=> ?_,(((dH hx).append (dH hy)).append (sR hsrc)).append (bV.one hl)⟩
   have hl':=hr.right (.o ob,some (.row e ti.size rows)) (by simp)
   dsimp only at hl'
   have hX:=dP hx hr.left.left.left hw
   have hY:=dP hy hr.left.left.right hw
   obtain⟨nv,hs⟩:=ek hT hsrc hq hok.pos hnl hr.left.right hw hY
   obtain⟨_,h2⟩:=(show CR σ ι w S (.own ob n) (a.eval x) from hX)
   rcases h2 with⟨e2,es2,rows2,hl2,hnn,hv⟩|hdd
   case inr=>rw[hl'] at hdd;cases hdd
   rw[hl'] at hl2;cases hl2
   have hvx:=hv hn
   have hlen: (rows++news).length=n+news.length:=by rw[aXz,hn]
   rcases hw.vr.objs ob _ hl' with⟨hn2,hr2⟩|⟨g,off,cap,cur,fz,hg,hh,hfz,hc1,hc2,hc3,hrows⟩
   ·
    subst hr2
    rw[hn2] at hvx
    have hn0:n=0:=by simpa using hn.symm
    subst hn0
    by_cases hnz:news=[]
    · subst hnz
      have hrun:=tU (w:=w) (ty:=o.type) hu hok hu2 hd2 hs
      have hblock: ∀b,b<w.heap.size→some b≠(none:Option Nat)→w.heap[b]? =w.heap[b]?:=fun _ _ _=>rfl
      refine⟨.slice none 0 0,none,.slice none 0 0,w,?_,⟨rfl,rfl,rfl,aX8 _,hblock,(fun b hb=>by cases hb),.inr ⟨_,hl',rfl,by simp,fun _=>hn2.symm⟩,(fun b hb=>by simp[uZ] at hb),.inl ⟨rfl,by simp⟩⟩,rfl,.inl ⟨e,ti.size,_,dD _ _ _,by simp,fun _=>by simp⟩⟩
      simp[execOp,ho,resolve,invoke,builtin,hvx,hrun]
    · have hnpos:0<news.length:=List.length_pos_iff.2 hnz
      obtain⟨cap',zs,hrun,hle,hm,hzl⟩:=sC (w:=w) (ty:=o.type) hu hok hu2 hd2 hs none 0 0 [] (fun w1 _=>by simp[Builtin.firstCells]) (by omega) (by simpa using hbytes)
      simp only[List.nil_append,Nat.zero_add] at hrun hle hzl
      have hblock: ∀b,b<w.heap.size→some b≠(none:Option Nat)→(w.drew.alloc (.cells (nv++zs).toArray e)).heap[b]? =w.heap[b]?:=fun b hb _=>heap_alloc_old w.drew _ b hb
      have hevo:aV σ (.o ob)=none∨ ∃k0,aV σ (.o ob)=some k0∧nU (ι ob) (.slice (some ⟨w.heap.size,0,none⟩) news.length cap') k0 (.row e ti.size ([]++news)):=
       .inr ⟨_,hl',rfl,by simp,fun hc=>by simp at hc;exact absurd hc hnz⟩
      have st:=sA hw.vr hblock (fun b hb=>by cases hb) hevo
      refine⟨.slice (some ⟨w.heap.size,0,none⟩) news.length cap',none,.slice (some ⟨w.heap.size,0,none⟩) news.length cap',w.drew.alloc (.cells (nv++zs).toArray e),?_,
       ⟨rfl,rfl,rfl,by simp,hblock,(fun b hb=>by cases hb),hevo,(fun b hb=> .inr (by simp[uZ] at hb;omega)),?_⟩,rfl,.inl ⟨e,ti.size,_,dD _ _ _,by simp,fun _=>by simp⟩⟩
      · simp[execOp,ho,resolve,invoke,builtin,hvx,hrun]
      · refine .inr ⟨w.heap.size,0,cap',(nv++zs).toArray,(0,0),by simp,heap_alloc_new w.drew _,.inl rfl,by simpa using hle,hm,?_,?_⟩
        · rw[List.size_toArray,aXz,hs.size,hzl,← Nat.add_mul,Nat.add_sub_cancel' hle];omega
        · refine oc (at_:=fun j=>(nv++zs).toArray[j]?) (by simp) hnl (fun i r hi k d hk=> ?_)
          obtain⟨u,hu',hdr⟩:=hs.rel i r hi k d hk
          refine⟨u,?_,DR.mono st.sub st.keep hdr⟩
          have hlt:=(aYa.1 hu').1
          simp only[List.getElem?_toArray,aX2,Nat.zero_mul,Nat.zero_add]
          rw[List.getElem?_append_left hlt];exact hu'
   · rw[hg,hn] at hvx
     by_cases hroom:n+news.length≤cap
     · have hrun:=bc (w:=w) (ty:=o.type) hu hok hu2 hd2 hs g off n cap cur e hfz hh hroom hc3
       have hmul: (n+news.length)*ti.size≤cap*ti.size:=Nat.mul_le_mul_right _ hroom
       rw[Nat.add_mul,← hs.size] at hmul
       have h9:cur.toList.length=cur.size:=Array.length_toList
       have hmine: ∀b',some g=some b'→lJ σ ι ob b':=fun b' e=>by cases e;exact⟨⟨_,hl',trivial⟩,by rw[hg];rfl⟩
       have hblock: ∀b',b'<w.heap.size→some b'≠some g→(w.setRow g (dN cur.toList (off+n*ti.size) nv).toArray).heap[b']? =w.heap[b']?:=fun b' _ hne=>setRow_other w g b' _ (fun e=>hne (by rw[e]))
       have hevo:aV σ (.o ob)=none∨ ∃k0,aV σ (.o ob)=some k0∧nU (ι ob) (.slice (some ⟨g,off,none⟩) (n+news.length) cap) k0 (.row e ti.size (rows++news)):=
        .inr ⟨_,hl',rfl,by simp,fun hc=>by rw[hg,← hlen,hc]⟩
       have st:=sA hw.vr hblock hmine hevo
       refine⟨.slice (some ⟨g,off,none⟩) (n+news.length) cap,some g,.slice (some ⟨g,off,none⟩) (n+news.length) cap,w.setRow g (dN cur.toList (off+n*ti.size) nv).toArray,?_,
        ⟨rfl,rfl,rfl,by simp,hblock,hmine,hevo,(fun b hb=> .inl (by simp[uZ] at hb;rw[hb])),?_⟩,rfl,.inl ⟨e,ti.size,_,dD _ _ _,aX8 _,fun _=>by simp⟩⟩
       · simp[execOp,ho,resolve,invoke,builtin,hvx,hrun]
       · refine .inr ⟨g,off,cap,(dN cur.toList (off+n*ti.size) nv).toArray,fz,by rw[hlen],setRow_heap w g cur _ e _ hh,by rw[List.size_toArray,fR (by omega),h9];exact hfz,by rw[hlen];exact hroom,hc2,?_,?_⟩
         · rw[List.size_toArray,fR (by omega),h9];exact hc3
         · refine oc (at_:=fun j=>(dN cur.toList (off+n*ti.size) nv).toArray[j]?) (fun i r hi=> ?_) hnl (fun i r hi k d hk=> ?_)
           · obtain⟨q1,q2⟩:=hrows i r hi
             refine⟨q1,fun k d hk=> ?_⟩
             obtain⟨u,hu',hdr⟩:=q2 k d hk
             refine⟨u,?_,DR.mono st.sub st.keep hdr⟩
             have hil:i<n:=by rw[← hn];exact(aYa.1 hi).1
             have hkl:k<ti.size:=by rw[← q1];exact(aYa.1 hk).1
             have:=lP hil hkl
             simp only[List.getElem?_toArray]
             rw[jE (by omega),aC (by omega)]
             simpa using hu'
           · obtain⟨u,hu',hdr⟩:=hs.rel i r hi k d hk
             refine⟨u,?_,DR.mono st.sub st.keep hdr⟩
             have hlt:=(aYa.1 hu').1
             simp only[List.getElem?_toArray,hn]
             rw[jE (by omega),aB (by omega),aC (by omega),show off+n*ti.size+(i*ti.size+k) - (off+n*ti.size)=i*ti.size+k by omega]
             exact hu'
     · have hle9:n*ti.size≤cap*ti.size:=Nat.mul_le_mul_right _ (by rw[← hn];exact hc1)
       have h9:cur.toList.length=cur.size:=Array.length_toList
       obtain⟨olds,hold⟩: ∃olds,olds=(cur.toList.drop off).take (n*ti.size):=⟨_,rfl⟩
       have holdl:olds.length=n*ti.size:=by rw[hold];simp;omega
       have hget: ∀j,j<n*ti.size→olds[j]? =cur[off+j]?:=by
        intro j hj
        rw[hold,List.getElem?_take,aC hj,List.getElem?_drop];simp
       obtain⟨cap',zs,hrun,hle,hm,hzl⟩:=sC (w:=w) (ty:=o.type) hu hok hu2 hd2 hs (some ⟨g,off,none⟩) n cap olds (fun w1 h1=>by
        refine run_firstCells_some (P:=P) w1 ti.size n ⟨g,off,none⟩ n cap _ holdl (fun j v hj=> ?_)
        have hjl:j<n*ti.size:=by rw[← holdl];exact(aYa.1 hj).1
        rw[hget j hjl] at hj
        rw[vB h1,lO,cell_of_row w g _ cur e fz hh];exact hj) (by omega) hbytes
       have hblock: ∀b,b<w.heap.size→some b≠(none:Option Nat)→(w.drew.alloc (.cells (olds++nv++zs).toArray e)).heap[b]? =w.heap[b]?:=fun b hb _=>heap_alloc_old w.drew _ b hb
       have hnn0:news.length≠0:=by intro h0;rw[h0] at hroom;rw[hn] at hc1;omega
       have hevo:aV σ (.o ob)=none∨ ∃k0,aV σ (.o ob)=some k0∧nU (ι ob) (.slice (some ⟨w.heap.size,0,none⟩) (n+news.length) cap') k0 (.row e ti.size (rows++news)):=
        .inr ⟨_,hl',rfl,by simp,fun hc=>by simp at hc;exact absurd (by rw[hc];rfl) hnn0⟩
       have st:=sA hw.vr hblock (fun b hb=>by cases hb) hevo
       refine⟨.slice (some ⟨w.heap.size,0,none⟩) (n+news.length) cap',none,.slice (some ⟨w.heap.size,0,none⟩) (n+news.length) cap',w.drew.alloc (.cells (olds++nv++zs).toArray e),?_,
        ⟨rfl,rfl,rfl,by simp,hblock,(fun b hb=>by cases hb),hevo,(fun b hb=> .inr (by simp[uZ] at hb;omega)),?_⟩,rfl,.inl ⟨e,ti.size,_,dD _ _ _,aX8 _,fun _=>by simp⟩⟩
       · simp[execOp,ho,resolve,invoke,builtin,hvx,hrun]
       · refine .inr ⟨w.heap.size,0,cap',(olds++nv++zs).toArray,(0,0),by rw[hlen],heap_alloc_new w.drew _,.inl rfl,by rw[hlen];exact hle,hm,?_,?_⟩
         · rw[List.size_toArray,aXz,aXz,hs.size,hzl,holdl,← Nat.add_mul,← Nat.add_mul,Nat.add_sub_cancel' hle];omega
         · refine oc (at_:=fun j=>(olds++nv++zs).toArray[j]?) (fun i r hi=> ?_) hnl (fun i r hi k d hk=> ?_)
           · obtain⟨q1,q2⟩:=hrows i r hi
             refine⟨q1,fun k d hk=> ?_⟩
             obtain⟨u,hu',hdr⟩:=q2 k d hk
             refine⟨u,?_,DR.mono st.sub st.keep hdr⟩
             have hil:i<n:=by rw[← hn];exact(aYa.1 hi).1
             have hkl:k<ti.size:=by rw[← q1];exact(aYa.1 hk).1
             have hlt:=lP hil hkl
             simp only[List.getElem?_toArray]
             rw[List.append_assoc,List.getElem?_append_left (by rw[holdl];omega),show 0+i*ti.size+k=i*ti.size+k by omega,hget _ hlt,← Nat.add_assoc]
             exact hu'
           · obtain⟨u,hu',hdr⟩:=hs.rel i r hi k d hk
             refine⟨u,?_,DR.mono st.sub st.keep hdr⟩
             have hlt:=(aYa.1 hu').1
             simp only[List.getElem?_toArray,hn]
             rw[List.append_assoc,List.getElem?_append_right (by rw[holdl];omega),holdl,show 0+n*ti.size+(i*ti.size+k) - n*ti.size=i*ti.size+k by omega,List.getElem?_append_left hlt]
             exact hu'
 · rename_i Rx Y Ry e _ _ _ d hx hy ht hd
   split at h<;>try(cases h;done)
   rename_i ti q news R3 hte hsrc
   split at h<;>try(cases h;done)
   rename_i habs
   cases h
   obtain⟨hq,hnl,hbytes⟩:=hp
   have hu:=(hT t _ ht).kind
   simp only[mM] at hu
   have hok:=hT e ti hte
   obtain⟨d2,hu2,hd2⟩:=yT hT hsrc
   refine⟨oa hd fun cx σ ι S a w hr hw=> ?_,(((dH hx).append (dH hy)).append (sR hsrc)).append (bV.one (qD habs))⟩
   have hno:=hr.right (.o (jU σ0 d),none) (by simp)
   dsimp only at hno
   have hX:=dP hx hr.left.left.left hw
   have hY:=dP hy hr.left.left.right hw
   obtain⟨nv,hs⟩:=ek hT hsrc hq hok.pos hnl hr.left.right hw hY
   have hvx:a.eval x= .slice none 0 0:=hX
   by_cases hnz:news=[]
   · subst hnz
     have hrun:=tU (w:=w) (ty:=o.type) hu hok hu2 hd2 hs
     refine⟨.slice none 0 0,none,.slice none 0 0,w,?_,⟨rfl,rfl,rfl,aX8 _,(fun _ _ _=>rfl),(fun b hb=>by cases hb),.inl hno,(fun b hb=>by simp[uZ] at hb),.inl ⟨rfl,by simp⟩⟩,rfl,.inl ⟨e,ti.size,_,dD _ _ _,by simp,fun _=>by simp⟩⟩
     simp[execOp,ho,resolve,invoke,builtin,hvx,hrun]
   · have hnpos:0<news.length:=List.length_pos_iff.2 hnz
     obtain⟨cap',zs,hrun,hle,hm,hzl⟩:=sC (w:=w) (ty:=o.type) hu hok hu2 hd2 hs none 0 0 [] (fun w1 _=>by simp[Builtin.firstCells]) (by omega) (by simpa using hbytes)
     simp only[List.nil_append,Nat.zero_add] at hrun hle hzl
     have hblock: ∀b,b<w.heap.size→some b≠(none:Option Nat)→(w.drew.alloc (.cells (nv++zs).toArray e)).heap[b]? =w.heap[b]?:=fun b hb _=>heap_alloc_old w.drew _ b hb
     have st:=sA (k:= .row e ti.size news) (p:= .slice (some ⟨w.heap.size,0,none⟩) news.length cap') hw.vr hblock (fun b hb=>by cases hb) (.inl hno)
     refine⟨.slice (some ⟨w.heap.size,0,none⟩) news.length cap',none,.slice (some ⟨w.heap.size,0,none⟩) news.length cap',w.drew.alloc (.cells (nv++zs).toArray e),?_,
      ⟨rfl,rfl,rfl,by simp,hblock,(fun b hb=>by cases hb),.inl hno,(fun b hb=> .inr (by simp[uZ] at hb;omega)),?_⟩,rfl,.inl ⟨e,ti.size,_,dD _ _ _,by simp,fun _=>by simp⟩⟩
     · simp[execOp,ho,resolve,invoke,builtin,hvx,hrun]
     · refine .inr ⟨w.heap.size,0,cap',(nv++zs).toArray,(0,0),by simp,heap_alloc_new w.drew _,.inl rfl,by simpa using hle,hm,?_,?_⟩
       · rw[List.size_toArray,aXz,hs.size,hzl,← Nat.add_mul,Nat.add_sub_cancel' hle];omega
       · intro i r hi
         refine⟨hnl r (List.mem_of_getElem? hi),fun k d hk=> ?_⟩
         obtain⟨u,hu',hdr⟩:=hs.rel i r hi k d hk
         refine⟨u,?_,DR.mono st.sub st.keep hdr⟩
         have hlt:=(aYa.1 hu').1
         simp only[List.getElem?_toArray]
         rw[show 0+i*ti.size+k=i*ti.size+k by omega,List.getElem?_append_left hlt];exact hu'
 · cases h
set_option linter.unusedSimpArgs false
theorem RW.congr {P:Program} {cx:Cx P} {σ σ':St} {ι:Nat→Value} {S:Nat→Prop} {a:Act} {w:World} (h:RW cx σ ι S a w) (he: ∀l,aV σ' l=aV σ l):RW cx σ' ι S a w:=by
 have st:rS σ ι S w σ' ι S w:=⟨fun _ h=>h,fun _ _=>rfl,fun o k hk=>⟨k,by rw[he];exact hk,nU.refl' _ _⟩⟩
 have hm: ∀o b,lJ σ' ι o b↔lJ σ ι o b:=fun o b=>by unfold lJ;rw[he]
 exact⟨⟨fun s x hx=>rU.step st (h.vr.slots s x (by rw[← he];exact hx)),fun o k hk=>OR.step st (fun _ _=>rfl) (h.vr.objs o k (by rw[← he];exact hk)),
  fun o b q=>h.vr.mutS o b ((hm o b).1 q),fun o o' b q q'=>h.vr.inj o o' b ((hm o b).1 q) ((hm o' b).1 q'),h.vr.sz⟩,h.size,h.defers,h.fr,fun o b q=>h.own o b ((hm o b).1 q),h.rd,
  fun o k hk=>by obtain⟨k',q1,q2⟩:=h.io o k hk;exact⟨k',by rw[he];exact q1,q2⟩⟩
abbrev mN:=List (dK×Option K)×List (dK×K)
def ItT (P:Program) (ops:Array Oper) (o:Oper) (tr:mN):Prop:=
 ∀(cx:Cx P) (σ:St) (ι:Nat→Value) (S:Nat→Prop) (a:Act) (w:World),bV tr.1 σ→RW cx σ ι S a w→(∀d,o.dst=some d→d<cx.N)→
  ∀(next:Act→World→Prop) (Q:Exit→Act→World→Prop),(∀ι' S' a' w',RW cx (iP σ tr.2) ι' S' a' w'→next a' w')→
   if Region.wanted o (yielded ops a.tmps) then o.wp P a w next Q∨(o.asks P a w∧LetsOut Q) else next (a.put o.dst undef) w
theorem xW {P:Program} {ops:Array Oper} {o:Oper} {R:List (dK×Option K)} {W:List (dK×K)} (hg:o.guard=none) (h:vW P o R W):ItT P ops o (R,W):=by
 intro cx σ ι S a w hr hw hb next Q hn
 rw[aC (by simp[Region.wanted,hg])]
 exact .inl (h cx σ ι S a w hr hw hb next Q hn)
theorem uw {P:Program} {cx:Cx P} {σ:St} {ι:Nat→Value} {S:Nat→Prop} {a:Act} {w:World} (hw:RW cx σ ι S a w) {ops:Array Oper} {j s:Nat} (hs: (ops[j]?).bind (·.dst)=some s) {x:Bool} (hl:aV σ (.t s)=some (.v (B x))):
 yielded ops a.tmps j=some x:=by
 have h1:=hw.vr.slots s _ hl
 simp only[rU,mI,ER,CR] at h1
 have h2:iZ a s= .bool x:=by generalize iZ a s=v at h1;cases h1;rfl
 have h3:a.tmps[s]? =some (.bool x):=by
  unfold iZ at h2
  rw[Array.getD_eq_getD_getElem?] at h2
  cases hq:a.tmps[s]? with
  |none=>rw[hq] at h2;simp[undef] at h2
  |some v=>rw[hq] at h2;simp at h2;rw[h2]
 simp[yielded,hs,h3]
theorem aE9 {P:Program} {ops:Array Oper} {o:Oper} {R:List (dK×Option K)} {W:List (dK×K)} {j s:Nat} {x:Bool} (hg:o.guard=some (j,x)) (hs: (ops[j]?).bind (·.dst)=some s) (h:vW P o R W):ItT P ops o ((.t s,some (.v (B x)))::R,W):=by
 intro cx σ ι S a w hr hw hb next Q hn
 have hy:=uw hw hs (hr (.t s,some (.v (B x))) (by simp))
 rw[aC (by simp[Region.wanted,hg,hy])]
 exact .inl (h cx σ ι S a w (fun p hp=>hr p (List.mem_cons_of_mem _ hp)) hw hb next Q hn)
theorem aJ9 {P:Program} {ops:Array Oper} {o:Oper} {j s:Nat} {x:Bool} (hg:o.guard=some (j,x)) (hs: (ops[j]?).bind (·.dst)=some s) {W:List (dK×K)} (hW:W=match o.dst with|some d=>[(.t d,.dead)]|none=>[]):
 ItT P ops o ([(.t s,some (.v (B (!x))))],W):=by
 intro cx σ ι S a w hr hw hb next Q hn
 have hy:=uw hw hs (hr (.t s,some (.v (B (!x)))) (by simp))
 rw[aB (by simp[Region.wanted,hg,hy])]
 subst hW
 cases hd:o.dst with
 |none=>rw[hd] at hn;exact hn ι S a w hw
 |some d=>rw[hd] at hn;exact hn ι S _ w (hw.putDead (hb d hd) _)
def eY:List mN→St→St
 | [],σ=>σ
 |t::r,σ=>eY r (iP σ t.2)
def kG:List mN→St→Prop
 | [],_=>True
 |t::r,σ=>bV t.1 σ∧kG r (iP σ t.2)
def xX (P:Program) (ops:Array Oper):List Oper→List mN→Prop
 | [],[]=>True
 |o::os,t::ts=>ItT P ops o t∧xX P ops os ts
 |_,_=>False
def aNx (N:Nat) (l:List Oper):Bool:=l.all fun o=>match o.dst with|some d=>decide (d<N)|none=>true
theorem wY {N:Nat} {l:List Oper} (h:aNx N l=true) {o:Oper} (ho:o∈l): ∀d,o.dst=some d→d<N:=by
 intro d hd
 have:=aYd.1 h o ho
 rw[hd] at this
 simpa using this
theorem yU {P:Program} {ops:Array Oper} {cx:Cx P} {Q:Exit→Act→World→Prop}: ∀(l:List Oper) (ts:List mN) (σ:St) (ι:Nat→Value) (S:Nat→Prop) (a:Act) (w:World),xX P ops l ts→kG ts σ→RW cx σ ι S a w→(∀o∈l,∀d,o.dst=some d→d<cx.N)→
 (∀ι' S' a' w',RW cx (eY ts σ) ι' S' a' w'→Q .normal a' w')→wpList P ops Q l a w
 | [],[],σ,ι,S,a,w,_,_,hw,_,hq=>hq ι S a w hw
 |o::os,t::ts,σ,ι,S,a,w,hi,hr,hw,hf,hq=>by
  unfold wpList
  exact hi.1 cx σ ι S a w hr.1 hw (hf o (List.mem_cons_self ..)) _ Q fun ι' S' a' w' hw'=>yU os ts _ ι' S' a' w' hi.2 hr.2 hw' (fun o ho=>hf o (List.mem_cons_of_mem _ ho)) hq
 | [],_::_,_,_,_,_,_,hi,_,_,_,_=>hi.elim
 |_::_,[],_,_,_,_,_,hi,_,_,_,_=>hi.elim
def wr:List (dK×K)→dK→Option K
 | [],_=>none
 |p::r,l=>match wr r l with
  |some k=>some k
  |none=>if p.1=l then some p.2 else none
theorem lW: ∀(W:List (dK×K)) (σ:St) (l:dK),aV (iP σ W) l=match wr W l with|some k=>some k|none=>aV σ l
 | [],σ,l=>rfl
 |p::r,σ,l=>by
  unfold iP wr
  rw[lW r]
  cases wr r l with
  |some k=>rfl
  |none=>
   rw[lV]
   by_cases h:p.1=l
   · simp[h]
   · simp[h]
theorem yV {W:List (dK×K)} {l:dK} (h:l∉W.map (·.1)):wr W l=none:=by
 induction W with
 |nil=>rfl
 |cons p r ih=>
  simp at h
  unfold wr
  rw[ih (by simpa using h.2),aB (fun e=>h.1 e.symm)]
theorem aQd {W:List (dK×K)} {l:dK} (h:l∈W.map (·.1)): ∃k,wr W l=some k:=by
 induction W with
 |nil=>simp at h
 |cons p r ih=>
  unfold wr
  cases hq:wr r l with
  |some k=>exact⟨k,rfl⟩
  |none=>
   simp only[List.map_cons,List.mem_cons] at h
   rcases h with h|h
   · exact⟨p.2,by rw[aC h.symm]⟩
   · obtain⟨k,hk⟩:=ih h;rw[hq] at hk;cases hk
def part (ts:List mN) (L:Nat→Bool) (σ:St) (l:dK):Nat→Option K
 |0=>aV σ l
 |n+1=>if L n=true then(match ts[n]? with
  |some t=>(match wr t.2 l with|some k=>some k|none=>part ts L σ l n)
  |none=>part ts L σ l n) else part ts L σ l n
theorem wZ: ∀(ts us:List mN) (σ:St),eY (ts++us) σ=eY us (eY ts σ)
 | [],us,σ=>rfl
 |t::ts,us,σ=>by simp only[List.cons_append,eY];exact wZ ts us _
theorem cc (ts:List mN) (σ:St) (l:dK) (L:Nat→Bool): ∀n,n≤ts.length→(∀i,i<n→L i=true)→part ts L σ l n=aV (eY (ts.take n) σ) l
 |0,_,_=>by simp[part,eY]
 |n+1,hn,hL=>by
  have hlt:n<ts.length:=hn
  unfold part
  rw[aC (hL n (by omega)),cc ts σ l L n (by omega) (fun i hi=>hL i (by omega)),aX9 hlt,List.take_succ_eq_append_getElem hlt,wZ]
  simp only[eY]
  rw[lW]
theorem cf: ∀(ts:List mN) (σ:St),kG ts σ→ ∀(i:Nat) t,ts[i]? =some t→bV t.1 (eY (ts.take i) σ)
 |t::ts,σ,h,i,u,hu=>by
  cases i with
  |zero=>simp at hu;subst hu;exact h.1
  |succ i=>simp only[List.take_succ_cons,eY];exact cf ts _ h.2 i u (by simpa using hu)
def aNy:dK→Nat
 | .t s=>2*s
 | .o n=>2*n+1
def iS (x:Nat):List Nat→Bool
 | []=>false
 |y::r=>Nat.beq x y||iS x r
def pV:List Nat→List Nat→Bool
 | [],_=>true
 |x::r,ys=> !iS x ys&&pV r ys
theorem iF {x:Nat}: ∀{ys:List Nat},iS x ys=true↔x∈ys
 | []=>by simp[iS]
 |y::r=>by simp[iS,iF (ys:=r),Nat.beq_eq_true_eq]
theorem tH: ∀{xs ys:List Nat},pV xs ys=true→ ∀x∈xs,x∉ys
 | [],_,_,x,hx=>by simp at hx
 |z::r,ys,h,x,hx=>by
  simp only[pV,aX3,Bool.not_eq_true'] at h
  rcases List.mem_cons.1 hx with rfl|hx
  · intro hm;rw[iF.2 hm] at h;cases h.1
  · exact tH h.2 x hx
def lC (o:Oper):List Nat:=(o.after.toList.filter (Region.binds .any)).map (·.on)
def nB:List Oper→List (List Nat)→List (List Nat)
 | [],acc=>acc
 |o::os,acc=>nB os (acc++[(lC o).flatMap fun i=>i::acc.getD i []])
abbrev bz:=List Nat×List Nat
def pD (t:mN):bz:=(t.1.map fun p=>aNy p.1,t.2.map fun p=>aNy p.1)
def pW (x y:bz):Bool:=pV x.2 y.2&&pV x.2 y.1&&pV x.1 y.2
def yW (ns:List bz) (pl:List (List Nat)):Nat→Bool
 |0=>true
 |k+1=>(match ns[k]?,pl[k]? with
  |some y,some pk=>(aYb k).all fun i=>iS i pk||(match ns[i]? with|some x=>pW x y|none=>true)
  |_,_=>true)&&yW ns pl k
def sS:Nat→List Oper→Bool
 |_,[]=>true
 |k,o::os=>(lC o).all (fun i=>decide (i<k))&&sS (k+1) os
def pL (l:List Oper) (ts:List mN):Bool:=sS 0 l&&yW (ts.map pD) (nB l []) ts.length
theorem qN: ∀(k:Nat) (l:List Oper),sS k l=true→ ∀(j:Nat) o,l[j]? =some o→ ∀i∈lC o,i<k+j
 |k,[],h,j,o',ho,i,hi=>by simp at ho
 |k,o::os,h,j,o',ho,i,hi=>by
  simp only[sS,aX3,aYd,aD] at h
  cases j with
  |zero=>simp at ho;subst ho;exact h.1 i hi
  |succ j=>have:=qN (k+1) os h.2 j o' (by simpa using ho) i hi;omega
theorem yX: ∀(l:List Oper) (acc:List (List Nat)) (i:Nat),i<acc.length→(nB l acc)[i]? =acc[i]?
 | [],acc,i,h=>rfl
 |o::os,acc,i,h=>by
  rw[nB,yX os _ i (by simp;omega),List.getElem?_append_left h]
theorem jx: ∀(l:List Oper) (acc:List (List Nat)) (j:Nat) o,l[j]? =some o→(sS acc.length l=true)→
 (nB l acc)[acc.length+j]? =some ((lC o).flatMap fun i=>i::(nB l acc).getD i [])
 | [],acc,j,o',ho,he=>by simp at ho
 |o::os,acc,j,o',ho,he=>by
  have hb:=qN _ _ he
  simp only[sS,aX3] at he
  rw[nB]
  cases j with
  |zero=>
   simp at ho;subst ho
   rw[yX os _ _ (by simp),Nat.add_zero,List.getElem?_append_right (aX8 _)]
   simp only[Nat.sub_self,List.getElem?_cons_zero,Option.some.injEq]
   have hp: ∀i∈lC o,acc.getD i []=(nB os (acc++[(lC o).flatMap fun i=>i::acc.getD i []])).getD i []:=by
    intro i hi
    have hlt:=hb 0 o (by simp) i hi
    rw[aX6,aX6,yX os _ i (by simp;omega),List.getElem?_append_left (by omega)]
   have: ∀(l:List Nat),(∀i∈l,i∈lC o)→(l.flatMap fun i=>i::acc.getD i [])=l.flatMap fun i=>i::(nB os (acc++[(lC o).flatMap fun i=>i::acc.getD i []])).getD i []:=by
    intro l
    induction l with
    |nil=>intro _;rfl
    |cons x l ih=>
     intro h
     rw[List.flatMap_cons,List.flatMap_cons,ih (fun i hi=>h i (List.mem_cons_of_mem _ hi)),hp x (h x (List.mem_cons_self ..))]
   exact this _ (fun i hi=>hi)
  |succ j=>
   have:=jx os (acc++[(lC o).flatMap fun i=>i::acc.getD i []]) j o' (by simpa using ho) (by simpa using he.2)
   simp only[aXz,aX1,aX2,Nat.zero_add] at this
   rw[show acc.length+(j+1)=acc.length+1+j by omega]
   exact this
theorem qO {ns:List bz} {pl:List (List Nat)}: ∀{n:Nat},yW ns pl n=true→ ∀k i,k<n→i<k→ ∀x y pk,ns[i]? =some x→ns[k]? =some y→pl[k]? =some pk→i∈pk∨pW x y=true
 |n+1,h,k,i,hk,hi,x,y,pk,hx,hy,hp=>by
  simp only[yW,aX3] at h
  by_cases e:k=n
  · subst e
    have h1:=h.1
    rw[hy,hp] at h1
    have h2:=aYd.1 h1 i (List.mem_range.2 hi)
    rw[hx] at h2
    simp only[Bool.or_eq_true] at h2
    exact h2.imp iF.1 id
  · exact qO h.2 k i (by omega) hi x y pk hx hy hp
set_option linter.unusedSimpArgs false
theorem lX (ts:List mN) (L:Nat→Bool) (σ:St) (l:dK) (n:Nat):part ts L σ l (n+1)=if L n=true then(match ts[n]? with
 |some t=>(match wr t.2 l with|some k=>some k|none=>part ts L σ l n)
 |none=>part ts L σ l n) else part ts L σ l n:=rfl
theorem ux {ts:List mN} {σ:St} {l:dK} {L L':Nat→Bool} {i:Nat} {t:mN} (hi:ts[i]? =some t) (hLi:L i=false) (hL': ∀j,L' j=if j=i then true else L j)
 (hlater: ∀j u,i<j→L j=true→ts[j]? =some u→wr t.2 l≠none→wr u.2 l=none):
 ∀n,part ts L' σ l n=if i<n then(match wr t.2 l with|some k=>some k|none=>part ts L σ l n) else part ts L σ l n
 |0=>by simp[part]
 |n+1=>by
  have ih:=ux (σ:=σ) hi hLi hL' hlater n
  simp only[part]
  by_cases e:n=i
  · subst e
    have h1:L' n=true:=by rw[hL' n,aC rfl]
    simp only[h1,hLi,if_true,hi,ih,Nat.lt_irrefl,if_false,Nat.lt_succ_self,Bool.false_eq_true]
    all_goals(cases wr t.2 l<;>rfl)
  · have h1:L' n=L n:=by rw[hL' n,aB e]
    rw[h1,ih]
    by_cases hlt:i<n
    · have h2:i<n+1:=by omega
      simp only[hlt,h2,if_true]
      cases hn:L n with
      |false=>simp
      |true=>
       simp only[if_true]
       cases hu:ts[n]? with
       |none=>cases wr t.2 l<;>rfl
       |some u=>
        cases hw:wr t.2 l with
        |none=>rfl
        |some k=>simp[hlater n u hlt hn hu (by rw[hw];simp)]
    · have h2: ¬i<n+1:=by omega
      simp only[hlt,h2,if_false]
theorem gy {ts:List mN} {σ:St} {l:dK} {L:Nat→Bool} {i:Nat} (hLi:L i=false) (hbefore: ∀j u,j<i→L j=false→ts[j]? =some u→wr u.2 l=none)
 (hafter: ∀j u,i<j→L j=true→ts[j]? =some u→wr u.2 l=none): ∀n,part ts L σ l n=part ts (fun _=>true) σ l (min n i)
 |0=>by simp[part]
 |n+1=>by
  have ih:=gy (σ:=σ) hLi hbefore hafter n
  by_cases hlt:n<i
  · rw[show min (n+1) i=n+1 by omega]
    rw[lX,lX]
    rw[ih,show min n i=n by omega]
    simp only[if_true]
    by_cases hn:L n=true
    · rw[aC hn]
    · rw[aB hn]
      cases hu:ts[n]? with
      |none=>rfl
      |some u=>simp[hbefore n u hlt (by simpa using hn) hu]
  · rw[show min (n+1) i=min n i by omega]
    rw[lX]
    by_cases hn:L n=true
    · rw[aC hn]
      have hne:n≠i:=fun e=>by rw[e,hLi] at hn;cases hn
      cases hu:ts[n]? with
      |none=>exact ih
      |some u=>simp[hafter n u (by omega) hn hu];exact ih
    · rw[aB hn];exact ih
theorem aFa {t u:mN} (h:pV (pD t).2 (pD u).2=true) {l:dK} (hw:wr t.2 l≠none):wr u.2 l=none:=by
 apply yV
 intro hm
 have h1:l∈t.2.map (·.1):=Decidable.byContradiction fun hc=>hw (yV hc)
 have:=tH h (aNy l) (by simp[pD];obtain⟨p,hp,rfl⟩:=aYc.1 h1;exact⟨p.1,⟨p.2,hp⟩,rfl⟩)
 exact this (by simp[pD];obtain⟨p,hp,rfl⟩:=aYc.1 hm;exact⟨p.1,⟨p.2,hp⟩,rfl⟩)
theorem aFb {t u:mN} (h:pV (pD t).1 (pD u).2=true) {p:dK×Option K} (hp:p∈t.1):wr u.2 p.1=none:=by
 apply yV
 intro hm
 have:=tH h (aNy p.1) (by simp[pD];exact⟨p.1,⟨p.2,hp⟩,rfl⟩)
 exact this (by simp[pD];obtain⟨q,hq,he⟩:=aYc.1 hm;exact⟨p.1,⟨q.2,by rw[← he];exact hq⟩,rfl⟩)
theorem aFc {t u:mN} (h:pV (pD t).2 (pD u).1=true) {p:dK×Option K} (hp:p∈u.1):wr t.2 p.1=none:=by
 apply yV
 intro hm
 obtain⟨q,hq,he⟩:=aYc.1 hm
 have:=tH h (aNy p.1) (by simp[pD];exact⟨p.1,⟨q.2,by rw[← he];exact hq⟩,rfl⟩)
 exact this (by simp[pD];exact⟨p.1,⟨p.2,hp⟩,rfl⟩)
theorem pM {listed:Array Bool} {j:Nat}:listed.getD j true=false↔j<listed.size∧listed.getD j false=false:=by
 rw[Array.getD_eq_getD_getElem?,Array.getD_eq_getD_getElem?]
 rcases Nat.lt_or_ge j listed.size with h|h
 · simp[h]
 · simp[Array.getElem?_eq_none h];omega
theorem re {N i:Nat} {L L':Nat→Bool} (hi:i<N) (hLi:L i=false) (hL': ∀j,L' j=if j=i then true else L j): ((aYb N).filter fun j=> !L' j).length< ((aYb N).filter fun j=> !L j).length:=by
 induction N with
 |zero=>omega
 |succ N ih=>
  rw[List.range_succ,List.filter_append,List.filter_append,aXz,aXz]
  by_cases e:i=N
  · subst e
    have: ((aYb i).filter fun j=> !L' j).length=((aYb i).filter fun j=> !L j).length:=by
     congr 1
     apply List.filter_congr
     intro j hj
     rw[hL' j,aB (by have:=List.mem_range.1 hj;omega)]
    have h1:L' i=true:=by rw[hL' i,aC rfl]
    rw[this]
    simp[hLi,h1]
  · have:=ih (by omega)
    have h2: ([N].filter fun j=> !L' j).length=([N].filter fun j=> !L j).length:=by
     simp[List.filter_cons,hL' N,show ¬N=i by omega]
    omega
section
variable {P:Program} {ops:Array Oper} {cx:Cx P} {Q:Exit→Act→World→Prop} {ts:List mN} {σ:St}
theorem xY (hlen:ts.length=ops.size) (hit: ∀(i:Nat) o t,ops[i]? =some o→ts[i]? =some t→ItT P ops o t) (hr:kG ts σ) (hok:pL ops.toList ts=true) (hf: ∀o∈ops.toList,∀d,o.dst=some d→d<cx.N)
 (hq: ∀ι' S' a' w',RW cx (eY ts σ) ι' S' a' w'→Q .normal a' w'):
 ∀(fuel:Nat) (listed:Array Bool) (σL:St) (ι:Nat→Value) (S:Nat→Prop) (a:Act) (w:World),listed.size=ops.size→(∀l,aV σL l=part ts (fun i=>listed.getD i false) σ l ts.length)→RW cx σL ι S a w→
  (∀k o,ops[k]? =some o→listed.getD k false=true→ ∀i∈lC o,listed.getD i false=true)→((aYb ops.size).filter fun i=> !listed.getD i false).length≤fuel→wpAny P .any ops Q fuel listed a w:=by
 simp only[pL,aX3] at hok
 obtain⟨hedge,hpair⟩:=hok
 have hedge': ∀(j:Nat) o,ops[j]? =some o→ ∀i∈lC o,i<j:=fun j o ho i hi=>by
  have:=qN 0 ops.toList hedge j o (by simpa using ho) i hi;omega
 have hpl: ∀(j:Nat) o,ops[j]? =some o→(nB ops.toList [])[j]? =some ((lC o).flatMap fun i=>i::(nB ops.toList []).getD i []):=fun j o ho=>by
  have:=jx ops.toList [] j o (by simpa using ho) hedge
  simpa using this
 have main: ∀(fuel:Nat) (listed:Array Bool) (σL:St) (ι:Nat→Value) (S:Nat→Prop) (a:Act) (w:World),listed.size=ops.size→(∀l,aV σL l=part ts (fun i=>listed.getD i false) σ l ts.length)→RW cx σL ι S a w→
  (∀k o,ops[k]? =some o→listed.getD k false=true→ ∀i∈lC o,listed.getD i false=true)→
  (Region.ready .any ops listed=[]→Q .normal a w)∧ ∀i∈Region.ready .any ops listed,∃o t,ops[i]? =some o∧ts[i]? =some t∧i<ops.size∧listed.getD i false=false∧bV t.1 σL∧
   (∀k o,ops[k]? =some o→(listed.setIfInBounds i true).getD k false=true→ ∀i'∈lC o,(listed.setIfInBounds i true).getD i' false=true)∧(∀j,(listed.setIfInBounds i true).getD j false=if j=i then true else listed.getD j false)∧
   ∀l,aV (iP σL t.2) l=part ts (fun j=>(listed.setIfInBounds i true).getD j false) σ l ts.length:=by
  intro fuel listed σL ι S a w hsz hlook hw hcl
  have hclosed: ∀(k:Nat),∀o,ops[k]? =some o→(∀i∈lC o,listed.getD i false=true)→ ∀i∈(nB ops.toList []).getD k [],listed.getD i false=true:=by
   intro k
   induction k using Nat.strongRecOn with
   |_ k ih=>
    intro o ho hp i hi
    rw[aX6,hpl k o ho] at hi
    simp only[Option.getD_some,List.mem_flatMap] at hi
    obtain⟨i',hi',hi⟩:=hi
    rcases List.mem_cons.1 hi with rfl|hi
    · exact hp i hi'
    · have hlt:=hedge' k o ho i' hi'
      have hsz':k<ops.size:=(Array.getElem?_eq_some_iff.1 ho).1
      have ho':ops[i']? =some ops[i']:=Array.getElem?_eq_getElem (by omega)
      exact ih i' hlt _ ho' (hcl i' _ ho' (hp i' hi')) i hi
  refine⟨fun hnil=> ?_,fun i hi=> ?_⟩
  · have hall: ∀k,k<ops.size→listed.getD k false=true:=by
     intro k
     induction k using Nat.strongRecOn with
     |_ k ih=>
      intro hk
      cases hL:listed.getD k false with
      |true=>rfl
      |false=>
       have ho:ops[k]? =some ops[k]:=Array.getElem?_eq_getElem hk
       have:k∈Region.ready .any ops listed:=mem_ready.2 ⟨pM.2 ⟨by omega,hL⟩,_,ho,fun e he hb=>by
        have hm:e.on∈lC ops[k]:=aYc.2 ⟨e,List.mem_filter.2 ⟨by simpa using he,hb⟩,rfl⟩
        have:=hedge' k _ ho _ hm
        exact ih e.on this (by omega)⟩
       rw[hnil] at this;cases this
    refine hq ι S a w (hw.congr fun l=> ?_)
    rw[hlook l,cc ts σ l _ ts.length (aX8 _) (fun i hi=>hall i (by omega)),aYe]
  · obtain⟨hun,o,ho,hall⟩:=mem_ready.1 hi
    obtain⟨hisz,hLi⟩:=pM.1 hun
    have hit':i<ts.length:=by omega
    have hti:ts[i]? =some ts[i]:=aX9 hit'
    have hpreds: ∀i'∈lC o,listed.getD i' false=true:=by
     intro i' hi'
     obtain⟨e,he,rfl⟩:=aYc.1 hi'
     obtain⟨he1,he2⟩:=List.mem_filter.1 he
     exact hall e (by simpa using he1) he2
    have hset: ∀j,(listed.setIfInBounds i true).getD j false=if j=i then true else listed.getD j false:=by
     intro j
     rw[Array.getD_eq_getD_getElem?,Array.getD_eq_getD_getElem?]
     by_cases e:j=i
     · subst e;simp[hisz]
     · rw[aB e,Array.getElem?_setIfInBounds_ne (fun h=>e h.symm)]
    have later: ∀j u,i<j→listed.getD j false=true→ts[j]? =some u→pW (pD ts[i]) (pD u)=true:=by
     intro j u hij hLj hu
     have hjl:j<ts.length:=(aYa.1 hu).1
     have hoj:ops[j]? =some ops[j]:=Array.getElem?_eq_getElem (by omega)
     rcases qO hpair j i hjl hij (pD ts[i]) (pD u) _ (by simp[hti]) (by simp[hu]) (hpl j _ hoj) with h|h
     · have:=hclosed j _ hoj (hcl j _ hoj hLj) i (by rw[aX6,hpl j _ hoj];exact h)
       rw[hLi] at this;cases this
     · exact h
    have earlier: ∀j u,j<i→listed.getD j false=false→ts[j]? =some u→pW (pD u) (pD ts[i])=true:=by
     intro j u hij hLj hu
     rcases qO hpair i j hit' hij (pD u) (pD ts[i]) _ (by simp[hu]) (by simp[hti]) (hpl i _ ho) with h|h
     · have:=hclosed i _ ho hpreds j (by rw[aX6,hpl i _ ho];exact h)
       rw[hLj] at this;cases this
     · exact h
    have hreads:bV ts[i].1 σL:=by
     intro p hp
     rw[hlook p.1,gy hLi (fun j u hj hLj hu=>by
      have:=earlier j u hj hLj hu
      simp only[pW,aX3] at this
      exact aFc this.1.2 hp) (fun j u hj hLj hu=>by
      have:=later j u hj hLj hu
      simp only[pW,aX3] at this
      exact aFb this.2 hp),show min ts.length i=i by omega,cc ts σ p.1 _ i (by omega) (fun _ _=>rfl)]
     exact cf ts σ hr i _ hti p hp
    refine⟨o,ts[i],ho,hti,by omega,hLi,hreads,fun k o' ho' hk i' hi'=> ?_,hset,fun l=> ?_⟩
    · rw[hset] at hk ⊢
      by_cases e:i'=i
      · rw[aC e]
      · rw[aB e]
        by_cases e2:k=i
        · subst e2;rw[ho] at ho';cases ho';exact hpreds i' hi'
        · rw[aB e2] at hk;exact hcl k o' ho' hk i' hi'
    · rw[lW,ux hti hLi hset (fun j u hj hLj hu hne=>by
       have:=later j u hj hLj hu
       simp only[pW,aX3] at this
       exact aFa this.1.1 hne) ts.length,aC hit',hlook l]
      all_goals(cases wr ts[i].2 l<;>rfl)
 intro fuel
 induction fuel with
 |zero=>
  intro listed σL ι S a w hsz hlook hw hcl hcount
  obtain⟨h1,h2⟩:=main 0 listed σL ι S a w hsz hlook hw hcl
  have hnil:Region.ready .any ops listed=[]:=by
   apply List.eq_nil_iff_forall_not_mem.2
   intro i hi
   obtain⟨o,t,ho,ht,hlt,hLi,_⟩:=h2 i hi
   have:i∈(aYb ops.size).filter fun i=> !listed.getD i false:=List.mem_filter.2 ⟨List.mem_range.2 hlt,by rw[hLi];rfl⟩
   rw[List.eq_nil_of_length_eq_zero (by omega: ((aYb ops.size).filter fun i=> !listed.getD i false).length=0)] at this
   cases this
  exact⟨hnil,h1 hnil⟩
 |succ fuel ih=>
  intro listed σL ι S a w hsz hlook hw hcl hcount
  obtain⟨h1,h2⟩:=main 0 listed σL ι S a w hsz hlook hw hcl
  refine⟨h1,fun i hi=> ?_⟩
  obtain⟨o,t,ho,ht,hlt,hLi,hreads,hcl',hset,hlook'⟩:=h2 i hi
  unfold wpOp
  rw[ho]
  refine hit i o t ho ht cx σL ι S a w hreads hw (hf o (by have:=Array.mem_of_getElem? ho;simpa using this)) _ Q fun ι' S' a' w' hw'=> ?_
  exact ih (listed.setIfInBounds i true) (iP σL t.2) ι' S' a' w' (by simpa using hsz) hlook' hw' hcl' (by
   have:=re (N:=ops.size) (L:=fun j=>listed.getD j false) (L':=fun j=>(listed.setIfInBounds i true).getD j false) hlt hLi hset
   omega)
end
set_option linter.unusedSimpArgs false
def evI (σ:St):Option Operand→Option (Option Int×List (dK×Option K))
 |none=>some (none,[])
 |some x=>match ev σ x with
  |some (.e (.c (.d (.i n))),R)=>some (some n,R)
  |_=>none
theorem uU {σ:St} {x:Option Operand} {n:Option Int} {R:List (dK×Option K)} (h:evI σ x=some (n,R)):bV R σ:=by
 cases x with
 |none=>cases h;exact bV.nil
 |some x=>
  simp only[evI] at h
  split at h<;>try(cases h;done)
  rename_i m R' hx
  cases h
  exact dH hx
theorem uV {σ0:St} {x:Option Operand} {n:Option Int} {R:List (dK×Option K)} (h:evI σ0 x=some (n,R)) {P:Program} {cx:Cx P} {σ:St} {ι:Nat→Value} {S:Nat→Prop} {a:Act} {w:World} (hr:bV R σ) (hw:RW cx σ ι S a w):
 x.map a.eval=n.map fun n=> .int .i64 n:=by
 cases x with
 |none=>cases h;rfl
 |some x=>
  simp only[evI] at h
  split at h<;>try(cases h;done)
  rename_i m R' hx
  cases h
  have:=dP hx hr hw
  simp only[mI,ER,CR] at this
  cases hv:a.eval x<;>rw[hv] at this<;>cases this
  simp[hv]
def eZ (lo:Option Int):Nat:=(lo.getD 0).toNat
def gB (hi:Option Int) (len:Nat):Nat:=(hi.getD len).toNat
def jy (lo hi:Option Int) (len:Nat):Prop:=0≤lo.getD 0∧lo.getD 0≤hi.getD len∧hi.getD len≤len
theorem yY {P:Program} {w:World} {isSl:Bool} {len cap:Nat} {lo hi:Option Int} (hlc:len≤cap) (h:jy lo hi len):
 (Instr.sliceBounds isSl len cap (lo.map fun n=> .int .i64 n) (hi.map fun n=> .int .i64 n) none).run P w= .ok (eZ lo,gB hi len,cap) w:=by
 obtain⟨h1,h2,h3⟩:=h
 cases lo with
 |none=>
  cases hi with
  |none=>simp[Instr.sliceBounds,eZ,gB]
  |some n=>
   simp only[Option.getD_some,Option.getD_none] at h1 h2 h3
   simp only[Instr.sliceBounds,Option.map_none,Option.map_some,Sem.run_bind,Sem.run_pure,Result.andThen_ok,eZ,gB,Option.getD_none,Option.getD_some]
   rw[run_sliceBound w .i64 n cap _ (by omega) (by omega)]
   simp
 |some m=>
  cases hi with
  |none=>
   simp only[Option.getD_some,Option.getD_none] at h1 h2 h3
   simp only[Instr.sliceBounds,Option.map_none,Option.map_some,Sem.run_bind,Sem.run_pure,Result.andThen_ok,eZ,gB,Option.getD_none,Option.getD_some]
   rw[run_sliceBound w .i64 m len _ h1 h2]
   simp
  |some n=>
   simp only[Option.getD_some] at h1 h2 h3
   simp only[Instr.sliceBounds,Option.map_some,Sem.run_bind,Sem.run_pure,Result.andThen_ok,eZ,gB,Option.getD_some]
   rw[run_sliceBound w .i64 n cap _ (by omega) (by omega)]
   simp only[Result.andThen_ok]
   rw[run_sliceBound w .i64 m n.toNat _ h1 (by omega)]
   simp
def aHv (T:hZ) (σ:St) (t:TypeId) (x:Operand) (lo hi mx:Option Operand) (d:Option Tmp):Res:=
 match ev σ x,evI σ lo,evI σ hi,T t,mx,d with
 |some (.e (.c (.d (.s l))),R),some (lo,R1),some (hi,R2),some ⟨.str,_,_,_⟩,none,some d=>some (jy lo hi l.length,R++R1++R2,[(.t d,.v (Dv (.s ((l.take (gB hi l.length)).drop (eZ lo)))))])
 |some (.e (.c (.d (.sl rows))),R),some (lo,R1),some (hi,R2),some ⟨.sl e,_,_,_⟩,none,some d=>match T e with
  |some ti=>some (jy lo hi rows.length∧(∀r∈rows,r.length=ti.size),R++R1++R2,[(.t d,.v (Dv (.sl ((rows.take (gB hi rows.length)).drop (eZ lo)))))])
  |none=>none
 |_,_,_,_,_,_=>none
theorem aHw {P:Program} {T:hZ} (hT:dV P T) {o:Oper} {σ0:St} {t:TypeId} {x:Operand} {lo hi mx:Option Operand} (ho:o.op= .slice t x lo hi mx):lU P o σ0 (aHv T σ0 t x lo hi mx o.dst):=by
 intro p R W h hp
 unfold aHv at h
 split at h
 · rename_i l Rx lo' R1 hi' R2 _ _ _ d hx hlo hhi ht hd
   cases h
   have hu:=(hT t _ ht).kind
   simp only[mM] at hu
   refine⟨oL hd fun cx σ ι S a w hr hw=> ?_,((dH hx).append (uU hlo)).append (uU hhi)⟩
   have hX:=dP hx hr.left.left hw
   have h1:=uV hlo hr.left.right hw
   have h2:=uV hhi hr.right hw
   simp only[mI,ER,CR] at hX
   cases hv:a.eval x<;>rw[hv] at hX<;>cases hX
   have hb:=yY (P:=P) (w:=w) (isSl:=false) (len:=l.length) (cap:=l.length) (aX8 _) hp
   refine⟨.string ⟨((l.take (gB hi' l.length)).drop (eZ lo')).toArray⟩,?_,.s _⟩
   have hex: (⟨l.toArray⟩:ByteArray).extract (eZ lo') (gB hi' l.length)=⟨((l.take (gB hi' l.length)).drop (eZ lo')).toArray⟩:=by
    apply ByteArray.ext
    simp
    rw[List.drop_take]
   simp[execOp,ho,hv,Instr.sliceAt,run_underlying hu,Instr.slice,h1,h2,yR,hb,hex]
 · rename_i rows Rx lo' R1 hi' R2 e _ _ _ d hx hlo hhi ht hd
   split at h<;>try(cases h;done)
   rename_i ti hte
   cases h
   have hu:=(hT t _ ht).kind
   simp only[mM] at hu
   have hok:=hT e ti hte
   obtain⟨hp,hes⟩:=hp
   refine⟨oL hd fun cx σ ι S a w hr hw=> ?_,((dH hx).append (uU hlo)).append (uU hhi)⟩
   have hX:=dP hx hr.left.left hw
   have h1:=uV hlo hr.left.right hw
   have h2:=uV hhi hr.right hw
   obtain⟨a0,cap,es,ad,u,hv,hc,hm,he,ha,hw1,hd1⟩:=(show DR w S (.sl rows) (a.eval x) from hX).sl_inv
   have hb:=yY (P:=P) (w:=w) (isSl:=true) (len:=rows.length) (cap:=cap) hc hp
   have hlen: ((rows.take (gB hi' rows.length)).drop (eZ lo')).length=gB hi' rows.length - eZ lo':=by
    obtain⟨q1,q2,q3⟩:=hp
    have:gB hi' rows.length≤rows.length:=by unfold gB;omega
    simp;omega
   refine⟨.slice (if cap=eZ lo' then a0 else a0.map (·.add (eZ lo'*ti.size))) (gB hi' rows.length - eZ lo') (cap - eZ lo'),?_,?_⟩
   · simp[execOp,ho,hv,Instr.sliceAt,run_underlying hu,Instr.slice,h1,h2,hb,fU hok]
   · have hcap:eZ lo'≤cap:=by obtain⟨q1,q2,q3⟩:=hp;unfold eZ;omega
     have hle:gB hi' rows.length≤cap:=by obtain⟨q1,q2,q3⟩:=hp;unfold gB;omega
     have goal:DR w S (.sl ((rows.take (gB hi' rows.length)).drop (eZ lo'))) (.slice (if cap=eZ lo' then a0 else a0.map (·.add (eZ lo'*ti.size))) ((rows.take (gB hi' rows.length)).drop (eZ lo')).length (cap - eZ lo')):=by
      have hget: ∀(i:Nat) r,((rows.take (gB hi' rows.length)).drop (eZ lo'))[i]? =some r→rows[eZ lo'+i]? =some r:=by
       intro i r hr
       rw[List.getElem?_drop,List.getElem?_take] at hr
       split at hr
       · exact hr
       · cases hr
      refine .sl _ _ _ ti.size (ad.add (eZ lo'*ti.size)) (fun i k=>u (eZ lo'+i) k) (by rw[hlen];omega) (by omega) (fun r hr=>hes r (List.mem_of_mem_take (List.mem_of_mem_drop hr))) (fun hne=> ?_) (fun i r k d hr hk=> ?_) (fun i r k d hr hk=>hd1 _ r k d (hget i r hr) hk)
      · have hlt:0< ((rows.take (gB hi' rows.length)).drop (eZ lo')).length:=List.length_pos_iff.2 hne
        rw[hlen] at hlt
        rw[aB (by omega),ha (fun e=>by rw[e] at hlt;simp[gB] at hlt;obtain⟨q1,q2,q3⟩:=hp;rw[e] at q3;simp at q3;unfold eZ at hlt;omega)]
        rfl
      · have hr2:=hget i r hr
        obtain⟨q1,q2⟩:=hw1 _ r k d hr2 hk
        have hee:es=ti.size:=by rw[← he r (List.mem_of_getElem? hr2)];exact hes r (List.mem_of_getElem? hr2)
        refine⟨by rw[nu];exact q1,?_⟩
        rw[add_add,show eZ lo'*ti.size+(i*ti.size+k)=(eZ lo'+i)*es+k by rw[hee,Nat.add_mul];omega]
        exact q2
     rw[hlen] at goal
     exact goal
 · cases h
def aUk:V→V→Option (Prop×List (dK×Option K)×V)
 | .e (.c (.d (.i m))),.e (.c (.d (.i n)))=>some (True,[],I (if n<m then n else m))
 |_,_=>none
def aUl:V→V→Option (Prop×List (dK×Option K)×V)
 | .e (.c (.d (.i m))),.e (.c (.d (.i n)))=>some (True,[],I (if n>m then n else m))
 |_,_=>none
theorem aNz {P:Program} {o:Oper} {σ:St} {x y:Operand} {ts:Array TypeId} (ho:o.op= .call {callee:= .builtin .min,args:= #[x,y],argTypes:=ts}):lU P o σ (rV σ x y o.dst aUk):=
 rZ fun X Y p R Z h hp=>by
  unfold aUk at h
  split at h<;>try(cases h;done)
  cases h
  refine⟨bV.nil,fun cx σ ι S a w _ _ hx hy=> ?_⟩
  simp only[mI,ER,CR] at hx hy
  cases hv:a.eval x<;>rw[hv] at hx<;>cases hx
  cases hv2:a.eval y<;>rw[hv2] at hy<;>cases hy
  exact⟨_,by simp[execOp,ho,resolve,invoke,builtin,hv,hv2,Builtin.min_,Builtin.min2]<;>rfl,.i _⟩
theorem aN0 {P:Program} {o:Oper} {σ:St} {x y:Operand} {ts:Array TypeId} (ho:o.op= .call {callee:= .builtin .max,args:= #[x,y],argTypes:=ts}):lU P o σ (rV σ x y o.dst aUl):=
 rZ fun X Y p R Z h hp=>by
  unfold aUl at h
  split at h<;>try(cases h;done)
  cases h
  refine⟨bV.nil,fun cx σ ι S a w _ _ hx hy=> ?_⟩
  simp only[mI,ER,CR] at hx hy
  cases hv:a.eval x<;>rw[hv] at hx<;>cases hx
  cases hv2:a.eval y<;>rw[hv2] at hy<;>cases hy
  exact⟨_,by simp[execOp,ho,resolve,invoke,builtin,hv,hv2,Builtin.max_,Builtin.max2]<;>rfl,.i _⟩
def aN1 (T:hZ) (σ:St) (t:TypeId) (x y:Operand) (d:Option Tmp):Res:=
 match ev σ x,ev σ y,T t,d with
 |some (.e (.c (.d (.i n))),R),some (.e (.c (.d (.i m))),R2),some ⟨.sl e,_,_,_⟩,some d=>match T e with
  |some ti=>match nw ti.zero with
   |some z=>if wX σ (.o (jU σ d)) then some (n=m∧0≤n∧ti.bytes*n≤281474976710656,R++R2++[(.o (jU σ d),none)],[(.o (jU σ d),.row e ti.size (List.replicate n.toNat z)),(.t d,.v (.e (.c (.own (jU σ d) n.toNat))))]) else none
   |none=>none
  |none=>none
 |_,_,_,_=>none
theorem aLi {P:Program} {T:hZ} (hT:dV P T) {o:Oper} {σ0:St} {t:TypeId} {x y:Operand} (ho:o.op= .makeSlice t x y):lU P o σ0 (aN1 T σ0 t x y o.dst):=by
 intro p R W h hp
 unfold aN1 at h
 split at h<;>try(cases h;done)
 rename_i n Rx m Ry e _ _ _ d hx hy ht hd
 split at h<;>try(cases h;done)
 rename_i ti hte
 split at h<;>try(cases h;done)
 rename_i z hz
 split at h<;>try(cases h;done)
 rename_i habs
 cases h
 obtain⟨rfl,h0,hbytes⟩:=hp
 have hu:=(hT t _ ht).kind
 simp only[mM] at hu
 have hok:=hT e ti hte
 refine⟨jt hd (by simp) fun cx σ ι S a w hr hw=> ?_,((dH hx).append (dH hy)).append (bV.one (qD habs))⟩
 have hno:=hr.right (.o (jU σ0 d),none) (by simp)
 dsimp only at hno
 have hX:=dP hx hr.left.left hw
 have hY:=dP hy hr.left.right hw
 simp only[mI,ER,CR] at hX hY
 cases hv:a.eval x<;>rw[hv] at hX<;>cases hX
 cases hv2:a.eval y<;>rw[hv2] at hY<;>cases hY
 obtain⟨i,zz,hi,hsz,hby,hzero,hzc⟩:=hok.info
 have hb1:n≤ti.bytes*n:=by
  have h1: (1:Int)≤ti.bytes:=by have:=hok.bpos;omega
  have:=Int.mul_le_mul_of_nonneg_right h1 h0
  simpa using this
 have hrun:=run_make (P:=P) w t e i zz hu hi hzero .i64 .i64 n n h0 (Int.le_refl _) (by rw[hby];exact hbytes) (by omega)
 rw[hsz] at hrun
 have hzl:zz.cells.size=ti.size:=by rw[← Array.length_toList,hzc,List.length_map,hok.zlen]
 obtain⟨htt,st⟩:=yS (ν:=iZ a) (w:=w) (w0:=w) (σ:=σ) (ι:=ι) (S:=S) (id:=jU σ0 d) (k:= .row e ti.size (List.replicate n.toNat z)) (p:= .slice (some ⟨w.heap.size,0,none⟩) n.toNat n.toNat) (o:= .cells (madeCells zz.cells (n.toNat*ti.size)) e) ⟨rfl,rfl,rfl,rfl⟩ hno
  (fun b hb=>by simp[uZ] at hb;exact hb.symm)
  (fun st=> .inr ⟨w.heap.size,0,n.toNat,_,(0,0),by simp,heap_alloc_new w _,.inl rfl,by simp,by simp only[maxLen];omega,by rw[size_madeCells];omega,fun i r hri=>by
   have hil:i<n.toNat:=by have:=(aYa.1 hri).1;simpa using this
   have hr:r=z:=by simp[hil] at hri;exact hri.symm
   subst hr
   have hrl:=qF hz
   refine⟨by rw[hrl,hok.zlen],fun k d hk=> ?_⟩
   obtain⟨c,hc,htd⟩:=xV hz k d hk
   have hkl:k<ti.size:=by rw[← hok.zlen];exact(aYa.1 hc).1
   have hlt:=lP hil hkl
   have hzk:zz.cells[k]? =some (zv c):=by rw[← Array.getElem?_toList,hzc,List.getElem?_map,hc];rfl
   refine⟨zv c,?_,xU (σ:=σ) (ι:=ι) htd (uF (aYd.1 hok.zok c (List.mem_of_getElem? hc)))⟩
   have hm: (0+i*ti.size+k) % zz.cells.size=k:=by rw[hzl,Nat.zero_add,Nat.mul_comm,Nat.mul_add_mod,Nat.mod_eq_of_lt hkl]
   have hk2:k<zz.cells.size:=by rw[hzl];exact hkl
   have e1:zz.cells[k]! =zv c:=by rw[getElem!_pos zz.cells k hk2];rw[Array.getElem?_eq_getElem hk2] at hzk;exact Option.some.inj hzk
   have hlt':0+i*ti.size+k<n.toNat*ti.size:=by omega
   simp only[madeCells,Array.getElem?_map,Array.getElem?_range,hlt',if_true,Option.map_some,hm,e1]⟩) hw.vr.sz
 refine⟨.slice (some ⟨w.heap.size,0,none⟩) n.toNat n.toNat,_,_,?_,htt,rfl,.inl ⟨e,ti.size,_,dD _ _ _,by simp,fun _=>by simp⟩⟩
 simp[execOp,ho,hv,hv2]
 rw[hrun];rfl
set_option linter.unusedSimpArgs false
def aE (l:List UInt8):List (List D):=l.map fun b=>[.u b.toNat]
def byteOf (r:List D):UInt8:=match r with| .u n::_=>UInt8.ofNat n.toNat|_=>0
def jV (rows:List (List D)):List UInt8:=rows.map byteOf
theorem cL (l:List UInt8):jV (aE l)=l:=by
 unfold jV aE
 rw[List.map_map]
 conv=>rhs;rw[← List.map_id l]
 refine List.map_congr_left fun b _=> ?_
 simp[byteOf]
theorem aY (l:List UInt8): (aE l).length=l.length:=by simp[aE]
theorem aHx (ns:List Int):ns.foldl (fun(r:ByteArray) n=>r.push (UInt8.ofNat n.toNat)) ByteArray.empty=⟨(ns.map fun n=>UInt8.ofNat n.toNat).toArray⟩:=by
 have key: ∀(ns:List Int) (l:List UInt8),ns.foldl (fun(r:ByteArray) n=>r.push (UInt8.ofNat n.toNat)) ⟨l.toArray⟩=⟨(l++ns.map fun n=>UInt8.ofNat n.toNat).toArray⟩:=by
  intro ns
  induction ns with
  |nil=>intro l;simp
  |cons n ns ih=>
   intro l
   have: (⟨l.toArray⟩:ByteArray).push (UInt8.ofNat n.toNat)=⟨(l++[UInt8.ofNat n.toNat]).toArray⟩:=by
    apply ByteArray.ext
    simp
   rw[List.foldl_cons,this,ih];simp
 show ns.foldl (fun(r:ByteArray) n=>r.push (UInt8.ofNat n.toNat)) (⟨([]:List UInt8).toArray⟩:ByteArray)=_
 rw[key];simp
def aUm (σ:St):V→Option (Prop×List (dK×Option K)×V)
 | .e (.c (.d (.sl rows)))=>some (rows=aE (jV rows),[],Dv (.s (jV rows)))
 | .e (.c .nil)=>some (True,[],Dv (.s []))
 | .e (.c (.own ob n))=>match aV σ (.o ob) with
  |some (.row e es rows)=>some (rows.length=n∧rows=aE (jV rows),[(.o ob,some (.row e es rows))],Dv (.s (jV rows)))
  |_=>none
 |_=>none
theorem aQe {P:Program} {w:World} {a:Option Addr} {len cap:Nat} {l:List UInt8} (hl:l.length=len) (h:l≠[]→ ∃ad,a=some ad∧ ∀(j:Nat) b,l[j]? =some b→w.cell? (ad.add j)=some (.int .u8 b.toNat)):
 (Conv.bytesToString (.slice a len cap)).run P w= .ok (.string ⟨l.toArray⟩) w:=by
 cases a with
 |none=>
  have:l=[]:=by
   by_cases hz:l=[]
   · exact hz
   · obtain⟨ad,h1,_⟩:=h hz;cases h1
  subst this
  simp[Conv.bytesToString];rfl
 |some ad=>
  have hc: ∀(j:Nat) v,(l.map fun b=>Value.int .u8 (b.toNat:Int))[j]? =some v→w.cell? (ad.add j)=some v:=by
   intro j v hj
   rw[List.getElem?_map] at hj
   cases hq:l[j]? with
   |none=>rw[hq] at hj;cases hj
   |some b=>
    rw[hq] at hj;cases hj
    have hz:l≠[]:=by intro e;rw[e] at hq;simp at hq
    obtain⟨ad',h1,h2⟩:=h hz
    cases h1
    exact h2 j b hq
  have hload:=run_loadCells_list (P:=P) w ad _ hc
  rw[List.length_map,hl] at hload
  have:=run_bytesToString (P:=P) w ad len cap (l.map fun b=>(b.toNat:Int)) (by rw[List.map_map];exact hload)
  rw[this,aHx,List.map_map]
  congr 4
  conv=>rhs;rw[← List.map_id l]
  refine List.map_congr_left fun b _=> ?_
  simp
theorem aFd {l:List UInt8} {j:Nat} {b:UInt8} (h:l[j]? =some b): (aE l)[j]? =some [.u b.toNat]:=by simp[aE,h]
theorem aN2 {P:Program} {T:hZ} (hT:dV P T) {o:Oper} {σ0:St} {s d e:TypeId} {si di ei:TI} {x:Operand} (ho:o.op= .convert s d x) (hs:T s=some si) (hsk:si.kind= .sl e) (he:T e=some ei) (hek:ei.kind= .int .u8) (hd:T d=some di) (hdk:di.kind= .str):
 lU P o σ0 (jP σ0 x o.dst (aUm σ0)):=by
 have hu1:=(hT s si hs).kind
 rw[hsk] at hu1;simp only[mM] at hu1
 have hu2:=(hT e ei he).kind
 rw[hek] at hu2;simp only[mM] at hu2
 have hu3:=(hT d di hd).kind
 rw[hdk] at hu3;simp only[mM] at hu3
 refine kT fun X p R Y h hp=> ?_
 have fin: ∀{cx:Cx P} {σ:St} {ι:Nat→Value} {S:Nat→Prop} {ac:Act} {w:World} {a:Option Addr} {len cap:Nat} {l:List UInt8},ac.eval x= .slice a len cap→l.length=len→(l≠[]→ ∃ad,a=some ad∧ ∀(j:Nat) b,l[j]? =some b→w.cell? (ad.add j)=some (.int .u8 b.toNat))→
  ∃v,(execOp ac.eval o).run P w= .ok (.value v) w∧mI σ ι w S (Dv (.s l)) v:=by
  intro cx σ ι S ac w a len cap l hv hl h
  refine⟨.string ⟨l.toArray⟩,?_,.s l⟩
  have:=aQe (P:=P) (cap:=cap) hl h
  have h2:=run_convert_bytes_string (P:=P) w s d e a len cap hu1 hu2 hu3
  simp only[execOp,ho,hv]
  rw[Sem.run_bind,h2,this];rfl
 unfold aUm at h
 split at h
 · rename_i rows
   cases h
   refine⟨bV.nil,fun cx σ ι S ac w hr hw hx=> ?_⟩
   obtain⟨a0,cap,es',ad,u,hv,hc,hm,hee,ha,hw1,hd1⟩:=(show DR w S (.sl rows) (ac.eval x) from hx).sl_inv
   refine fin (cx:=cx) hv (by rw[jV,List.length_map]) fun hz=> ?_
   have hrz:rows≠[]:=by intro e;subst e;exact hz rfl
   refine⟨ad,ha hrz,fun j b hj=> ?_⟩
   have hrow:=aFd hj
   rw[← hp] at hrow
   have h1:es'=1:=by rw[← hee _ (List.mem_of_getElem? hrow)];rfl
   obtain⟨_,h2⟩:=hw1 j _ 0 (.u b.toNat) hrow rfl
   have h3:=hd1 j _ 0 (.u b.toNat) hrow rfl
   rw[h1,Nat.mul_one,Nat.add_zero] at h2
   rw[h2]
   generalize u j 0=v at h3;cases h3;rfl
 · cases h
   refine⟨bV.nil,fun cx σ ι S ac w hr hw hx=> ?_⟩
   have hv:ac.eval x= .slice none 0 0:=hx
   exact fin (cx:=cx) hv rfl fun hz=>absurd rfl hz
 · rename_i ob n
   split at h<;>try(cases h;done)
   rename_i e' es rows hl
   cases h
   obtain⟨hn,hrb⟩:=hp
   refine⟨bV.one hl,fun cx σ ι S ac w hr hw hx=> ?_⟩
   have hl':=hr (.o ob,some (.row e' es rows)) (by simp)
   dsimp only at hl'
   obtain⟨_,h2⟩:=(show CR σ ι w S (.own ob n) (ac.eval x) from hx)
   rcases h2 with⟨e2,es2,rows2,hl2,hnn,hv⟩|hdd
   · rw[hl'] at hl2;cases hl2
     have hv1:=hv hn
     clear hv
     rcases hw.vr.objs ob _ hl' with⟨hn2,hr2⟩|⟨g,off,cap,cur,fz,hg,hh,hfz,hc1,hc2,hc3,hrows⟩
     · subst hr2
       rw[hn2] at hv1
       exact fin (cx:=cx) hv1 rfl fun hz=>absurd rfl hz
     · rw[hg] at hv1
       refine fin (cx:=cx) hv1 (by rw[jV,List.length_map]) fun hz=>⟨_,rfl,fun j b hj=> ?_⟩
       have hrow:=aFd hj
       rw[← hrb] at hrow
       have hrr:=hrows j _ hrow
       have h1:es=1:=by rw[← hrr.1];rfl
       obtain⟨u,hu,hdr⟩:=hrr.2 0 (.u b.toNat) rfl
       rw[h1,Nat.mul_one,Nat.add_zero] at hu
       rw[lO,cell_of_row w g _ cur e' fz hh,hu]
       cases hdr;rfl
   · rw[hl'] at hdd;cases hdd
 · cases h
def aUn (σ:St) (x:Operand) (e:TypeId) (d:Option Tmp):Res:=
 match ev σ x,d with
 |some (.e (.c (.d (.s l))),R),some d=>if wX σ (.o (jU σ d)) then
  some (l.length≤140737488355328,R++[(.o (jU σ d),none)],[(.o (jU σ d),.row e 1 (aE l)),(.t d,.v (.e (.c (.own (jU σ d) l.length))))]) else none
 |_,_=>none
theorem aN3 {P:Program} {T:hZ} (hT:dV P T) {o:Oper} {σ0:St} {s d e:TypeId} {si di ei:TI} {x:Operand} (ho:o.op= .convert s d x) (hs:T s=some si) (hsk:si.kind= .str) (he:T e=some ei) (hek:ei.kind= .int .u8) (hd:T d=some di) (hdk:di.kind= .sl e):
 lU P o σ0 (aUn σ0 x e o.dst):=by
 have hu1:=(hT s si hs).kind
 rw[hsk] at hu1;simp only[mM] at hu1
 have hu2:=(hT e ei he).kind
 rw[hek] at hu2;simp only[mM] at hu2
 have hu3:=(hT d di hd).kind
 rw[hdk] at hu3;simp only[mM] at hu3
 intro p R W h hp
 unfold aUn at h
 split at h<;>try(cases h;done)
 rename_i l Rx dd hx hdst
 split at h<;>try(cases h;done)
 rename_i habs
 cases h
 refine⟨jt hdst (by simp) fun cx σ ι S ac w hr hw=> ?_,(dH hx).append (bV.one (qD habs))⟩
 have hno:=hr.right (.o (jU σ0 dd),none) (by simp)
 dsimp only at hno
 have hX:=dP hx hr.left hw
 have hv:ac.eval x= .string ⟨l.toArray⟩:=by
  have hX:DR w S (.s l) (ac.eval x):=hX
  generalize ac.eval x=v at hX;cases hX;rfl
 have hsz: (⟨l.toArray⟩:ByteArray).size=l.length:=yR l
 have hrun:=Lib.run_convert_string_bytes (P:=P) w s d e ⟨l.toArray⟩ hu1 hu3 hu2
 rw[hsz] at hrun
 have hnew:=Lib.bytesWorld_at_new w e ⟨l.toArray⟩
 have hcap:=grownCap_ge w l.length 0 e
 have hcm:=grownCap_le_maxLen w l.length 0 e (by simp only[maxLen];omega)
 have hblock: ∀b,b<w.heap.size→some b≠(none:Option Nat)→(Lib.bytesWorld w e ⟨l.toArray⟩).heap[b]? =w.heap[b]?:=fun b hb _=>Lib.bytesWorld_at_old w e _ b hb
 have hcs: (Lib.bytesCells w e ⟨l.toArray⟩).size=grownCap w l.length 0 e:=by
  simp only[Lib.bytesCells,hsz,Array.size_append,Array.size_map,Array.size_replicate,List.size_toArray];omega
 refine⟨.slice (some ⟨w.heap.size,0,none⟩) l.length (grownCap w l.length 0 e),.slice (some ⟨w.heap.size,0,none⟩) l.length (grownCap w l.length 0 e),Lib.bytesWorld w e ⟨l.toArray⟩,?_,
  ⟨?_,?_,?_,by rw[Lib.bytesWorld_size];omega,hblock,(fun b hb=>by cases hb),.inl hno,(fun b hb=> .inr (by simp[uZ] at hb;omega)),?_⟩,rfl,.inl ⟨e,1,_,dD _ _ _,by rw[aY];exact aX8 _,fun _=>by simp⟩⟩
 · simp only[execOp,ho,hv]
   rw[Sem.run_bind,hrun];rfl
 · unfold Lib.bytesWorld World.freeze;split<;>rfl
 · unfold Lib.bytesWorld World.freeze;split<;>rfl
 · unfold Lib.bytesWorld World.freeze;split<;>rfl
 · refine .inr ⟨w.heap.size,0,grownCap w l.length 0 e,_,_,by rw[aY],hnew,.inr (aX8 _),by rw[aY];exact hcap,hcm,by rw[hcs];omega,fun i r hr=> ?_⟩
   simp only[aE,List.getElem?_map] at hr
   cases hq:l[i]? with
   |none=>rw[hq] at hr;cases hr
   |some b=>
    rw[hq] at hr;cases hr
    refine⟨rfl,fun k dd hk=> ?_⟩
    cases k with
    |succ k=>simp at hk
    |zero=>
     simp at hk;subst hk
     have hi:=(aYa.1 hq)
     obtain⟨hi1,hi2⟩:=hi
     refine⟨.int .u8 b.toNat,?_,.u _⟩
     simp[Lib.bytesCells,Array.getElem?_append,hi1,hi2]
def aN4 (T:hZ) (σ:St) (t t2:TypeId) (x y:Operand) (d:Option Tmp):Res:=
 match ev σ x,ev σ y,T t,d with
 |some (.e (.c (.own ob n)),R),some (Y,R2),some ⟨.sl e,_,_,_⟩,some d=>match T e,aV σ (.o ob),sQ T σ t2 Y with
  |some ti,some (.row e' es rows),some (q,news,R3)=>if e=e'∧ti.size=es then
   some (q∧rows.length=n∧(∀r∈news,r.length=es),R++R2++R3++[(.o ob,some (.row e' es rows))],
    [(.o ob,.row e es (news.take (min news.length n)++rows.drop (min news.length n))),(.t d,.v (I (min news.length n:Nat)))]) else none
  |_,_,_=>none
 |_,_,_,_=>none
theorem aLj {P:Program} {T:hZ} (hT:dV P T) {o:Oper} {σ0:St} {t t2:TypeId} {x y:Operand} (ho:o.op= .call {callee:= .builtin .copy,args:= #[x,y],argTypes:= #[t,t2]}):
 lU P o σ0 (aN4 T σ0 t t2 x y o.dst):=by
 intro p R W h hp
 unfold aN4 at h
 split at h<;>try(cases h;done)
 rename_i ob n Rx Y Ry e _ _ _ d hx hy ht hd
 split at h<;>try(cases h;done)
 rename_i ti e' es rows q news R3 hte hl hsrc
 split at h<;>try(cases h;done)
 rename_i hee
 obtain⟨rfl,rfl⟩:=hee
 cases h
 obtain⟨hq,hn,hnl⟩:=hp
 have hu:=(hT t _ ht).kind
 simp only[mM] at hu
 have hok:=hT e ti hte
 refine⟨oa hd fun cx σ ι S a w hr hw=> ?_,(((dH hx).append (dH hy)).append (sR hsrc)).append (bV.one hl)⟩
 have hl':=hr.right (.o ob,some (.row e ti.size rows)) (by simp)
 dsimp only at hl'
 have hX:=dP hx hr.left.left.left hw
 have hY:=dP hy hr.left.left.right hw
 obtain⟨nv,hs⟩:=ek hT hsrc hq hok.pos hnl hr.left.right hw hY
 obtain⟨_,h2⟩:=(show CR σ ι w S (.own ob n) (a.eval x) from hX)
 rcases h2 with⟨e2,es2,rows2,hl2,hnn,hv⟩|hdd
 case inr=>rw[hl'] at hdd;cases hdd
 rw[hl'] at hl2;cases hl2
 have hvx:=hv hn
 let m:=min news.length n
 have hm1:m≤news.length:=Nat.min_le_left _ _
 have hm2:m≤n:=Nat.min_le_right _ _
 have hlen: (news.take m++rows.drop m).length=rows.length:=by rw[aXz,aX4,aX7];omega
 have hpre:=hs.pre w m rfl hm1
 have hpl: (nv.take (m*ti.size)).length=m*ti.size:=by
  rw[aX4,hs.size]
  exact Nat.min_eq_left (Nat.mul_le_mul_right _ hm1)
 have hmin:Nat.min news.length n=m:=rfl
 rcases hw.vr.objs ob _ hl' with⟨hn2,hr2⟩|⟨g,off,cap,cur,fz,hg,hh,hfz,hc1,hc2,hc3,hrows⟩
 · subst hr2
   rw[hn2] at hvx
   have hn0:n=0:=by simpa using hn.symm
   subst hn0
   have hm0:m=0:=by omega
   have hblock: ∀b,b<w.heap.size→some b≠(none:Option Nat)→w.heap[b]? =w.heap[b]?:=fun _ _ _=>rfl
   have hrow0:news.take m++([]:List (List D)).drop m=[]:=by rw[hm0];simp
   refine⟨.int .i64 (m:Nat),none,.slice none 0 0,w,?_,⟨rfl,rfl,rfl,aX8 _,hblock,(fun b hb=>by cases hb),.inr ⟨_,hl',rfl,by rw[hlen];exact aX8 _,fun _=>hn2.symm⟩,(fun b hb=>by simp[uZ] at hb),.inl ⟨rfl,hrow0⟩⟩,.i _⟩
   simp only[execOp,ho]
   simp[resolve,invoke,builtin,hvx,Builtin.copy_,run_underlying hu,fU hok,hs.len,hmin]
   rw[hm0] at hpre ⊢
   rw[hpre]
   simp[goInt]
 · rw[hg] at hvx
   have h9:cur.toList.length=cur.size:=Array.length_toList
   have hmc:m*ti.size≤cap*ti.size:=Nat.mul_le_mul_right _ (by omega)
   have hst:=nS (P:=P) g off e fz (nv.take (m*ti.size)) 0 cur w hh hfz (by rw[hpl];omega) (fun u hu=>hs.one u (List.mem_of_mem_take hu))
   simp only[Nat.add_zero] at hst
   have hmine: ∀b',some g=some b'→lJ σ ι ob b':=fun b' e=>by cases e;exact⟨⟨_,hl',trivial⟩,by rw[hg];rfl⟩
   have hblock: ∀b',b'<w.heap.size→some b'≠some g→(w.setRow g (dN cur.toList off (nv.take (m*ti.size))).toArray).heap[b']? =w.heap[b']?:=fun b' _ hne=>setRow_other w g b' _ (fun e=>hne (by rw[e]))
   have hevo:aV σ (.o ob)=none∨ ∃k0,aV σ (.o ob)=some k0∧nU (ι ob) (ι ob) k0 (.row e ti.size (news.take m++rows.drop m)):= .inr ⟨_,hl',rfl,by rw[hlen];exact aX8 _,fun _=>rfl⟩
   have st:=sA hw.vr hblock hmine hevo
   refine⟨.int .i64 (m:Nat),some g,ι ob,w.setRow g (dN cur.toList off (nv.take (m*ti.size))).toArray,?_,⟨rfl,rfl,rfl,by simp,hblock,hmine,hevo,(fun b hb=> .inl (by rw[hg] at hb;simp[uZ] at hb;rw[hb])),?_⟩,.i _⟩
   · simp only[execOp,ho]
     simp[resolve,invoke,builtin,hvx,hn,Builtin.copy_,run_underlying hu,fU hok,hs.len,hmin]
     rw[hpre]
     simp[hst,goInt]
   · refine .inr ⟨g,off,cap,(dN cur.toList off (nv.take (m*ti.size))).toArray,fz,by rw[hlen];simpa using hg,setRow_heap w g cur _ e _ hh,by rw[List.size_toArray,fR (by omega),h9];exact hfz,by rw[hlen];exact hc1,hc2,by rw[List.size_toArray,fR (by omega),h9];exact hc3,fun i r hi=> ?_⟩
     have hil:i<rows.length:=by rw[← hlen];exact(aYa.1 hi).1
     have get: ∀j,(dN cur.toList off (nv.take (m*ti.size))).toArray[j]? =if j<off then cur[j]? else if j<off+m*ti.size then(nv.take (m*ti.size))[j - off]? else cur[j]?:=fun j=>by
      rw[← Array.getElem?_toList,List.toList_toArray,jE (by omega),hpl]
      simp
     by_cases him:i<m
     · rw[List.getElem?_append_left (by rw[aX4];omega),List.getElem?_take,aC him] at hi
       have hrl:=hnl r (List.mem_of_getElem? hi)
       refine⟨hrl,fun k dd hk=> ?_⟩
       obtain⟨u,hu',hdr⟩:=hs.rel i r hi k dd hk
       have hkl:k<ti.size:=by rw[← hrl];exact(aYa.1 hk).1
       have hix:=lP him hkl
       refine⟨u,?_,DR.mono st.sub st.keep hdr⟩
       rw[get,aB (by omega),aC (by omega),show off+i*ti.size+k - off=i*ti.size+k by omega,List.getElem?_take,aC hix]
       exact hu'
     · rw[List.getElem?_append_right (by rw[aX4];omega),aX4,List.getElem?_drop,show m+(i - min m news.length)=i by omega] at hi
       obtain⟨q1,q2⟩:=hrows i r hi
       refine⟨q1,fun k dd hk=> ?_⟩
       obtain⟨u,hu',hdr⟩:=q2 k dd hk
       refine⟨u,?_,DR.mono st.sub st.keep hdr⟩
       have:m*ti.size≤i*ti.size:=Nat.mul_le_mul_right _ (by omega)
       rw[get,aB (by omega),aB (by omega)]
       exact hu'
set_option linter.unusedSimpArgs false
def aQf (σ0:St):V→Option (Prop×List (dK×Option K)×V):=fun X=>match X with
 | .e (.c (.pt ob k))=>match aV σ0 (.o ob) with
  |some (.box ty cs)=>some (True,[(.o ob,some (.box ty cs))],.e (.c (.pt ob k)))
  |_=>none
 |_=>none
def aBl (T:hZ) (σ0:St) (t:TypeId):V→Option (Prop×List (dK×Option K)×V):=fun X=>match T t with
 |some ti=>match ti.kind,X with
  | .str,.e (.c (.d (.s l)))=>nt σ0 (.e (.c (.d (.s l))))
  | .sl _,.e (.c (.d (.sl rows)))=>nt σ0 (.e (.c (.d (.sl rows))))
  | .sl _,.e (.c .nil)=>nt σ0 (.e (.c .nil))
  | .sl _,.e (.c (.own ob n))=>nt σ0 (.e (.c (.own ob n)))
  |_,_=>none
 |none=>none
def aN5 (T:hZ) (σ:St) (c:Call) (d:Option Tmp):Res:=
 match c.callee,c.args.toList,c.argTypes.toList with
 | .builtin .len,[x],[t]=>jP σ x d (aBl T σ t)
 | .builtin .append,[x,y],[t,t2]=>aDc T σ t t2 x y d
 | .builtin .min,[x,y],_=>rV σ x y d aUk
 | .builtin .max,[x,y],_=>rV σ x y d aUl
 |_,_,_=>none
def aBm (T:hZ) (o:Oper) (σ:St):Res:=
 match o.op with
 | .move x=>jP σ x o.dst fId
 | .assign x=>jP σ x o.dst fId
 | .pick c x y=>aJ7 σ c x y o.dst
 | .box e x=>aUj σ e x o.dst
 | .alloc e=>aHp T σ e o.dst
 | .build t ps=>aHt T σ t ps.toList o.dst
 | .buildSlice t n ps=>vZ T σ t n ps.toList o.dst
 | .load t x=>jP σ x o.dst (ut T σ t)
 | .store t x y=>aHr T σ t x y o.dst
 | .nilCheck x=>jP σ x o.dst (aQf σ)
 | .binOp op t x y u=>rV σ x y o.dst (aQb op)
 | .unOp u t x=>jP σ x o.dst (fUn u)
 | .convert s t x=>match T s with
  |some _=>jP σ x o.dst (aNs T t)
  |none=>none
 | .makeSlice t x y=>aN1 T σ t x y o.dst
 | .slice t x lo hi mx=>aHv T σ t x lo hi mx o.dst
 | .fieldAddr s x f=>jP σ x o.dst (gv T σ s f)
 | .field s x f=>jP σ x o.dst (aHn T s f)
 | .indexAddr t x y=>rV σ x y o.dst (gw T σ t)
 | .index t x y=>match T t with
  |some ⟨.str,_,_,_⟩=>rV σ x y o.dst aNt
  |_=>none
 | .extract x i=>jP σ x o.dst (uo i)
 | .call c=>aN5 T σ c o.dst
 |_=>none
theorem oM {P:Program} {o:Oper} {σ:St}:lU P o σ none:=fun p R W h=>by cases h
theorem aLk {P:Program} {T:hZ} (hT:dV P T) {o:Oper} {σ:St} {c:Call} (ho:o.op= .call c):lU P o σ (aN5 T σ c o.dst):=by
 obtain⟨callee,args,argTypes⟩:=c
 unfold aN5
 dsimp only
 split
 · rename_i x t ha hat
   obtain rfl:args= #[x]:=Array.toList_inj.1 (by simpa using ha)
   obtain rfl:argTypes= #[t]:=Array.toList_inj.1 (by simpa using hat)
   cases ht:T t with
   |none=>
    intro p R W h
    unfold jP at h
    split at h<;>try(cases h;done)
    simp[aBl,ht] at h
   |some ti=>
    by_cases hk:ti.kind= .str∨ ∃e,ti.kind= .sl e
    · have:=aNu hT (σ0:=σ) ho ht hk
      have e:aBl T σ t=fun X=>match ti.kind,X with
       | .str,.e (.c (.d (.s l)))=>nt σ (.e (.c (.d (.s l))))
       | .sl _,.e (.c (.d (.sl rows)))=>nt σ (.e (.c (.d (.sl rows))))
       | .sl _,.e (.c .nil)=>nt σ (.e (.c .nil))
       | .sl _,.e (.c (.own ob n))=>nt σ (.e (.c (.own ob n)))
       |_,_=>none:=by funext X;simp[aBl,ht]
      rw[e];exact this
    · intro p R W h
      unfold jP at h
      split at h<;>try(cases h;done)
      rename_i X R' d' _ _
      have:aBl T σ t X=none:=by
       simp only[aBl,ht]
       split<;>first|rfl|(exfalso;apply hk;first|exact .inl ‹_› |exact .inr ⟨_,‹_›⟩)
      rw[this] at h;cases h
 · rename_i x y t t2 ha hat
   obtain rfl:args= #[x,y]:=Array.toList_inj.1 (by simpa using ha)
   obtain rfl:argTypes= #[t,t2]:=Array.toList_inj.1 (by simpa using hat)
   exact aE8 hT ho
 · rename_i x y ha
   obtain rfl:args= #[x,y]:=Array.toList_inj.1 (by simpa using ha)
   exact aNz ho
 · rename_i x y ha
   obtain rfl:args= #[x,y]:=Array.toList_inj.1 (by simpa using ha)
   exact aN0 ho
 · exact oM
theorem yZ {P:Program} {T:hZ} (hT:dV P T) (o:Oper) (σ:St):lU P o σ (aBm T o σ):=by
 unfold aBm
 split
 case h_1 x ho=>exact aBg (.inl ho)
 case h_2 x ho=>exact aBg (.inr ho)
 case h_3 ho=>exact aBj ho
 case h_4 ho=>exact aNv ho
 case h_5 ho=>exact aHq hT ho
 case h_6 ho=>exact aHu hT ho
 case h_7 ho=>exact bb hT ho
 case h_8 ho=>exact aBi hT ho
 case h_9 ho=>exact aHs hT ho
 case h_10 ho=>exact fq (T:=T) ho
 case h_11 ho=>exact aE4 ho
 case h_12 ho=>exact aQa ho
 case h_13 ho=>
  split
  · rename_i h;exact aLf hT ho (by rw[h];rfl)
  · exact oM
 case h_14 ho=>exact aLi hT ho
 case h_15 ho=>exact aHw hT ho
 case h_16 ho=>exact uq hT ho
 case h_17 ho=>exact aHo hT ho
 case h_18 ho=>exact ur hT ho
 case h_19 ho=>
  split
  · rename_i h;exact aLg hT ho h rfl
  · exact oM
 case h_20 ho=>exact aDa ho
 case h_21 ho=>exact aLk hT ho
 case h_22=>exact oM
def aKa (P:Program) (T:hZ) (o:Oper) (σ:St) (k:List (dK×Option K)→List (dK×K)→Prop):Prop:=
 match aBm T o σ with
 |some (p,R,W)=>p∧k R W
 |none=> ∃R W,vW P o R W∧bV R σ∧k R W
theorem rg {P:Program} {T:hZ} (hT:dV P T) {o:Oper} {σ:St} {k:List (dK×Option K)→List (dK×K)→Prop} (h:aKa P T o σ k): ∃R W,vW P o R W∧bV R σ∧k R W:=by
 unfold aKa at h
 split at h
 · rename_i p R W he
   obtain⟨h1,h2⟩:=yZ hT o σ p R W he h.1
   exact⟨R,W,h1,h2,h.2⟩
 · exact h
def aBn (o:Oper):List (dK×K):=match o.dst with|some d=>[(.t d,.dead)]|none=>[]
def goR (P:Program) (T:hZ) (ops:List Oper):List Oper→St→List bz→(St→List bz→Prop)→Prop
 | [],σ,acc,k=>k σ acc
 |o::os,σ,acc,k=>match o.guard with
  |none=>aKa P T o σ fun R W=>goR P T ops os (iP σ W) (acc++[pD (R,W)]) k
  |some (j,want)=>match(ops[j]?).bind (·.dst) with
   |some s=>match aV σ (.t s) with
    |some (.v (.e (.c (.d (.b x)))))=>
     (x=want→aKa P T o σ fun R W=>goR P T ops os (iP σ W) (acc++[pD ((.t s,none)::R,W)]) k)∧
     (x= !want→goR P T ops os (iP σ (aBn o)) (acc++[pD ([(.t s,none)],aBn o)]) k)
    |_=>False
   |none=>False
theorem el {P:Program} {T:hZ} (hT:dV P T) {ops:Array Oper} {k:St→List bz→Prop}: ∀(l:List Oper) (σ:St) (acc:List bz),goR P T ops.toList l σ acc k→
 ∃ts:List mN,xX P ops l ts∧kG ts σ∧k (eY ts σ) (acc++ts.map pD)
 | [],σ,acc,h=>⟨[],trivial,trivial,by simpa[goR,eY] using h⟩
 |o::os,σ,acc,h=>by
  simp only[goR] at h
  split at h
  · rename_i hg
    obtain⟨R,W,h1,h2,h3⟩:=rg hT h
    obtain⟨ts,q1,q2,q3⟩:=el hT os _ _ h3
    exact⟨(R,W)::ts,⟨xW hg h1,q1⟩,⟨h2,q2⟩,by simpa[eY] using q3⟩
  · rename_i j want hg
    split at h<;>try(exact h.elim)
    rename_i s hs
    split at h<;>try(exact h.elim)
    rename_i x hl
    have hs': (ops[j]?).bind (·.dst)=some s:=by simpa using hs
    by_cases hx:x=want
    · subst hx
      obtain⟨R,W,h1,h2,h3⟩:=rg hT (h.1 rfl)
      obtain⟨ts,q1,q2,q3⟩:=el hT os _ _ h3
      refine⟨((.t s,some (.v (B x)))::R,W)::ts,⟨aE9 hg hs' h1,q1⟩,⟨fun p hp=> ?_,q2⟩,by simpa[eY,pD] using q3⟩
      rcases List.mem_cons.1 hp with rfl|hp
      · exact hl
      · exact h2 p hp
    · have hx':x= !want:=by cases x<;>cases want<;>simp_all
      obtain⟨ts,q1,q2,q3⟩:=el hT os _ _ (h.2 hx')
      subst hx'
      refine⟨([(.t s,some (.v (B (!want))))],aBn o)::ts,⟨aJ9 hg hs' rfl,q1⟩,⟨bV.one hl,q2⟩,by simpa[eY,pD] using q3⟩
def vC (l:List Oper) (ns:List bz):Bool:=sS 0 l&&yW ns (nB l []) ns.length
inductive Ex where
 |norm
 |exit (id:Nat)
 |ret
def aBo {P:Program} (cx:Cx P) (Q:Ex→St→Prop):Exit→Act→World→Prop
 | .normal,a,w=> ∃σ ι S,Q .norm σ∧RW cx σ ι S a w
 | .exit id,a,w=> ∃σ ι S,Q (.exit id) σ∧RW cx σ ι S a w
 | .ret,a,w=> ∃σ ι S,Q .ret σ∧RW cx σ ι S a w
 |_,_,_=>False
def tJ (N:Nat):Code→Bool
 | .region _ ops _=>aNx N ops.toList
 | .seq a b=>tJ N a&&tJ N b
 | .cond _ a b=>tJ N a&&tJ N b
 | .block _ c=>tJ N c
 | .loop c=>tJ N c
 | .skip| .exit _| .ret=>true
 |_=>false
def SW (P:Program) (io:List Nat) (c:Code) (Q:Ex→St→Prop) (σ:St):Prop:= ∀(cx:Cx P) ι S a w,(∀o k,cx.kio o=some k→o∈io)→RW cx σ ι S a w→tJ cx.N c=true→c.wp P (aBo cx Q) a w
theorem SW.mono {P:Program} {io:List Nat} {c:Code} {Q Q':Ex→St→Prop} {σ:St} (hq: ∀e s,Q e s→Q' e s) (h:SW P io c Q σ):SW P io c Q' σ:=fun cx ι S a w hio hw hf=>
 wp_mono (h cx ι S a w hio hw hf) fun e a w hq'=>by
  cases e<;>simp only[aBo] at hq' ⊢ <;>(obtain⟨σ,ι,S,h1,h2⟩:=hq';exact⟨σ,ι,S,hq _ _ h1,h2⟩)
section
variable {P:Program} {io:List Nat} {Q:Ex→St→Prop} {σ:St}
theorem SW.skip (h:Q .norm σ):SW P io .skip Q σ:=fun cx ι S a w hio hw _=>wp_skip ⟨σ,ι,S,h,hw⟩
theorem SW.exit {id:Nat} (h:Q (.exit id) σ):SW P io (.exit id) Q σ:=fun cx ι S a w hio hw _=>wp_exit ⟨σ,ι,S,h,hw⟩
theorem SW.ret (h:Q .ret σ):SW P io .ret Q σ:=fun cx ι S a w hio hw _=>wp_ret ⟨σ,ι,S,h,hw⟩
def jz (k:St→Prop) (Q:Ex→St→Prop):Ex→St→Prop
 | .norm,s=>k s
 |e,s=>Q e s
theorem SW.seq {x y:Code} (h:SW P io x (jz (SW P io y Q) Q) σ):SW P io (.seq x y) Q σ:=fun cx ι S a w hio hw hf=>by
 simp only[tJ,aX3] at hf
 refine wp_seq (wp_mono (h cx ι S a w hio hw hf.1) fun e a' w' hq=> ?_)
 cases e<;>simp only[aBo,jz,Exit.then] at hq ⊢
 · obtain⟨σ',ι',S',h1,h2⟩:=hq
   exact h1 cx ι' S' a' w' hio h2 hf.2
 · exact hq
 · exact hq
theorem SW.cond {c:Operand} {x y:Code} {t:Bool} {R:List (dK×Option K)} (hc:ev σ c=some (B t,R)) (h1:t=true→SW P io x Q σ) (h2:t=false→SW P io y Q σ):SW P io (.cond c x y) Q σ:=fun cx ι S a w hio hw hf=>by
 simp only[tJ,aX3] at hf
 have hv:=dP hc (dH hc) hw
 simp only[mI,ER,CR] at hv
 have he:a.eval c= .bool t:=by generalize a.eval c=v at hv;cases hv;rfl
 exact wp_cond_split he (fun h=>h1 h cx ι S a w hio hw hf.1) (fun h=>h2 h cx ι S a w hio hw hf.2)
def aHy (id:Nat) (Q:Ex→St→Prop):Ex→St→Prop
 | .exit i,s=>if i=id then Q .norm s else Q (.exit i) s
 |e,s=>Q e s
theorem SW.block {id:Nat} {c:Code} (h:SW P io c (aHy id Q) σ):SW P io (.block id c) Q σ:=fun cx ι S a w hio hw hf=>by
 refine wp_block (wp_mono (h cx ι S a w hio hw (by simpa[tJ] using hf)) fun e a' w' hq=> ?_)
 cases e<;>simp only[aBo,aHy,Exit.inBlock] at hq ⊢ <;>try exact hq
 rename_i i
 obtain⟨σ',ι',S',h1,h2⟩:=hq
 split
 · rename_i hi;rw[aC hi] at h1;exact⟨σ',ι',S',h1,h2⟩
 · rename_i hi;rw[aB hi] at h1;exact⟨σ',ι',S',h1,h2⟩
theorem SW.loop {c:Code} (I:Nat→St→Prop) {n:Nat} (h0:I n σ) (hr: ∀n s,I n s→SW P io c (jz (fun s'=> ∃m,m<n∧I m s') Q) s):SW P io (.loop c) Q σ:=fun cx ι S a w hio hw hf=>by
 have hf':tJ cx.N c=true:=by simpa[tJ] using hf
 intro b k cs
 have key: ∀n a w,(∃σ ι S,I n σ∧RW cx σ ι S a w)→ ∃e a' w',aBo cx Q e a' w'∧Arrives P (lone (b.at a (.code c:: .inLoop c::k)) cs w) b k cs e a' w':=by
  intro n
  induction n using Nat.strongRecOn with
  |_ n ih=>
   rintro a w ⟨σ',ι',S',hI,hw'⟩
   obtain⟨e,a₁,w₁,hq,harr⟩:=hr n σ' hI cx ι' S' a w hio hw' hf' b (.inLoop c::k) cs
   cases e with
   |normal=>
    simp only[aBo,jz] at hq
    obtain⟨σ₁,ι₁,S₁,⟨m,hm,hI₁⟩,hw₁⟩:=hq
    obtain⟨e₂,a₂,w₂,hq₂,harr₂⟩:=ih m hm a₁ w₁ ⟨σ₁,ι₁,S₁,hI₁,hw₁⟩
    exact⟨e₂,a₂,w₂,hq₂,.of_steps (Steps.trans harr (.one step_inLoop)) harr₂⟩
   |exit id=>exact⟨.exit id,a₁,w₁,hq,.pass (x:= .inLoop c) rfl (fun _ _=> .inl (by simp)) harr⟩
   |goto l=>exact hq.elim
   |ret=>exact⟨.ret,a₁,w₁,hq,.pass (x:= .inLoop c) rfl (fun _ _=> .inl (by simp)) harr⟩
   |panic ch=>exact hq.elim
   |outgrown=>exact hq.elim
 obtain⟨e,a',w',hq,harr⟩:=key n a w ⟨σ,ι,S,h0,hw⟩
 exact⟨e,a',w',hq,.of_steps (.one step_loop) harr⟩
theorem SW.region {T:hZ} (hT:dV P T) (hm:P.follows .mixedOrders=true) {id:Nat} {ops:Array Oper} {draw:Bool} (h:goR P T ops.toList ops.toList σ [] fun σ' ns=>(draw=true→vC ops.toList ns=true)∧Q .norm σ'):SW P io (.region id ops draw) Q σ:=fun cx ι S a w hio hw hf=>by
 have hfit: ∀o∈ops.toList,∀d,o.dst=some d→d<cx.N:=fun o ho=>wY (by simpa[tJ] using hf) ho
 obtain⟨ts,h1,h2,h3,h4⟩:=el hT ops.toList σ [] h
 have hlen: ∀(l:List Oper) (ts:List mN),xX P ops l ts→ts.length=l.length∧ ∀(i:Nat) o t,l[i]? =some o→ts[i]? =some t→ItT P ops o t:=by
  intro l
  induction l with
  |nil=>intro ts h;cases ts with
   |nil=>exact⟨rfl,by simp⟩
   |cons t ts=>exact h.elim
  |cons o os ih=>intro ts h;cases ts with
   |nil=>exact h.elim
   |cons t ts=>
    obtain⟨q1,q2⟩:=ih ts h.2
    refine⟨by simp[q1],fun i o' t' ho ht=> ?_⟩
    cases i with
    |zero=>simp at ho ht;subst ho;subst ht;exact h.1
    |succ i=>exact q2 i o' t' (by simpa using ho) (by simpa using ht)
 cases draw with
 |false=>exact wp_region_list (yU ops.toList ts σ ι S a w h1 h2 hw hfit fun ι' S' a' w' hw'=>⟨_,ι',S',h4,hw'⟩)
 |true=>
  obtain⟨q1,q2⟩:=hlen _ _ h1
  have hord:=h3 rfl
  simp only[List.nil_append] at hord
  refine wp_region_any hm (xY (cx:=cx) (σ:=σ) (ts:=ts) (by simpa using q1) (fun i o t ho ht=>q2 i o t (by simpa using ho) ht) h2 (by simpa[pL,vC] using hord) hfit (fun ι' S' a' w' hw'=>⟨_,ι',S',h4,hw'⟩)
   ops.size (Array.replicate ops.size false) σ ι S a _ (by simp) (fun l=> ?_) hw.drew (fun k o ho hk=> ?_) ?_)
  · have hL: ∀i,(Array.replicate ops.size false).getD i false=false:=fun i=>by
     rw[Array.getD_eq_getD_getElem?,Array.getElem?_replicate];split<;>rfl
    have: ∀n,part ts (fun i=>(Array.replicate ops.size false).getD i false) σ l n=aV σ l:=by
     intro n
     induction n with
     |zero=>rfl
     |succ n ih=>rw[lX,aB (by rw[hL];simp),ih]
    rw[this]
  · rw[Array.getD_eq_getD_getElem?,Array.getElem?_replicate] at hk;split at hk<;>cases hk
  · exact Nat.le_trans (List.length_filter_le _ _) (by simp)
end
set_option linter.unusedSimpArgs false
theorem aLl {σ:St} {ι:Nat→Value} {w:World} {S:Nat→Prop} {p:Value} {e:TypeId} {es:Nat} {r:List (List D)} (h:OR σ ι w S p (.row e es r)) {b:Nat} (hb:blk p=some b):b<w.heap.size:=by
 rcases h with⟨rfl,_⟩|⟨g,off,cap,cur,fz,rfl,hh,_⟩
 · cases hb
 · simp only[blk,Option.some.injEq] at hb
   subst hb
   exact(Array.getElem?_eq_some_iff.1 hh).1
theorem uy {σ:St} {ι:Nat→Value} {w:World} {S:Nat→Prop} {p:Value} {e:TypeId} {es:Nat} {r:List (List D)} (h:OR σ ι w S p (.row e es r)) {b:Nat}:uZ p b↔blk p=some b:=by
 rcases h with⟨rfl,_⟩|⟨g,off,cap,cur,fz,rfl,hh,_⟩
 · simp[uZ,blk]
 · simp[uZ,blk]
theorem aLm {l:List Value} {b:Nat}:uZ (.tuple l.toArray) b↔ ∃v∈l,blk v=some b:=by simp[uZ]
def aUp (e:TypeId) (es:Nat) (l:List (Value×List (List D))) (w:World) (S:Nat→Prop) (p:Value):Prop:=
 p= .tuple (l.map (·.1)).toArray∧(∀x∈l,OR [] (fun _=>x.1) w S x.1 (.row e es x.2))∧l.Pairwise fun x y=> ∀b,blk x.1=some b→blk y.1≠some b
theorem uz {e:TypeId} {es:Nat} {l:List (Value×List (List D))} {w:World} {S:Nat→Prop} {p:Value} (h:aUp e es l w S p) {b:Nat}:uZ p b↔ ∃x∈l,blk x.1=some b:=by
 rw[h.1,aLm]
 constructor
 · rintro⟨v,hv,hb⟩
   obtain⟨x,hx,rfl⟩:=aYc.1 hv
   exact⟨x,hx,hb⟩
 · rintro⟨x,hx,hb⟩
   exact⟨x.1,aYc.2 ⟨x,hx,rfl⟩,hb⟩
def Fam (e:TypeId) (es:Nat) (l:List (Value×List (List D))):gt where
 le:=fun _ _=>True
 R:=aUp e es l
 refl:=fun _=>trivial
 trans:=fun _ _=>trivial
 mono:=fun{w w' S S' p} hS hw hb h=>by
  have hblk:=fun b=>uz h (b:=b)
  refine⟨h.1,fun x hx=> ?_,h.2.2⟩
  have h0:=h.2.1 x hx
  exact OR.step (σ:=[]) (σ':=[]) (ι:=fun _=>x.1) (ι':=fun _=>x.1) ⟨hS,hw,fun o k hk=>by cases hk⟩ (fun b hbb=>hb b ((hblk b).2 ⟨x,hx,(uy h0).1 hbb⟩)) h0
 lt:=fun{w S p b} h hb=>by
  obtain⟨x,hx,hbx⟩:=(uz h).1 hb
  exact aLl (h.2.1 x hx) hbx
def aSw (l:List (Value×List (List D))) (d d2:D):Prop:=d2=d∨ ∃v g,(v,g)∈l∧d= .x v∧d2= .sl g
def aFe (l:List (Value×List (List D))) (rows rows2:List (List D)):Prop:=
 rows2.length=rows.length∧ ∀(i:Nat) (r r2:List D),rows[i]? =some r→rows2[i]? =some r2→r2.length=r.length∧ ∀(k:Nat) (d d2:D),r[k]? =some d→r2[k]? =some d2→aSw l d d2
def Lent (τ:St) (bor:List Nat) (rows:List (List D)) (y:D):Prop:=
 y= .sl rows∨ ∃z e es l rows2,z∈bor∧aV τ (.o z)=some (.zone (Fam e es l))∧y= .sl rows2∧aFe l rows rows2
theorem aHz {σ:St} {ι:Nat→Value} {w:World} {S S':Nat→Prop} {e es:Nat} {rows rows2:List (List D)} {l:List (Value×List (List D))} {p:Value} (h:OR σ ι w S p (.row e es rows)) (hL:aFe l rows rows2) (hS: ∀b,S b→S' b) (hb: ∀b,uZ p b→S' b)
 (hf: ∀v g,(v,g)∈l→DR w S' (.sl g) v):DR w S' (.sl rows2) p:=by
 have hd: ∀d d2 u,aSw l d d2→DR w S d u→DR w S' d2 u:=fun d d2 u hl hdr=>by
  rcases hl with rfl|⟨v,g,hm,rfl,rfl⟩
  · exact DR.mono hS (fun _ _=>rfl) hdr
  · cases hdr with
    |x _ hv=>exact hf _ g hm
 rcases h with⟨rfl,rfl⟩|⟨g,off,cap,cur,fz,rfl,hh,hfz,hc1,hc2,hc3,hrows⟩
 · have h0:rows2=[]:=List.eq_nil_of_length_eq_zero hL.1
   subst h0
   exact .sl [] none 0 0 ⟨0,0,none⟩ (fun _ _=>undef) (by simp) (by simp[maxLen]) (by simp) (by simp) (by simp) (by simp)
 · have hget: ∀(i:Nat) (r2:List D),rows2[i]? =some r2→ ∃r,rows[i]? =some r:=fun i r2 hi=>by
    have h1:=(aYa.1 hi).1
    rw[hL.1] at h1
    exact⟨_,aX9 h1⟩
   have hcell: ∀(i:Nat) (r2:List D) (k:Nat) (d2:D),rows2[i]? =some r2→r2[k]? =some d2→ ∃u,cur[off+i*es+k]? =some u∧DR w S' d2 u:=fun i r2 k d2 hi hk=>by
    obtain⟨r,hr⟩:=hget i r2 hi
    obtain⟨hlen,hc⟩:=hL.2 i r r2 hr hi
    have h1:=(aYa.1 hk).1
    rw[hlen] at h1
    have h2:r[k]? =some r[k]:=aX9 h1
    obtain⟨u,hu,hdr⟩:=(hrows i r hr).2 k _ h2
    exact⟨u,hu,hd _ _ u (hc k _ d2 h2 hk) hdr⟩
   rw[← hL.1]
   refine .sl rows2 _ cap es ⟨g,off,none⟩ (fun i k=>(cur[off+i*es+k]?).getD undef) (by rw[hL.1];exact hc1) hc2 (fun r hr=> ?_) (fun _=>rfl) (fun i r k d hi hk=> ?_) (fun i r k d hi hk=> ?_)
   · obtain⟨i,hi⟩:=List.mem_iff_getElem?.1 hr
     obtain⟨r1,hr1⟩:=hget i r hi
     exact(hL.2 i r1 r hr1 hi).1.trans (hrows i r1 hr1).1
   · obtain⟨u,hu,hdr⟩:=hcell i r k d hi hk
     refine⟨hb g rfl,?_⟩
     rw[lO,cell_of_row w g _ cur e fz hh,← Nat.add_assoc,hu];rfl
   · obtain⟨u,hu,hdr⟩:=hcell i r k d hi hk
     rw[hu];exact hdr
set_option linter.unusedSimpArgs false
def cE:St→List Nat
 | []=>[]
 |(.o n,_)::r=>n::cE r
 |_::r=>cE r
theorem fN {σ:St} {o:Nat} {k:K} (h:aV σ (.o o)=some k):o∈cE σ:=by
 induction σ with
 |nil=>cases h
 |cons p r ih=>
  obtain⟨l,k'⟩:=p
  simp only[aV] at h
  split at h
  · rename_i e
    have e:l= .o o:=e
    subst e;simp[cE]
  · cases l with
    |t s=>exact ih h
    |o n=>simp[cE,ih h]
theorem qP {σ:St} {o:Nat} (h:o∈cE σ): ∃k,aV σ (.o o)=some k:=by
 induction σ with
 |nil=>cases h
 |cons p r ih=>
  obtain⟨l,k⟩:=p
  simp only[aV]
  by_cases e:l= .o o
  · exact⟨k,by rw[aC e]⟩
  · rw[aB e]
    cases l with
    |t s=>exact ih h
    |o n=>
     simp only[cE,List.mem_cons] at h
     rcases h with h|h
     · exact absurd (by rw[h]) e
     · exact ih h
theorem vD {σ:St} {l:dK} {k:K} (h:aV σ l=some k): (l,k)∈σ:=by
 induction σ with
 |nil=>cases h
 |cons p r ih=>
  obtain⟨l',k'⟩:=p
  simp only[aV] at h
  split at h
  · rename_i e
    have e:l'=l:=e
    cases h;subst e;exact List.mem_cons_self ..
  · exact List.mem_cons_of_mem _ (ih h)
def kS (rl:List (Nat×Nat)) (j:Nat):Nat:=
 match rl with
 | []=>j
 |p::r=>if p.1=j then p.2 else kS r j
def mC (τ σ':St) (rl:List (Nat×Nat)) (bor:List Nat):C→C→Prop
 | .d x,.d y=>x=y
 | .nil,.nil=>True
 | .nil,.d y=>y= .sl []
 | .own o n,.d y=>o∈bor∧ ∃e es rows,aV τ (.o o)=some (.row e es rows)∧rows.length=n∧Lent τ bor rows y
 | .own o n,.own j m=>o=kS rl j∧n=m∧ ∃e es rows,aV σ' (.o j)=some (.row e es rows)
 | .pt o k,.pt j m=>o=kS rl j∧k=m∧ ∃ty cs,aV σ' (.o j)=some (.box ty cs)
 | .rp cs,.rp cs'=>cs=cs'
 | .nil,.z j Q'=>(∀p,Q' p (.slice none 0 0))∧ ∃Z,aV σ' (.o j)=some (.zone Z)
 | .z o Q,.z j Q'=>o=kS rl j∧(∀p v,Q p v→Q' p v)∧ ∃Z,aV σ' (.o j)=some (.zone Z)
 |_,_=>False
def mCs (τ σ':St) (rl:List (Nat×Nat)) (bor:List Nat):List C→List C→Prop
 | [],[]=>True
 |c::cs,d::ds=>mC τ σ' rl bor c d∧mCs τ σ' rl bor cs ds
 |_,_=>False
def mE (τ σ':St) (rl:List (Nat×Nat)) (bor:List Nat):E→E→Prop
 | .c x,.c y=>mC τ σ' rl bor x y
 | .agg cs,.agg ds=>mCs τ σ' rl bor cs ds
 |_,_=>False
def mEs (τ σ':St) (rl:List (Nat×Nat)) (bor:List Nat):List E→List E→Prop
 | [],[]=>True
 |c::cs,d::ds=>mE τ σ' rl bor c d∧mEs τ σ' rl bor cs ds
 |_,_=>False
def mV (τ σ':St) (rl:List (Nat×Nat)) (bor:List Nat):V→V→Prop
 | .e x,.e y=>mE τ σ' rl bor x y
 | .tup xs,.tup ys=>mEs τ σ' rl bor xs ys
 |_,_=>False
def mK (τ σ':St) (rl:List (Nat×Nat)) (bor:List Nat):K→K→Prop
 | .box ty cs,.box ty' ds=>ty=ty'∧mCs τ σ' rl bor cs ds
 | .row e es rows,.row e' es' rows'=>e=e'∧es=es'∧rows=rows'
 | .zone Z,.zone Z'=>Z'.le=Z.le∧ ∀w S p,Z.R w S p→Z'.R w S p
 |_,_=>False
def mL (τ σ':St) (rl:List (Nat×Nat)) (bor:List Nat):List (dK×K)→Prop
 | []=>True
 |(.t s,.v X')::r=>(∃X,aV τ (.t s)=some (.v X)∧mV τ σ' rl bor X X')∧mL τ σ' rl bor r
 |(.o j,k')::r=>(∃k,aV τ (.o (kS rl j))=some k∧mK τ σ' rl bor k k')∧mL τ σ' rl bor r
 |_::_=>False
def vE:List Nat→Bool
 | []=>true
 |x::r=> !iS x r&&vE r
def bd (σ':St) (rl:List (Nat×Nat)) (bor:List Nat):Bool:=vE ((cE σ').map (kS rl))&&vE (cE σ')&&pV bor ((cE σ').map (kS rl))
def pE (τ σ':St) (rl:List (Nat×Nat)) (bor:List Nat):Prop:=mL τ σ' rl bor σ'∧bd σ' rl bor=true
theorem gz {f:Nat→Nat}: ∀{l:List Nat},vE (l.map f)=true→ ∀i∈l,∀j∈l,f i=f j→i=j
 | [],_,i,hi,_,_,_=>by simp at hi
 |x::r,h,i,hi,j,hj,he=>by
  simp only[List.map_cons,vE,aX3,Bool.not_eq_true'] at h
  have hx: ∀y∈r,f x≠f y:=fun y hy e=>by
   have:iS (f x) (r.map f)=true:=iF.2 (by rw[e];exact aYc.2 ⟨y,hy,rfl⟩)
   rw[this] at h;cases h.1
  rcases List.mem_cons.1 hi with e1|h1
  · rcases List.mem_cons.1 hj with e2|h2
    · rw[e1,e2]
    · rw[e1] at he;exact absurd he (hx j h2)
  · rcases List.mem_cons.1 hj with e2|h2
    · rw[e2] at he;exact absurd he.symm (hx i h1)
    · exact gz h.2 i h1 j h2 he
section
variable {σ τ σ':St} {rl:List (Nat×Nat)} {bor:List Nat} {ι ν:Nat→Value} {S:Nat→Prop} {w:World}
theorem aDd: ∀{L:List (dK×K)},mL τ σ' rl bor L→ ∀p∈L,(∀s X',p=(.t s,.v X')→ ∃X,aV τ (.t s)=some (.v X)∧mV τ σ' rl bor X X')∧(∀j k',p=(.o j,k')→ ∃k,aV τ (.o (kS rl j))=some k∧mK τ σ' rl bor k k')
 | [],_,p,hp=>by cases hp
 |(.t s,.v X')::r,h,p,hp=>by
  rcases List.mem_cons.1 hp with rfl|hp
  · exact⟨(fun s' X'' e=>by cases e;exact h.1),(fun j k' e=>by cases e)⟩
  · exact aDd h.2 p hp
 |(.o j,k')::r,h,p,hp=>by
  have h': (∃k,aV τ (.o (kS rl j))=some k∧mK τ σ' rl bor k k')∧mL τ σ' rl bor r:=by cases k'<;>exact h
  rcases List.mem_cons.1 hp with rfl|hp
  · exact⟨(fun s' X'' e=>by cases e),(fun j k' e=>by cases e;exact h'.1)⟩
  · exact aDd h'.2 p hp
 |(.t s,.box ..)::r,h,p,hp=>h.elim
 |(.t s,.row ..)::r,h,p,hp=>h.elim
 |(.t s,.dead)::r,h,p,hp=>h.elim
 |(.t s,.cv ..)::r,h,p,hp=>h.elim
 |(.t s,.zone ..)::r,h,p,hp=>h.elim
theorem aUq: ∀{L:List (dK×K)},mL τ σ' rl bor L→ ∀s k,(dK.t s,k)∈L→ ∃X',k= .v X'
 | [],_,s,k,hp=>by cases hp
 |(.t s,.v X')::r,h,s',k,hp=>by
  rcases List.mem_cons.1 hp with e|hp
  · cases e;exact⟨_,rfl⟩
  · exact aUq h.2 s' k hp
 |(.o j,k')::r,h,s',k,hp=>by
  have h': (∃k,aV τ (.o (kS rl j))=some k∧mK τ σ' rl bor k k')∧mL τ σ' rl bor r:=by cases k'<;>exact h
  rcases List.mem_cons.1 hp with e|hp
  · cases e
  · exact aUq h'.2 s' k hp
 |(.t s,.box ..)::r,h,s',k,hp=>h.elim
 |(.t s,.row ..)::r,h,s',k,hp=>h.elim
 |(.t s,.dead)::r,h,s',k,hp=>h.elim
 |(.t s,.cv ..)::r,h,s',k,hp=>h.elim
 |(.t s,.zone ..)::r,h,s',k,hp=>h.elim
def qQ (σ:St) (ι:Nat→Value) (bor:List Nat) (S:Nat→Prop) (b:Nat):Prop:=S b∨ ∃o∈bor,lJ σ ι o b
theorem od {e es:Nat} {rows:List (List D)} {p:Value} {S':Nat→Prop} (h:OR σ ι w S p (.row e es rows)) (hS: ∀b,S b→S' b) (hb: ∀b,uZ p b→S' b):DR w S' (.sl rows) p:=by
 rcases h with⟨rfl,rfl⟩|⟨g,off,cap,cur,fz,rfl,hh,hfz,hc1,hc2,hc3,hrows⟩
 · exact .sl [] none 0 0 ⟨0,0,none⟩ (fun _ _=>undef) (by simp) (by simp[maxLen]) (by simp) (by simp) (by simp) (by simp)
 · refine .sl rows _ cap es ⟨g,off,none⟩ (fun i k=>(cur[off+i*es+k]?).getD undef) hc1 hc2 (fun r hr=> ?_) (fun _=>rfl) (fun i r k d hi hk=> ?_) (fun i r k d hi hk=> ?_)
   · obtain⟨i,hi⟩:=List.mem_iff_getElem?.1 hr
     exact(hrows i r hi).1
   · obtain⟨u,hu,hdr⟩:=(hrows i r hi).2 k d hk
     refine⟨hb g rfl,?_⟩
     rw[lO,cell_of_row w g _ cur e fz hh,← Nat.add_assoc,hu];rfl
   · obtain⟨u,hu,hdr⟩:=(hrows i r hi).2 k d hk
     rw[hu];exact DR.mono hS (fun _ _=>rfl) hdr
theorem vd (hv:VR σ ι ν S w) (hsub: ∀l k,aV τ l=some k→aV σ l=some k) (hids: ∀j k',aV σ' (.o j)=some k'→ ∃k,aV τ (.o (kS rl j))=some k∧mK τ σ' rl bor k k') {c c':C} {v:Value} (hm:mC τ σ' rl bor c c') (h:CR σ ι w S c v):
 CR σ' (fun j=>ι (kS rl j)) w (qQ σ ι bor S) c' v:=by
 cases c<;>cases c'<;>simp only[mC] at hm
 case d.d x y=>subst hm;exact DR.mono (fun b hb=> .inl hb) (fun _ _=>rfl) h
 case nil.nil=>exact h
 case nil.d y=>
  subst hm
  have h:v= .slice none 0 0:=h
  subst h
  exact .sl [] none 0 0 ⟨0,0,none⟩ (fun _ _=>undef) (by simp) (by simp[maxLen]) (by simp) (by simp) (by simp) (by simp)
 case own.d o n y=>
  obtain⟨hb,e,es,rows,hl,hn,hy⟩:=hm
  have hl:=hsub _ _ hl
  obtain⟨_,h2⟩:=h
  rcases h2 with⟨e2,es2,rows2,hl2,hnn,hv2⟩|hd
  · rw[hl] at hl2;cases hl2
    rw[hv2 hn]
    rcases hy with rfl|⟨z,e3,es3,l,rows3,hz,hlz,rfl,hL⟩
    · exact od (hv.objs o _ hl) (fun b hb=> .inl hb) (fun b hb2=> .inr ⟨o,hb,⟨_,hl,trivial⟩,hb2⟩)
    · have hlz:=hsub _ _ hlz
      have hR:aUp e3 es3 l w S (ι z):=hv.objs z _ hlz
      refine aHz (hv.objs o _ hl) hL (fun b hb=> .inl hb) (fun b hb2=> .inr ⟨o,hb,⟨_,hl,trivial⟩,hb2⟩) (fun v g hm=> ?_)
      exact od (hR.2.1 _ hm) (fun b hb=> .inl hb) (fun b hb2=> .inr ⟨z,hz,⟨_,hlz,trivial⟩,(uz hR).2 ⟨_,hm,(uy (hR.2.1 _ hm)).1 hb2⟩⟩)
  · rw[hl] at hd;cases hd
 case own.own o n j m=>
  obtain⟨rfl,rfl,e,es,rows,hl'⟩:=hm
  obtain⟨k,hk,hmk⟩:=hids j _ hl'
  obtain⟨h1,h2⟩:=h
  refine⟨h1,.inl ⟨e,es,rows,hl',?_⟩⟩
  cases k<;>simp only[mK] at hmk
  obtain⟨rfl,rfl,rfl⟩:=hmk
  have hl:=hsub _ _ hk
  rcases h2 with⟨e2,es2,rows2,hl2,hnn,hv2⟩|hd
  · rw[hl] at hl2;cases hl2;exact⟨hnn,hv2⟩
  · rw[hl] at hd;cases hd
 case pt.pt o k j m=>
  obtain⟨rfl,rfl,ty,cs,hl'⟩:=hm
  obtain⟨kk,hk,hmk⟩:=hids j _ hl'
  obtain⟨h1,h2⟩:=h
  refine⟨h1,.inl ⟨ty,cs,hl',?_⟩⟩
  cases kk<;>simp only[mK] at hmk
  have hl:=hsub _ _ hk
  rcases h2 with⟨ty2,cs2,hl2,b,hi,hvv⟩|hd
  · exact⟨b,hi,hvv⟩
  · rw[hl] at hd;cases hd
 case nil.z j Q'=>
  obtain⟨hQ,Z',hl'⟩:=hm
  have h:v= .slice none 0 0:=h
  exact⟨by rw[h];rfl,.inl ⟨Z',hl',fun p _=>by rw[h];exact hQ p⟩⟩
 case z.z o Q j Q'=>
  obtain⟨rfl,hQ,Z',hl'⟩:=hm
  obtain⟨kk,hk,hmk⟩:=hids j _ hl'
  obtain⟨h1,h2⟩:=h
  refine⟨h1,.inl ⟨Z',hl',fun p hp=> ?_⟩⟩
  cases kk<;>simp only[mK] at hmk
  have hl:=hsub _ _ hk
  rcases h2 with⟨Z2,hl2,hq⟩|hd
  · rw[hl] at hl2;cases hl2
    exact hQ _ _ (hq p (by rw[← hmk.1];exact hp))
  · rw[hl] at hd;cases hd
 case rp.rp cs cs'=>
  subst hm
  obtain⟨ad,hv',hk⟩:=h
  exact⟨ad,hv',fun k d hd=>by
   obtain⟨q1,u,q2,q3⟩:=hk k d hd
   exact⟨.inl q1,u,q2,DR.mono (fun b hb=> .inl hb) (fun _ _=>rfl) q3⟩⟩
theorem aDe: ∀{cs ds:List C},mCs τ σ' rl bor cs ds→ds.length=cs.length∧ ∀(k:Nat) d,ds[k]? =some d→ ∃c,cs[k]? =some c∧mC τ σ' rl bor c d
 | [],[],_=>⟨rfl,by simp⟩
 |c::cs,d::ds,h=>by
  obtain⟨q1,q2⟩:=aDe h.2
  refine⟨by simp[q1],fun k d' hk=> ?_⟩
  cases k with
  |zero=>simp at hk;subst hk;exact⟨c,rfl,h.1⟩
  |succ k=>simpa using q2 k d' (by simpa using hk)
 | [],_::_,h=>h.elim
 |_::_,[],h=>h.elim
theorem aFf (hv:VR σ ι ν S w) (hsub: ∀l k,aV τ l=some k→aV σ l=some k) (hids: ∀j k',aV σ' (.o j)=some k'→ ∃k,aV τ (.o (kS rl j))=some k∧mK τ σ' rl bor k k') {c c':E} {v:Value} (hm:mE τ σ' rl bor c c') (h:ER σ ι w S c v):
 ER σ' (fun j=>ι (kS rl j)) w (qQ σ ι bor S) c' v:=by
 cases c<;>cases c'<;>simp only[mE] at hm
 · exact vd hv hsub hids hm h
 · obtain⟨vs,hvv,hl,hk⟩:=h
   obtain⟨q1,q2⟩:=aDe hm
   exact⟨vs,hvv,by rw[hl,q1],fun k d u hd hu=>by
    obtain⟨c,hc,hmc⟩:=q2 k d hd
    exact vd hv hsub hids hmc (hk k c u hc hu)⟩
theorem aKb: ∀{cs ds:List E},mEs τ σ' rl bor cs ds→ds.length=cs.length∧ ∀(k:Nat) d,ds[k]? =some d→ ∃c,cs[k]? =some c∧mE τ σ' rl bor c d
 | [],[],_=>⟨rfl,by simp⟩
 |c::cs,d::ds,h=>by
  obtain⟨q1,q2⟩:=aKb h.2
  refine⟨by simp[q1],fun k d' hk=> ?_⟩
  cases k with
  |zero=>simp at hk;subst hk;exact⟨c,rfl,h.1⟩
  |succ k=>simpa using q2 k d' (by simpa using hk)
 | [],_::_,h=>h.elim
 |_::_,[],h=>h.elim
theorem aN7 (hv:VR σ ι ν S w) (hsub: ∀l k,aV τ l=some k→aV σ l=some k) (hids: ∀j k',aV σ' (.o j)=some k'→ ∃k,aV τ (.o (kS rl j))=some k∧mK τ σ' rl bor k k') {c c':V} {v:Value} (hm:mV τ σ' rl bor c c') (h:mI σ ι w S c v):
 mI σ' (fun j=>ι (kS rl j)) w (qQ σ ι bor S) c' v:=by
 cases c<;>cases c'<;>simp only[mV] at hm
 · exact aFf hv hsub hids hm h
 · obtain⟨vs,hvv,hl,hk⟩:=h
   obtain⟨q1,q2⟩:=aKb hm
   exact⟨vs,hvv,by rw[hl,q1],fun k d u hd hu=>by
    obtain⟨c,hc,hmc⟩:=q2 k d hd
    exact aFf hv hsub hids hmc (hk k c u hc hu)⟩
theorem aKc {k k':K} (h:mK τ σ' rl bor k k'):k.live∧k'.live:=by cases k<;>cases k'<;>simp_all[mK,K.live]
theorem aDf {p q:Value} {k k1 k':K} (h:nU p q k k1) (hm:mK τ σ' rl bor k1 k'):nU p q k k':=by
 cases k1<;>cases k'<;>simp only[mK] at hm
 · cases k<;>simp_all[nU]
 · obtain⟨rfl,rfl,rfl⟩:=hm;exact h
 · cases k<;>simp only[nU] at h ⊢
   exact⟨hm.1.trans h.1,h.2⟩
theorem aUr {p q:Value} {k k1 k':K} (hm:mK τ σ' rl bor k k1) (h:nU p q k1 k'):nU p q k k':=by
 cases k<;>cases k1<;>simp only[mK] at hm
 · cases k'<;>simp_all[nU]
 · obtain⟨rfl,rfl,rfl⟩:=hm;exact h
 · cases k'<;>simp only[nU] at h ⊢
   exact⟨h.1.trans hm.1,by rw[← hm.1];exact h.2⟩
theorem pE.ids (h:pE τ σ' rl bor): ∀j k',aV σ' (.o j)=some k'→ ∃k,aV τ (.o (kS rl j))=some k∧mK τ σ' rl bor k k':=fun j k' hl=>(aDd h.1 _ (vD hl)).2 j k' rfl
theorem pE.inj (h:pE τ σ' rl bor) {i j:Nat} (hi:i∈cE σ') (hj:j∈cE σ') (he:kS rl i=kS rl j):i=j:=by
 have:=h.2
 simp only[bd,aX3] at this
 exact gz this.1.1 i hi j hj he
theorem pE.giv (h:pE τ σ' rl bor) {o j:Nat} (ho:o∈bor) (hj:j∈cE σ'):kS rl j≠o:=by
 have:=h.2
 simp only[bd,aX3] at this
 intro e
 exact tH this.2 o ho (by rw[← e];exact aYc.2 ⟨j,hj,rfl⟩)
theorem pE.mut (h:pE τ σ' rl bor) (hsub: ∀l k,aV τ l=some k→aV σ l=some k) {j b:Nat} (hm:lJ σ' (fun j=>ι (kS rl j)) j b):lJ σ ι (kS rl j) b:=by
 obtain⟨⟨k',hk',hl⟩,hb⟩:=hm
 obtain⟨k,hk,hmk⟩:=h.ids j k' hk'
 exact⟨⟨k,hsub _ _ hk,(aKc hmk).1⟩,hb⟩
theorem vF (h:pE τ σ' rl bor) (hsub: ∀l k,aV τ l=some k→aV σ l=some k) (hv:VR σ ι ν S w):VR σ' (fun j=>ι (kS rl j)) ν (qQ σ ι bor S) w:=by
 refine⟨fun s X' hs=> ?_,fun j k' hj=> ?_,fun j b hm hS=> ?_,fun j j' b hm hm'=> ?_,fun b hb=> ?_⟩
 · obtain⟨X',rfl⟩:=aUq h.1 s _ (vD hs)
   obtain⟨X,hX,hmv⟩:=(aDd h.1 _ (vD hs)).1 s X' rfl
   exact aN7 hv hsub h.ids hmv (hv.slots s _ (hsub _ _ hX))
 · obtain⟨k,hk,hmk⟩:=h.ids j k' hj
   have hor:=hv.objs _ k (hsub _ _ hk)
   cases k<;>cases k'<;>simp only[mK] at hmk
   · obtain⟨rfl,hcs⟩:=hmk
     obtain⟨b,vs,hi,hh,hsz,hc⟩:=hor
     obtain⟨q1,q2⟩:=aDe hcs
     exact⟨b,vs,hi,hh,by rw[hsz,q1],fun k d u hd hu=>by
      obtain⟨c,hcc,hmc⟩:=q2 k d hd
      exact vd hv hsub h.ids hmc (hc k c u hcc hu)⟩
   · obtain⟨rfl,rfl,rfl⟩:=hmk
     rcases hor with hn|⟨g,off,cap,cur,fz,hp,hh,hfz,h1,h2,h3,h4⟩
     · exact .inl hn
     · exact .inr ⟨g,off,cap,cur,fz,hp,hh,hfz,h1,h2,h3,fun i r hr=>⟨(h4 i r hr).1,fun k d hd=>by
        obtain⟨u,hu,hdr⟩:=(h4 i r hr).2 k d hd
        exact⟨u,hu,DR.mono (fun b hb=> .inl hb) (fun _ _=>rfl) hdr⟩⟩⟩
   · rename_i Z Z'
     exact hmk.2 _ _ _ (Z.mono (fun b hb=> .inl hb) (fun _ _=>rfl) (fun _ _=>rfl) hor)
 · have hm1:=h.mut hsub hm
   rcases hS with hS|⟨o,ho,hmo⟩
   · exact hv.mutS _ b hm1 hS
   · obtain⟨⟨k',hk',_⟩,_⟩:=hm
     exact h.giv ho (fN hk') (hv.inj _ _ b hm1 hmo)
 · have h1:=h.mut hsub hm
   have h2:=h.mut hsub hm'
   obtain⟨⟨k',hk',_⟩,_⟩:=hm
   obtain⟨⟨k'',hk'',_⟩,_⟩:=hm'
   exact h.inj (fN hk') (fN hk'') (hv.inj _ _ b h1 h2)
 · rcases hb with hb|⟨o,ho,⟨k,hk,hl⟩,hb⟩
   · exact hv.sz b hb
   · exact OR.lt (hv.objs o k hk) hl hb
end
def zA (io:List Nat) (σ':St) (rl:List (Nat×Nat)) (bor:List Nat):Bool:=io.all fun o=>Nat.beq (kS rl o) o&&iS o (cE σ')&& !iS o bor
theorem SW.weaken {P:Program} {io:List Nat} {c:Code} {Q:Ex→St→Prop} {σ:St} (σ':St) (rl:List (Nat×Nat)) (bor:List Nat) (hm:pE σ σ' rl bor) (hk:zA io σ' rl bor=true) (h:SW P io c Q σ'):SW P io c Q σ:=fun cx ι S a w hio hw hf=>by
 refine h cx (fun j=>ι (kS rl j)) (qQ σ ι bor S) a w hio ?_ hf
 have hkk: ∀o k,cx.kio o=some k→kS rl o=o∧o∈cE σ'∧o∉bor:=fun o k ho=>by
  have:=aYd.1 hk o (hio o k ho)
  simp only[aX3,Bool.not_eq_true'] at this
  refine⟨Nat.eq_of_beq_eq_true this.1.1,iF.1 this.1.2,fun hb=> ?_⟩
  rw[iF.2 hb] at this;cases this.2
 have hvr:=vF hm (fun _ _ h=>h) hw.vr
 refine⟨hvr,hw.size,hw.defers,hw.fr,fun j b hmu=> ?_,fun b hb=> ?_,fun o k ho=> ?_⟩
 · exact hw.own _ b (hm.mut (fun _ _ h=>h) hmu)
 · rcases hb with hb|⟨o,ho,hmo⟩
   · exact hw.rd b hb
   · exact .inr (hw.own o b hmo)
 · obtain⟨q1,q2,q3⟩:=hkk o k ho
   obtain⟨k1,hk1,hev⟩:=hw.io o k ho
   obtain⟨p,hp⟩:=qP q2
   obtain⟨k2,hk2,hmk⟩:=hm.ids o p hp
   rw[q1] at hk2
   rw[hk1] at hk2;cases hk2
   refine⟨p,hp,?_⟩
   rw[q1]
   exact aDf hev hmk
set_option linter.unusedSimpArgs false
def ia (P:Program) (f:FuncId):Prop:= ∃fn,P.funcs[f]? =some fn∧fn.body.isNone=false∧(fn.name== "runtime.NumGoroutine")=false
structure aN8 (σin:St) (ι:Nat→Value) (S:Nat→Prop) (w:World) (σout:St) (ι':Nat→Value) (S':Nat→Prop) (w':World) (v:Value):Prop where
 fr:Fr (fun b=> ∃o,lJ σin ι o b) w w'
 vr:VR σout ι' (fun _=>v) S' w'
 rd: ∀b,S' b→S b∨w.heap.size≤b∨ ∃o,lJ σin ι o b
 own: ∀o b,lJ σout ι' o b→w.heap.size≤b∨ ∃o,lJ σin ι o b
 io: ∀o k k',aV σin (.o o)=some k→aV σout (.o o)=some k'→nU (ι o) (ι' o) k k'
def Spec (P:Program) (f:FuncId) (n:Nat) (σin σout:St):Prop:=
 ia P f∧ ∀(ι ν:Nat→Value) (S:Nat→Prop) (w:World) (args:Array Value),(GB P w fun b=> ∃o,lJ σin ι o b)→VR σin ι ν S w→args.size=n→(∀i,i<n→args[i]? =some (ν i))→
  Calls P f args w fun e w'=> ∃v ι' S',e= .returned v∧aN8 σin ι S w σout ι' S' w' v
def aQg (T:hZ) (s:St):ResultVar→Option E
 | .tmp t=>match aV s (.t t) with
  |some (.v (.e x))=>some x
  |_=>none
 | .cell p ty=>match aV s (.t p),T ty with
  |some (.v (.e (.c (.pt ob 0)))),some ti=>match aV s (.o ob) with
   |some (.box _ cs)=>if ti.kind.agg&&(cs.length==ti.size) then some (.agg cs) else none
   |_=>none
  |_,_=>none
def aFg (T:hZ) (s:St):List ResultVar→Option (List E)
 | []=>some []
 |r::rs=>match aQg T s r,aFg T s rs with
  |some x,some xs=>some (x::xs)
  |_,_=>none
def aH0 (T:hZ) (s:St) (rs:List ResultVar):Option V:=
 match aFg T s rs with
 |some [x]=>some (.e x)
 |some xs=>some (.tup xs)
 |none=>none
def eH:St→St
 | []=>[]
 |(.o n,k)::r=>(.o n,k)::eH r
 |_::r=>eH r
theorem qR (s:St) (o:Nat):aV (eH s) (.o o)=aV s (.o o):=by
 induction s with
 |nil=>rfl
 |cons p r ih=>
  obtain⟨l,k⟩:=p
  cases l with
  |t n=>simp only[eH,aV];rw[ih,aB (by simp)]
  |o n=>simp only[eH,aV];rw[ih]
theorem aH1 {P:Program} {T:hZ} (hT:dV P T) {cx:Cx P} {s:St} {ι:Nat→Value} {S:Nat→Prop} {a:Act} {w:World} (hw:RW cx s ι S a w) {r:ResultVar} {x:E} (h:aQg T s r=some x):
 ∃v,(match r with| .tmp t=>pure (a.tmps.getD t undef)| .cell p ty=>do loadVar ty (← asAddr (a.tmps.getD p undef)):Sem Value).run P w= .ok v w∧ER s ι w S x v:=by
 cases r with
 |tmp t=>
  simp only[aQg] at h
  split at h<;>try(cases h;done)
  rename_i x' hl
  cases h
  exact⟨_,rfl,hw.vr.slots t _ hl⟩
 |cell p ty=>
  simp only[aQg] at h
  split at h<;>try(cases h;done)
  rename_i ob ti hl hti
  split at h<;>try(cases h;done)
  rename_i ty' cs hbox
  split at h<;>try(cases h;done)
  rename_i hc
  cases h
  simp only[aX3,beq_iff_eq] at hc
  obtain⟨hag,hlen⟩:=hc
  obtain⟨_,h2⟩:=(show CR s ι w S (.pt ob 0) (iZ a p) from hw.vr.slots p _ hl)
  rcases h2 with⟨ty2,cs2,hl2,b,hi,hv⟩|hd
  · rw[hbox] at hl2;cases hl2
    obtain⟨b',vs,hi',hh,hsz,hcr⟩:=hw.vr.objs ob _ hbox
    rw[hi] at hi';cases hi'
    have hv':a.tmps.getD p undef= .pointer (some ⟨b,0,none⟩):=hv
    have hload:=mZ (w:=w) (hT ty ti hti) hag ⟨b,0,none⟩ vs.toList (by rw[Array.length_toList,hsz,hlen]) (fun j v hj=>by
     rw[lO,Nat.zero_add,cell_of_row w b j vs _ (0,0) hh];simpa using hj)
    refine⟨.agg vs.toList.toArray,?_,vs.toList,rfl,by rw[Array.length_toList,hsz],fun k c u h1 h2=>hcr k c u h1 (by simpa using h2)⟩
    simp only[hv',Sem.run_bind,asAddr,Sem.run_pure,Result.andThen_ok]
    exact hload
  · rw[hbox] at hd;cases hd
theorem rh {P:Program} {T:hZ} (hT:dV P T) {cx:Cx P} {s:St} {ι:Nat→Value} {S:Nat→Prop} {a:Act} {w:World} (hw:RW cx s ι S a w): ∀{rs:List ResultVar} {xs:List E},aFg T s rs=some xs→
 ∃vs:List Value,(rs.mapM fun r=>(match r with| .tmp t=>pure (a.tmps.getD t undef)| .cell p ty=>do loadVar ty (← asAddr (a.tmps.getD p undef)):Sem Value)).run P w= .ok vs w∧vs.length=xs.length∧ ∀(k:Nat) x u,xs[k]? =some x→vs[k]? =some u→ER s ι w S x u
 | [],xs,h=>by cases h;exact⟨[],rfl,rfl,by simp⟩
 |r::rs,xs,h=>by
  simp only[aFg] at h
  split at h<;>try(cases h;done)
  rename_i x ys h1 h2
  cases h
  obtain⟨v,hv,hx⟩:=aH1 hT hw h1
  obtain⟨vs,hvs,hl,hk⟩:=rh hT hw h2
  refine⟨v::vs,?_,by simp[hl],fun k y u hy hu=> ?_⟩
  · rw[List.mapM_cons,Sem.run_bind,hv,Result.andThen_ok,Sem.run_bind,hvs];rfl
  · cases k with
    |zero=>simp at hy hu;subst hy;subst hu;exact hx
    |succ k=>exact hk k y u (by simpa using hy) (by simpa using hu)
theorem ve {P:Program} {T:hZ} (hT:dV P T) {cx:Cx P} {s:St} {ι:Nat→Value} {S:Nat→Prop} {a:Act} {w:World} (hw:RW cx s ι S a w) {fn:Func} {X:V} (h:aH0 T s fn.results.toList=some X):
 ∃v,(results fn a.tmps).run P w= .ok v w∧mI s ι w S X v:=by
 have key: ∀{xs:List E},aFg T s fn.results.toList=some xs→ ∃vs:List Value,(results fn a.tmps).run P w= .ok (if h:vs.toArray.size=1 then vs.toArray[0] else .tuple vs.toArray) w∧vs.length=xs.length∧ ∀(k:Nat) x u,xs[k]? =some x→vs[k]? =some u→ER s ι w S x u:=by
  intro xs hx
  obtain⟨vs,hvs,hl,hk⟩:=rh hT hw hx
  refine⟨vs,?_,hl,hk⟩
  unfold results
  have e:fn.results=fn.results.toList.toArray:=by simp
  rw[e,List.mapM_toArray,Sem.run_bind,Sem.run_map]
  exact(aA (fun r:Result (List Value)=>(r.andThen fun a w'=>Result.ok a.toArray w').andThen fun a w'=>Sem.run P (pure (if h:a.size=1 then a[0] else Value.tuple a)) w') hvs).trans rfl
 unfold aH0 at h
 split at h
 · rename_i x hx
   cases h
   obtain⟨vs,hr,hl,hk⟩:=key hx
   match vs,hl with
   | [v],_=>exact⟨v,hr,hk 0 x v rfl rfl⟩
 · rename_i xs hne hx
   cases h
   obtain⟨vs,hr,hl,hk⟩:=key hx
   have h1: ¬vs.toArray.size=1:=by
    intro h1
    have h1:xs.length=1:=by rw[← hl];simpa using h1
    match xs,h1 with
    | [x],_=>exact hne x rfl
   rw[dif_neg h1] at hr
   exact⟨_,hr,vs,rfl,hl,hk⟩
 · cases h
def sT (n:Nat):St→Bool
 | []=>true
 |(.t s,_)::r=>decide (s<n)&&sT n r
 |_::r=>sT n r
theorem uH {n:Nat}: ∀{σ:St},sT n σ=true→ ∀s k,aV σ (.t s)=some k→s<n
 | [],_,s,k,h=>by cases h
 |(.t t,x)::r,h,s,k,hl=>by
  simp only[sT,aX3,aD] at h
  simp only[aV] at hl
  split at hl
  · rename_i e;cases e;exact h.1
  · exact uH h.2 s k hl
 |(.o t,x)::r,h,s,k,hl=>by
  simp only[aV] at hl
  rw[aB (by simp)] at hl
  exact uH (σ:=r) h s k hl
def vf (io:List Nat) (σout:St) (rl:List (Nat×Nat)) (bor:List Nat):Bool:=
 io.all fun o=> !iS o (cE σout)||Nat.beq (kS rl o) o
def be (T:hZ) (io:List Nat) (rs:List ResultVar) (σout:St) (s:St):Prop:=
 ∃X rl bor,aH0 T s rs=some X∧pE ((.t 0,.v X)::eH s) σout rl bor∧vf io σout rl bor=true
def aSx (T:hZ) (io:List Nat) (rs:List ResultVar) (σout:St):Ex→St→Prop
 | .norm,s=>be T io rs σout s
 | .ret,s=>be T io rs σout s
 | .exit _,_=>False
theorem aDg {P:Program} {T:hZ} (hT:dV P T) {f:FuncId} {fn:Func} {c:Code} {n:Nat} {σin σout:St} (hf:P.funcs[f]? =some fn) (hb:fn.body=some c) (hname: (fn.name== "runtime.NumGoroutine")=false) (hn:n≤fn.ntmps) (hfit:tJ fn.ntmps c=true)
 (hsl:sT n σin=true) (h:SW P ((cE σin).filter fun o=>iS o (cE σout)) c (aSx T ((cE σin).filter fun o=>iS o (cE σout)) fn.results.toList σout) σin):Spec P f n σin σout:=by
 refine⟨⟨fn,hf,by rw[hb];rfl,hname⟩,fun ι ν S w args hgb hvr hsz hargs=> ?_⟩
 have hnu: ∀s,s<n→(args++Array.replicate (fn.ntmps - args.size) undef).getD s undef=ν s:=by
  intro s hs
  rw[Array.getD_eq_getD_getElem?,Array.getElem?_append_left (by omega),hargs s hs];rfl
 let cx:Cx P:={N:=fn.ntmps,w0:=w,S0:=S,k0:=fun o=>aV σin (.o o),kio:=fun o=>if iS o (cE σout) then aV σin (.o o) else none,ι0:=ι,gb:=hgb.weak fun b ⟨o,k,q1,q2,q3⟩=>⟨o,⟨k,q1,q2⟩,q3⟩}
 have hM: ∀b,cx.M b↔ ∃o,lJ σin ι o b:=fun b=>⟨fun⟨o,k,q1,q2,q3⟩=>⟨o,⟨k,q1,q2⟩,q3⟩,fun⟨o,⟨k,q1,q2⟩,q3⟩=>⟨o,k,q1,q2,q3⟩⟩
 have hkio: ∀{o:Nat} {k:K},(if iS o (cE σout) then aV σin (.o o) else none)=some k→aV σin (.o o)=some k:=fun{o k} h=>by
  by_cases hm:iS o (cE σout)=true
  · rw[aC hm] at h;exact h
  · rw[aB hm] at h;cases h
 have hkm: ∀{o:Nat} {k:K},(if iS o (cE σout) then aV σin (.o o) else none)=some k→o∈(cE σin).filter fun o=>iS o (cE σout):=fun{o k} h=>by
  by_cases hm:iS o (cE σout)=true
  · exact List.mem_filter.2 ⟨fN (hkio h),hm⟩
  · rw[aB hm] at h;cases h
 have hw:RW cx σin ι S {tmps:=args++Array.replicate (fn.ntmps - args.size) undef,defers:=[]} w:=by
  refine⟨⟨fun s x hx=> ?_,hvr.objs,hvr.mutS,hvr.inj,hvr.sz⟩,?_,rfl,Fr.refl _ _,fun o b ⟨⟨k,q1,q2⟩,q3⟩=> .inr ⟨o,k,q1,q2,q3⟩,fun b hb=> .inl hb,fun o k hk=>⟨k,hkio hk,nU.refl' _ _⟩⟩
  · have hs:=uH hsl s _ hx
    have:iZ {tmps:=args++Array.replicate (fn.ntmps - args.size) undef,defers:=[]} s=ν s:=hnu s hs
    rw[this];exact hvr.slots s x hx
  · show(args++Array.replicate (fn.ntmps - args.size) undef).size=fn.ntmps
    simp;omega
 refine calls_of_wp hf hb (wp_mono (h cx ι S _ w (fun o k hk=>hkm hk) hw hfit) fun e a' w' hq=> ?_)
 have fin: (∃σ' ι' S',be T ((cE σin).filter fun o=>iS o (cE σout)) fn.results.toList σout σ'∧RW cx σ' ι' S' a' w')→a'.defers=[]∧ ∃v,(results fn a'.tmps).run P w'= .ok v w'∧ ∃v_1 ι' S',Ending.returned v= .returned v_1∧aN8 σin ι S w σout ι' S' w' v_1:=by
  rintro⟨σ',ι',S',⟨X,rl,bor,hX,hm,hio⟩,hw'⟩
  obtain⟨v,hr,hv⟩:=ve hT hw' hX
  refine⟨hw'.defers,v,hr,v,fun j=>ι' (kS rl j),qQ σ' ι' bor S',rfl,?_⟩
  have hlo: ∀o,aV ((dK.t 0,K.v X)::eH σ') (.o o)=aV σ' (.o o):=fun o=>by simp only[aV];rw[aB (by simp),qR]
  have st:rS σ' ι' S' w' ((dK.t 0,K.v X)::eH σ') ι' S' w':=⟨fun _ h=>h,fun _ _=>rfl,fun o k hk=>⟨k,by rw[hlo];exact hk,nU.refl' _ _⟩⟩
  have hmut: ∀o b,lJ ((dK.t 0,K.v X)::eH σ') ι' o b↔lJ σ' ι' o b:=fun o b=>by unfold lJ;rw[hlo]
  have hlt: ∀(r:St) s k,aV (eH r) (.t s)=some k→False:=by
   intro r s k
   induction r with
   |nil=>intro h;cases h
   |cons p r ih=>
    obtain⟨l,k'⟩:=p
    cases l with
    |t n=>exact ih
    |o n=>simp only[eH,aV];rw[aB (by simp)];exact ih
  have hvr0:VR ((dK.t 0,K.v X)::eH σ') ι' (fun _=>v) S' w':=by
   refine⟨fun s x hx=> ?_,fun o k hk=>OR.step st (fun _ _=>rfl) (hw'.vr.objs o k (by rw[← hlo];exact hk)),fun o b q=>hw'.vr.mutS o b ((hmut o b).1 q),fun o o' b q q'=>hw'.vr.inj o o' b ((hmut o b).1 q) ((hmut o' b).1 q'),hw'.vr.sz⟩
   simp only[aV] at hx
   split at hx
   · cases hx;exact mI.step st hv
   · exact(hlt σ' s _ hx).elim
  have hvr1:=vF hm (fun _ _ h=>h) hvr0
  have hio2: ∀o∈(cE σin).filter fun o=>iS o (cE σout),iS o (cE σout)=false∨Nat.beq (kS rl o) o=true:=by simpa only[vf,aYd,Bool.or_eq_true,Bool.not_eq_true'] using hio
  have hgive: ∀b,qQ ((dK.t 0,K.v X)::eH σ') ι' bor S' b→qQ σ' ι' bor S' b:=fun b hb=>hb.imp id fun⟨o,ho,q⟩=>⟨o,ho,(hmut o b).1 q⟩
  refine⟨⟨hw'.fr.os,hw'.fr.tape,hw'.fr.output,hw'.fr.size,fun b hb hnm=>hw'.fr.block b hb (fun h=>hnm ((hM b).1 h))⟩,?_,fun b hb=> ?_,fun j b hmu=> ?_,fun o k k' hk hk'=> ?_⟩
  · have e:qQ ((dK.t 0,K.v X)::eH σ') ι' bor S'=qQ σ' ι' bor S':=by
     funext b;apply propext;exact⟨hgive b,fun hb=>hb.imp id fun⟨o,ho,q⟩=>⟨o,ho,(hmut o b).2 q⟩⟩
    rw[← e];exact hvr1
  · rcases hb with hb|⟨o,ho,hmo⟩
    · exact(hw'.rd b hb).imp id fun h=>h.imp id fun h=>(hM b).1 h
    · exact .inr ((hw'.own o b hmo).imp id fun h=>(hM b).1 h)
  · exact(hw'.own _ b ((hmut _ b).1 (hm.mut (fun _ _ h=>h) hmu))).imp id fun h=>(hM b).1 h
  · have hren:kS rl o=o:=by
     rcases hio2 o (List.mem_filter.2 ⟨fN hk,iF.2 (fN hk')⟩) with h4|h4
     · rw[iF.2 (fN hk')] at h4;cases h4
     · exact Nat.eq_of_beq_eq_true h4
    obtain⟨k1,hk1,hev⟩:=hw'.io o k (show(if iS o (cE σout) then aV σin (.o o) else none)=some k by rw[aC (iF.2 (fN hk'))];exact hk)
    have hev:nU (ι o) (ι' o) k k1:=hev
    obtain⟨k2,hk2,hmk⟩:=hm.ids o k' hk'
    rw[hren,hlo,hk1] at hk2;cases hk2
    rw[hren]
    exact aDf hev hmk
 cases e with
 |normal=>
  obtain⟨σ',ι',S',h1,h2⟩:=hq
  exact fin ⟨σ',ι',S',h1,h2⟩
 |ret=>
  obtain⟨σ',ι',S',h1,h2⟩:=hq
  exact fin ⟨σ',ι',S',h1,h2⟩
 |exit id=>obtain⟨σ',ι',S',h1,h2⟩:=hq;exact h1.elim
 |goto l=>exact hq.elim
 |panic ch=>exact hq.elim
 |outgrown=>exact hq.elim
set_option linter.unusedSimpArgs false
def evA (σ:St):List Operand→Option (List V×List (dK×Option K))
 | []=>some ([],[])
 |x::r=>match ev σ x,evA σ r with
  |some (X,R),some (Xs,R')=>some (X::Xs,R++R')
  |_,_=>none
theorem uW {σ:St}: ∀{ps:List Operand} {Xs:List V} {R:List (dK×Option K)},evA σ ps=some (Xs,R)→bV R σ
 | [],Xs,R,h=>by cases h;exact bV.nil
 |x::r,Xs,R,h=>by
  simp only[evA] at h
  split at h<;>try(cases h;done)
  rename_i X R1 Ys R2 h1 h2
  cases h
  exact(dH h1).append (uW h2)
theorem oe {σ0:St} {P:Program} {cx:Cx P} {σ:St} {ι:Nat→Value} {S:Nat→Prop} {a:Act} {w:World} (hw:RW cx σ ι S a w):
 ∀{ps:List Operand} {Xs:List V} {R:List (dK×Option K)},evA σ0 ps=some (Xs,R)→bV R σ→Xs.length=ps.length∧ ∀(i:Nat) X,Xs[i]? =some X→ ∃x,ps[i]? =some x∧mI σ ι w S X (a.eval x)
 | [],Xs,R,h,_=>by cases h;exact⟨rfl,by simp⟩
 |x::r,Xs,R,h,hr=>by
  simp only[evA] at h
  split at h<;>try(cases h;done)
  rename_i X R1 Ys R2 h1 h2
  cases h
  obtain⟨q1,q2⟩:=oe hw h2 hr.right
  refine⟨by simp[q1],fun i X' hi=> ?_⟩
  cases i with
  |zero=>simp at hi;subst hi;exact⟨x,rfl,dP h1 hr.left hw⟩
  |succ i=>simpa using q2 i X' (by simpa using hi)
def fA:Nat→List V→St
 |_,[]=>[]
 |i,X::r=>(.t i,.v X)::fA (i+1) r
theorem pX: ∀(i:Nat) (Xs:List V) (r:St) (s:Nat),i≤s→s<i+Xs.length→aV (fA i Xs++r) (.t s)=(Xs[s - i]?).map K.v
 |i,[],r,s,h1,h2=>by simp at h2;omega
 |i,X::Xs,r,s,h1,h2=>by
  simp only[fA,List.cons_append,aV]
  by_cases e:i=s
  · subst e;simp
  · rw[aB (by simpa using e),pX (i+1) Xs r s (by omega) (by simp at h2;omega)]
    rw[show s - i=(s - (i+1))+1 by omega,List.getElem?_cons_succ]
theorem lK: ∀(i:Nat) (Xs:List V) (r:St) (o:Nat),aV (fA i Xs++r) (.o o)=aV r (.o o)
 |i,[],r,o=>rfl
 |i,X::Xs,r,o=>by
  simp only[fA,List.cons_append,aV]
  rw[aB (by simp),lK (i+1) Xs r o]
theorem uI: ∀(i:Nat) (Xs:List V) (r:St) (s:Nat) (k:K),aV (fA i Xs++r) (.t s)=some k→(∃X,Xs[s - i]? =some X∧k= .v X∧i≤s∧s<i+Xs.length)∨aV r (.t s)=some k
 |i,[],r,s,k,h=> .inr h
 |i,X::Xs,r,s,k,h=>by
  simp only[fA,List.cons_append,aV] at h
  split at h
  · rename_i e;cases e;cases h;exact .inl ⟨X,by simp,rfl,aX8 _,by simp⟩
  · rcases uI (i+1) Xs r s k h with⟨Y,h1,h2,h3,h4⟩|h
    · refine .inl ⟨Y,?_,h2,by omega,by simp;omega⟩
      rw[show s - i=(s - (i+1))+1 by omega,List.getElem?_cons_succ];exact h1
    · exact .inr h
def rW (l:List (Nat×K)):St:=l.map fun p=>(.o p.1,p.2)
def aH2 (rl:List (Nat×Nat)):C→C
 | .own o n=> .own (kS rl o) n
 | .pt o k=> .pt (kS rl o) k
 | .pe o n i k=> .pe (kS rl o) n i k
 | .z o Q=> .z (kS rl o) Q
 |c=>c
def aLn (rl:List (Nat×Nat)):E→E
 | .c x=> .c (aH2 rl x)
 | .agg cs=> .agg (cs.map (aH2 rl))
def aH3 (rl:List (Nat×Nat)):V→V
 | .e x=> .e (aLn rl x)
 | .tup xs=> .tup (xs.map (aLn rl))
def aDh (rl:List (Nat×Nat)):K→K
 | .v x=> .v (aH3 rl x)
 | .box ty cs=> .box ty (cs.map (aH2 rl))
 | .row e es rows=> .row e es rows
 | .dead=> .dead
 | .cv s want b x=> .cv s want b (aH3 rl x)
 | .zone Z=> .zone Z
def wA (rl:List (Nat×Nat)):St→List (dK×K)
 | []=>[]
 |(.o j,k)::r=>(.o (kS rl j),aDh rl k)::wA rl r
 |_::r=>wA rl r
def pN (σin σout:St):List Nat:=(cE σin).filter fun j=> !iS j (cE σout)
def kU (σin σout:St):List Nat:=(cE σout).filter fun j=> !iS j (cE σin)
def zB (rl:List (Nat×Nat)) (σin σout:St):List (dK×K):=wA rl σout++(pN σin σout).map fun j=>(.o (kS rl j),.dead)
def aAh (rl:List (Nat×Nat)) (σout:St):Option Tmp→List (dK×K)
 |some d=>[(.t d,match aV σout (.t 0) with|some (.v X)=> .v (aH3 rl X)|_=> .dead)]
 |none=>[]
def ri (Ra:List (dK×Option K)) (robj:List (Nat×K)) (rl:List (Nat×Nat)) (σin σout:St):List (dK×Option K):=
 Ra++robj.map (fun p=>(.o p.1,some p.2))++(kU σin σout).map fun j=>(.o (kS rl j),none)
def uE (rl:List (Nat×Nat)) (σin σout:St) (d:Option Tmp):List (dK×K):=zB rl σin σout++aAh rl σout d
def aDi:D→Prop
 | .sl rows=>rows=[]
 |_=>True
def ka:C→Prop
 | .d x=>aDi x
 | .rp _=>False
 |_=>True
def uf:E→Prop
 | .c x=>ka x
 | .agg cs=> ∀c∈cs,ka c
def ug:V→Prop
 | .e x=>uf x
 | .tup xs=> ∀x∈xs,uf x
def kb:K→Prop
 | .v x=>ug x
 | .box _ cs=> ∀c∈cs,ka c
 | .row _ _ rows=> ∀r∈rows,∀d∈r,aDi d
 | .dead=>True
 | .cv _ _ _ x=>ug x
 | .zone Z=> ∀(w:World) (S S':Nat→Prop) (p:Value),Z.R w S p→Z.R w S' p
def nV (σ:St):Prop:= ∀p∈σ,kb p.2
theorem DR.scalar {w w':World} {S S':Nat→Prop} {x:D} {v:Value} (hx:aDi x) (h:DR w S x v):DR w' S' x v:=by
 cases h with
 |i n=>exact .i n
 |u n=>exact .u n
 |b n=>exact .b n
 |s n=>exact .s n
 |x v hv=>exact .x v hv
 |sl rows a cap es ad u hc hm he ha h1 hd=>
  have hx:rows=[]:=hx
  subst hx
  exact .sl [] a cap es ad u hc hm (by simp) (by simp) (by simp) (by simp)
theorem aN9 {L:List (dK×K)} {l:dK} {k:K} (hn: (L.map (·.1)).Nodup) (h: (l,k)∈L):wr L l=some k:=by
 induction L with
 |nil=>cases h
 |cons p r ih=>
  simp only[List.map_cons,List.nodup_cons] at hn
  unfold wr
  rcases List.mem_cons.1 h with rfl|h
  · rw[yV hn.1,aC rfl]
  · rw[ih hn.2 h]
theorem rj: ∀{l:List Nat},vE l=true→l.Nodup
 | [],_=>List.nodup_nil
 |x::r,h=>by
  simp only[vE,aX3,Bool.not_eq_true'] at h
  exact List.nodup_cons.2 ⟨(fun hm=>by rw[iF.2 hm] at h;cases h.1),rj h.2⟩
theorem zC (rl:List (Nat×Nat)): ∀(σ:St),(wA rl σ).map (·.1)=(cE σ).map fun j=>dK.o (kS rl j)
 | []=>rfl
 |(.o j,k)::r=>by simp[wA,cE,zC rl r]
 |(.t s,k)::r=>by simp[wA,cE,zC rl r]
theorem cg {rl:List (Nat×Nat)}: ∀{σ:St} {j:Nat} {k:K},(dK.o j,k)∈σ→(dK.o (kS rl j),aDh rl k)∈wA rl σ
 |(.o i,x)::r,j,k,h=>by
  rcases List.mem_cons.1 h with h|h
  · cases h;exact List.mem_cons_self ..
  · exact List.mem_cons_of_mem _ (cg h)
 |(.t s,x)::r,j,k,h=>by
  rcases List.mem_cons.1 h with h|h
  · cases h
  · exact cg (σ:=r) h
def kX (rl:List (Nat×Nat)) (σin σout:St):Bool:=vE ((cE σout++pN σin σout).map (kS rl))&&sT 1 σout
section
variable {rl:List (Nat×Nat)} {σ σin σout:St}
theorem og: (zB rl σin σout).map (·.1)=((cE σout++pN σin σout).map (kS rl)).map dK.o:=by
 simp[zB,zC,Function.comp_def]
theorem vg (h:kX rl σin σout=true): ((zB rl σin σout).map (·.1)).Nodup:=by
 simp only[kX,aX3] at h
 rw[og]
 have:=rj h.1
 rw[List.nodup_iff_pairwise_ne] at this ⊢
 exact List.Pairwise.map _ (fun a b hab e=>hab (by cases e;rfl)) this
theorem qS (h:kX rl σin σout=true) {j:Nat} {k:K} (hj:aV σout (.o j)=some k):aV (iP σ (zB rl σin σout)) (.o (kS rl j))=some (aDh rl k):=by
 rw[lW,aN9 (vg h) (List.mem_append_left _ (cg (vD hj)))]
theorem aLo (h:kX rl σin σout=true) {j:Nat} (hj:j∈pN σin σout):aV (iP σ (zB rl σin σout)) (.o (kS rl j))=some .dead:=by
 rw[lW,aN9 (vg h) (List.mem_append_right _ (aYc.2 ⟨j,hj,rfl⟩))]
theorem aH4 {o:Nat} (ho: ∀j,j∈cE σout∨j∈pN σin σout→kS rl j≠o):aV (iP σ (zB rl σin σout)) (.o o)=aV σ (.o o):=by
 rw[lW,yV]
 rw[og]
 intro hm
 obtain⟨x,hx,e⟩:=aYc.1 hm
 cases e
 obtain⟨j,hj,rfl⟩:=aYc.1 hx
 exact ho j (List.mem_append.1 hj) rfl
theorem aLp (s:Nat):aV (iP σ (zB rl σin σout)) (.t s)=aV σ (.t s):=by
 rw[lW,yV]
 rw[og]
 intro hm
 obtain⟨x,hx,e⟩:=aYc.1 hm
 cases e
def pF (rl:List (Nat×Nat)) (σout:St) (ι' ι:Nat→Value) (o:Nat):Value:=
 match(cE σout).find? fun j=>kS rl j==o with
 |some j=>ι' j
 |none=>ι o
theorem xZ (h:kX rl σin σout=true) {ι' ι:Nat→Value} {j:Nat} (hj:j∈cE σout):pF rl σout ι' ι (kS rl j)=ι' j:=by
 unfold pF
 cases hq: (cE σout).find? fun i=>kS rl i==kS rl j with
 |none=>
  have:=List.find?_eq_none.1 hq j hj
  simp at this
 |some i=>
  have h1:=List.find?_some hq
  have h2:=List.mem_of_find?_eq_some hq
  simp only[kX,aX3] at h
  have:=gz h.1 i (List.mem_append_left _ h2) j (List.mem_append_left _ hj) (by simpa using h1)
  rw[this]
theorem aFi {ι' ι:Nat→Value} {o:Nat} (ho: ∀j,j∈cE σout→kS rl j≠o):pF rl σout ι' ι o=ι o:=by
 unfold pF
 cases hq: (cE σout).find? fun i=>kS rl i==o with
 |none=>rfl
 |some i=>exact absurd (by simpa using List.find?_some hq) (ho i (List.mem_of_find?_eq_some hq))
theorem aH5 (h:kX rl σin σout=true) {ι' ι:Nat→Value} {S' S'':Nat→Prop} {w':World} {c:C} {v:Value} (hS: (∀b,S' b→S'' b)∨ka c) (hc:CR σout ι' w' S' c v):
 CR (iP σ (zB rl σin σout)) (pF rl σout ι' ι) w' S'' (aH2 rl c) v:=by
 cases c with
 |d x=>
  rcases hS with hS|hS
  · exact DR.mono hS (fun _ _=>rfl) hc
  · exact DR.scalar hS hc
 |nil=>exact hc
 |own o n=>
  obtain⟨h1,h2⟩:=hc
  refine⟨h1,?_⟩
  rcases h2 with⟨e,es,rows,hl,hn,hv⟩|hl
  · exact .inl ⟨e,es,rows,qS h hl,hn,fun hh=>by rw[xZ h (fN hl)];exact hv hh⟩
  · exact .inr (qS h hl)
 |pt o k=>
  obtain⟨h1,h2⟩:=hc
  refine⟨h1,?_⟩
  rcases h2 with⟨ty,cs,hl,b,hi,hv⟩|hl
  · exact .inl ⟨ty,_,qS h hl,b,by rw[xZ h (fN hl)];exact hi,hv⟩
  · exact .inr (qS h hl)
 |pe o n i k=>
  obtain⟨h1,h2⟩:=hc
  refine⟨h1,?_⟩
  rcases h2 with⟨e,es,rows,hl,hn,hv⟩|hl
  · exact .inl ⟨e,es,rows,qS h hl,hn,fun hh=>by rw[xZ h (fN hl)];exact hv hh⟩
  · exact .inr (qS h hl)
 |z o Q=>
  obtain⟨h1,h2⟩:=hc
  refine⟨h1,?_⟩
  rcases h2 with⟨Z,hl,hq⟩|hl
  · exact .inl ⟨Z,qS h hl,fun p hp=>hq p (by rw[xZ h (fN hl)] at hp;exact hp)⟩
  · exact .inr (qS h hl)
 |rp cs=>
  rcases hS with hS|hS
  · obtain⟨ad,hv,hk⟩:=hc
    exact⟨ad,hv,fun k d hd=>by
     obtain⟨q1,u,q2,q3⟩:=hk k d hd
     exact⟨hS _ q1,u,q2,DR.mono hS (fun _ _=>rfl) q3⟩⟩
  · exact hS.elim
theorem aOa (h:kX rl σin σout=true) {ι' ι:Nat→Value} {S' S'':Nat→Prop} {w':World} {c:E} {v:Value} (hS: (∀b,S' b→S'' b)∨uf c) (hc:ER σout ι' w' S' c v):
 ER (iP σ (zB rl σin σout)) (pF rl σout ι' ι) w' S'' (aLn rl c) v:=by
 cases c with
 |c x=>exact aH5 h hS hc
 |agg cs=>
  obtain⟨vs,hv,hl,hk⟩:=hc
  refine⟨vs,hv,by simp[hl],fun k c u hc' hu=> ?_⟩
  rw[List.getElem?_map] at hc'
  cases hq:cs[k]? with
  |none=>rw[hq] at hc';cases hc'
  |some c0=>
   rw[hq] at hc';cases hc'
   exact aH5 h (hS.imp id fun hs=>hs c0 (List.mem_of_getElem? hq)) (hk k c0 u hq hu)
theorem aKd (h:kX rl σin σout=true) {ι' ι:Nat→Value} {S' S'':Nat→Prop} {w':World} {c:V} {v:Value} (hS: (∀b,S' b→S'' b)∨ug c) (hc:mI σout ι' w' S' c v):
 mI (iP σ (zB rl σin σout)) (pF rl σout ι' ι) w' S'' (aH3 rl c) v:=by
 cases c with
 |e x=>exact aOa h hS hc
 |tup cs=>
  obtain⟨vs,hv,hl,hk⟩:=hc
  refine⟨vs,hv,by simp[hl],fun k c u hc' hu=> ?_⟩
  rw[List.getElem?_map] at hc'
  cases hq:cs[k]? with
  |none=>rw[hq] at hc';cases hc'
  |some c0=>
   rw[hq] at hc';cases hc'
   exact aOa h (hS.imp id fun hs=>hs c0 (List.mem_of_getElem? hq)) (hk k c0 u hq hu)
theorem aUs (h:kX rl σin σout=true) {ι' ι:Nat→Value} {S' S'':Nat→Prop} {w':World} {k:K} {p:Value} (hS: (∀b,S' b→S'' b)∨kb k) (hc:OR σout ι' w' S' p k):
 OR (iP σ (zB rl σin σout)) (pF rl σout ι' ι) w' S'' p (aDh rl k):=by
 cases k with
 |v x=>trivial
 |dead=>trivial
 |cv _ _ _ _=>trivial
 |zone Z=>
  rcases hS with hS|hS
  · exact Z.mono hS (fun _ _=>rfl) (fun _ _=>rfl) hc
  · exact hS _ _ _ _ hc
 |box ty cs=>
  obtain⟨b,vs,hp,hh,hsz,hk⟩:=hc
  refine⟨b,vs,hp,hh,by simp[hsz],fun k c u hc' hu=> ?_⟩
  rw[List.getElem?_map] at hc'
  cases hq:cs[k]? with
  |none=>rw[hq] at hc';cases hc'
  |some c0=>
   rw[hq] at hc';cases hc'
   exact aH5 h (hS.imp id fun hs=>hs c0 (List.mem_of_getElem? hq)) (hk k c0 u hq hu)
 |row e es rows=>
  rcases hc with hn|⟨g,off,cap,cur,fz,hp,hh,hfz,h1,h2,h3,h4⟩
  · exact .inl hn
  · refine .inr ⟨g,off,cap,cur,fz,hp,hh,hfz,h1,h2,h3,fun i r hr=>⟨(h4 i r hr).1,fun k d hd=> ?_⟩⟩
    obtain⟨u,hu,hdr⟩:=(h4 i r hr).2 k d hd
    refine⟨u,hu,?_⟩
    rcases hS with hS|hS
    · exact DR.mono hS (fun _ _=>rfl) hdr
    · exact DR.scalar (hS r (List.mem_of_getElem? hr) d (List.mem_of_getElem? hd)) hdr
end
set_option linter.unusedSimpArgs false
theorem ib {l:List (Nat×K)} {o:Nat} {k:K} (h:aV (rW l) (.o o)=some k): (o,k)∈l:=by
 induction l with
 |nil=>cases h
 |cons p r ih=>
  obtain⟨i,x⟩:=p
  simp only[rW,List.map_cons,aV] at h
  split at h
  · rename_i e;cases e;cases h;exact List.mem_cons_self ..
  · exact List.mem_cons_of_mem _ (ih h)
theorem aDj {l:List (Nat×K)} {s:Nat}:aV (rW l) (.t s)=none:=by
 induction l with
 |nil=>rfl
 |cons p r ih=>simp only[rW,List.map_cons,aV];rw[aB (by simp)];exact ih
theorem vG {Xs:List V} {r:List (Nat×K)} {s:Nat} {k:K} (h:aV (fA 0 Xs++rW r) (.t s)=some k): ∃X,Xs[s]? =some X∧k= .v X:=by
 rcases uI 0 Xs (rW r) s k h with⟨X,h1,h2,_,_⟩|h
 · exact⟨X,by simpa using h1,h2⟩
 · rw[aDj] at h;cases h
theorem bf {Xs:List V} {σ:St} {s:Nat} {k:K} (h:aV (fA 0 Xs++eH σ) (.t s)=some k): ∃X,Xs[s]? =some X∧k= .v X:=by
 have hlt: ∀(r:St),aV (eH r) (.t s)=none:=by
  intro r
  induction r with
  |nil=>rfl
  |cons p r ih=>
   obtain⟨l,k'⟩:=p
   cases l with
   |t n=>exact ih
   |o n=>simp only[eH,aV];rw[aB (by simp)];exact ih
 rcases uI 0 Xs (eH σ) s k h with⟨X,h1,h2,_,_⟩|h
 · exact⟨X,by simpa using h1,h2⟩
 · rw[hlt] at h;cases h
theorem aLq {rl:List (Nat×Nat)} {k:K}: (aDh rl k).live↔k.live:=by cases k<;>simp[aDh,K.live]
theorem aQh {rl:List (Nat×Nat)} {p q:Value} {k k':K} (h:nU p q k k'):nU p q k (aDh rl k'):=by
 cases k<;>cases k'<;>simp only[nU,aDh] at h ⊢ <;>exact h
theorem ci {j:Nat} {l l':List Nat}:j∈(l.filter fun i=> !iS i l')↔j∈l∧j∉l':=by
 rw[List.mem_filter]
 refine and_congr_right fun _=> ?_
 rw[Bool.not_eq_true',← Bool.not_eq_true,iF]
section
variable {P:Program} {f:FuncId} {n:Nat} {σin σout:St} {rl:List (Nat×Nat)} {bor:List Nat} {σ0:St} {Xs:List V} {Ra:List (dK×Option K)} {robj:List (Nat×K)}
theorem aKe (hm:pE (fA 0 Xs++rW robj) σin rl bor) (hk:kX rl σin σout=true) (hb:bor=[]∨nV σout)
 {P:Program} {cx:Cx P} {σ:St} {ι ν:Nat→Value} {S:Nat→Prop} {a:Act} {w:World} (hr:bV (ri Ra robj rl σin σout) σ) (hw:RW cx σ ι S a w)
 (hνr: ∀s X,Xs[s]? =some X→mI σ ι w S X (ν s))
 {ι':Nat→Value} {S':Nat→Prop} {w':World} {v:Value} (hp:aN8 σin (fun j=>ι (kS rl j)) (qQ (fA 0 Xs++eH σ) ι bor S) w σout ι' S' w' v):
 RW cx (iP σ (zB rl σin σout)) (pF rl σout ι' ι) (fun b=>S b∨(bor=[]∧S' b)) a w':=by
 have hlo: ∀o,aV (fA 0 Xs++eH σ) (.o o)=aV σ (.o o):=fun o=>by rw[lK,qR]
 have hmut: ∀o b,lJ (fA 0 Xs++eH σ) ι o b↔lJ σ ι o b:=fun o b=>by unfold lJ;rw[hlo]
 have hobj: ∀o k,aV (fA 0 Xs++rW robj) (.o o)=some k→aV σ (.o o)=some k:=fun o k h=>by
  rw[lK] at h
  have hmem:=ib h
  exact hr (.o o,some k) (List.mem_append_left _ (List.mem_append_right _ (aYc.2 ⟨(o,k),hmem,rfl⟩)))
 have hsub: ∀l k,aV (fA 0 Xs++rW robj) l=some k→aV (fA 0 Xs++eH σ) l=some k:=fun l k h=>by
  cases l with
  |o o=>rw[hlo];exact hobj o k h
  |t s=>
   obtain⟨X,h1,rfl⟩:=vG h
   have hs:=(aYa.1 h1).1
   rw[pX 0 Xs _ s (aX5 _) (by omega)];simp[h1]
 have hin: ∀j k',aV σin (.o j)=some k'→ ∃k,aV σ (.o (kS rl j))=some k∧mK (fA 0 Xs++rW robj) σin rl bor k k':=fun j k' h=>by
  obtain⟨k,h1,h2⟩:=hm.ids j k' h
  exact⟨k,hobj _ _ h1,h2⟩
 have hmin: ∀j b,lJ σin (fun j=>ι (kS rl j)) j b→lJ σ ι (kS rl j) b:=fun j b h=>(hmut _ _).1 (hm.mut hsub h)
 have hmlt: ∀o b,lJ σ ι o b→b<w.heap.size:=fun o b ⟨⟨k0,hk,hl⟩,hb⟩=>OR.lt (hw.vr.objs o k0 hk) hl hb
 have hnew: ∀j,j∈cE σout→j∈cE σin∨aV σ (.o (kS rl j))=none:=fun j hj=>by
  by_cases h:j∈cE σin
  · exact .inl h
  · exact .inr (hr (.o (kS rl j),none) (List.mem_append_right _ (aYc.2 ⟨j,ci.2 ⟨hj,h⟩,rfl⟩)))
 have hall: ∀j,j∈cE σin→j∈cE σout∨j∈pN σin σout:=fun j hj=>by
  by_cases h:j∈cE σout
  · exact .inl h
  · exact .inr (ci.2 ⟨hj,h⟩)
 have hgive:bor=[]→ ∀b,qQ (fA 0 Xs++eH σ) ι bor S b→S b:=fun e b h=>by
  rcases h with h|⟨o,ho,_⟩
  · exact h
  · rw[e] at ho;cases ho
 have cases_: ∀o,(∃j,j∈cE σout∧kS rl j=o∧pF rl σout ι' ι o=ι' j∧ ∃k,aV σout (.o j)=some k∧aV (iP σ (zB rl σin σout)) (.o o)=some (aDh rl k))∨
  aV (iP σ (zB rl σin σout)) (.o o)=some .dead∨
  ((∀j,j∈cE σout∨j∈pN σin σout→kS rl j≠o)∧aV (iP σ (zB rl σin σout)) (.o o)=aV σ (.o o)∧pF rl σout ι' ι o=ι o):=fun o=>by
  by_cases h1: ∃j,j∈cE σout∧kS rl j=o
  · obtain⟨j,hj,rfl⟩:=h1
    obtain⟨k,hkk⟩:=qP hj
    exact .inl ⟨j,hj,rfl,xZ hk hj,k,hkk,qS hk hkk⟩
  · by_cases h2: ∃j,j∈pN σin σout∧kS rl j=o
    · obtain⟨j,hj,rfl⟩:=h2
      exact .inr (.inl (aLo hk hj))
    · have hne: ∀j,j∈cE σout∨j∈pN σin σout→kS rl j≠o:=fun j hj e=>by
       rcases hj with hj|hj
       · exact h1 ⟨j,hj,e⟩
       · exact h2 ⟨j,hj,e⟩
      exact .inr (.inr ⟨hne,aH4 hne,aFi fun j hj=>hne j (.inl hj)⟩)
 have keepB: ∀b,b<w.heap.size→(∀j,¬lJ σin (fun j=>ι (kS rl j)) j b)→w'.heap[b]? =w.heap[b]?:=fun b hb hn=>hp.fr.block b hb fun⟨j,hj⟩=>hn j hj
 have st:rS σ ι S w (iP σ (zB rl σin σout)) (pF rl σout ι' ι) (fun b=>S b∨(bor=[]∧S' b)) w':=by
  refine⟨fun b h=> .inl h,fun b h=>keepB b (hw.vr.sz b h) fun j hj=>hw.vr.mutS _ b (hmin j b hj) h,fun o k hko=> ?_⟩
  rcases cases_ o with⟨j,hj,e,hι,kout,h1,h2⟩|h2|⟨hne,h2,hι⟩
  · refine⟨_,h2,?_⟩
    rw[hι]
    subst e
    rcases hnew j hj with hji|hab
    · obtain⟨kin,hkin⟩:=qP hji
      obtain⟨k1,hk1,hmk⟩:=hin j kin hkin
      rw[hko] at hk1;cases hk1
      have hev:=hp.io j kin kout hkin h1
      exact aQh (aUr hmk hev)
    · rw[hab] at hko;cases hko
  · exact⟨_,h2,by cases k<;>simp[nU]⟩
  · exact⟨k,by rw[h2];exact hko,by rw[hι];exact nU.refl' _ _⟩
 have hSK: ∀{l:dK} {k:K},aV σout l=some k→(∀b,S' b→(S b∨(bor=[]∧S' b)))∨kb k:=fun{l k} h=>by
  rcases hb with e|hs
  · exact .inl fun b hb=> .inr ⟨e,hb⟩
  · exact .inr (hs (l,k) (vD h))
 have mutCases: ∀o b,lJ (iP σ (zB rl σin σout)) (pF rl σout ι' ι) o b→(∃j,j∈cE σout∧kS rl j=o∧lJ σout ι' j b∧(w.heap.size≤b∨ ∃j',j'∈cE σin∧lJ σ ι (kS rl j') b))∨((∀j,j∈cE σout∨j∈pN σin σout→kS rl j≠o)∧lJ σ ι o b):=fun o b ⟨⟨k,hko,hl⟩,hbl⟩=>by
  rcases cases_ o with⟨j,hj,e,hι,kout,h1,h2⟩|h2|⟨hne,h2,hι⟩
  · rw[h2] at hko;cases hko
    rw[hι] at hbl
    have hm2:lJ σout ι' j b:=⟨⟨kout,h1,aLq.1 hl⟩,hbl⟩
    refine .inl ⟨j,hj,e,hm2,(hp.own j b hm2).imp id fun⟨o',h⟩=>⟨o',?_,hmin o' b h⟩⟩
    obtain⟨⟨k',hk',_⟩,_⟩:=h
    exact fN hk'
  · rw[h2] at hko;cases hko;exact hl.elim
  · rw[h2] at hko;rw[hι] at hbl
    exact .inr ⟨hne,⟨k,hko,hl⟩,hbl⟩
 refine⟨⟨fun s x hx=> ?_,fun o k hko=> ?_,fun o b hmu hS=> ?_,fun o o' b hmu hmu'=> ?_,fun b hb=> ?_⟩,hw.size,hw.defers,hw.fr.trans hp.fr fun x hx ⟨j,hj⟩=> ?_,fun o b hmu=> ?_,fun b hS=> ?_,fun o k hko=> ?_⟩
 · rw[aLp] at hx
   exact rU.step st (hw.vr.slots s x hx)
 · rcases cases_ o with⟨j,hj,e,hι,kout,h1,h2⟩|h2|⟨hne,h2,hι⟩
   · rw[h2] at hko;cases hko
     rw[hι]
     exact aUs hk (hSK h1) (hp.vr.objs j kout h1)
   · rw[h2] at hko;cases hko;trivial
   · rw[h2] at hko;rw[hι]
     by_cases hl:k.live
     · refine OR.step st (fun b hb=> ?_) (hw.vr.objs o k hko)
       have hmu:lJ σ ι o b:=⟨⟨k,hko,hl⟩,hb⟩
       refine keepB b (hmlt o b hmu) fun j hj=> ?_
       have:=hw.vr.inj _ _ b (hmin j b hj) hmu
       obtain⟨⟨k',hk',_⟩,_⟩:=hj
       exact hne j (hall j (fN hk')) this
     · cases k<;>simp[K.live] at hl<;>trivial
 · rcases mutCases o b hmu with⟨j,hj,e,hm2,hown⟩|⟨hne,hm2⟩
   · rcases hS with hS|⟨_,hS⟩
     · rcases hown with h|h
       · have:=hw.vr.sz b hS;omega
       · obtain⟨j',_,h⟩:=h;exact hw.vr.mutS _ b h hS
     · exact hp.vr.mutS j b hm2 hS
   · rcases hS with hS|⟨e,hS⟩
     · exact hw.vr.mutS o b hm2 hS
     · rcases hp.rd b hS with h|h|⟨o',h⟩
       · exact hw.vr.mutS o b hm2 (hgive e b h)
       · have:=hmlt o b hm2;omega
       · have h1:=hw.vr.inj _ _ b (hmin o' b h) hm2
         obtain⟨⟨k',hk',_⟩,_⟩:=h
         exact hne o' (hall o' (fN hk')) h1
 · rcases mutCases o b hmu with⟨j,hj,e,hm2,hown⟩|⟨hne,hm2⟩
   · rcases mutCases o' b hmu' with⟨j',hj',e',hm2',hown'⟩|⟨hne',hm2'⟩
     · rw[← e,← e',hp.vr.inj j j' b hm2 hm2']
     · rcases hown with h|⟨j2,hj2,h⟩
       · have:=hmlt o' b hm2';omega
       · exact absurd (hw.vr.inj _ _ b h hm2') (hne' j2 (hall j2 hj2))
   · rcases mutCases o' b hmu' with⟨j',hj',e',hm2',hown'⟩|⟨hne',hm2'⟩
     · rcases hown' with h|⟨j2,hj2,h⟩
       · have:=hmlt o b hm2;omega
       · exact absurd (hw.vr.inj _ _ b h hm2) (hne j2 (hall j2 hj2))
     · exact hw.vr.inj o o' b hm2 hm2'
 · rcases hb with h|⟨_,h⟩
   · exact Nat.lt_of_lt_of_le (hw.vr.sz b h) hp.fr.size
   · exact hp.vr.sz b h
 · rcases hw.own _ x (hmin j x hj) with h|h
   · omega
   · exact h
 · rcases mutCases o b hmu with⟨j,hj,e,hm2,hown⟩|⟨hne,hm2⟩
   · rcases hown with h|h
     · exact .inl (Nat.le_trans hw.fr.size h)
     · obtain⟨j2,_,h⟩:=h;exact hw.own _ b h
   · exact hw.own o b hm2
 · rcases hS with h|⟨e,h⟩
   · exact hw.rd b h
   · rcases hp.rd b h with h|h|⟨o',h⟩
     · exact hw.rd b (hgive e b h)
     · exact .inr (.inl (Nat.le_trans hw.fr.size h))
     · exact .inr (hw.own _ b (hmin o' b h))
 · obtain⟨k',hk',hev⟩:=hw.io o k hko
   obtain⟨k2,hk2,hev2⟩:=st.evo o k' hk'
   exact⟨k2,hk2,hev.trans hev2⟩
theorem qG (σ:St) (W W':List (dK×K)):iP σ (W++W')=iP (iP σ W) W':=by
 induction W generalizing σ with
 |nil=>rfl
 |cons p r ih=>exact ih _
theorem aFj (hs:Spec P f n σin σout) {o:Oper} {c:Call} (ho:o.op= .call c) (hc:c.callee= .value (.func f)) (hx:evA σ0 c.args.toList=some (Xs,Ra)) (hn:Xs.length=n)
 (hm:pE (fA 0 Xs++rW robj) σin rl bor) (hk:kX rl σin σout=true) (hb:bor=[]∨nV σout):
 vW P o (ri Ra robj rl σin σout) (uE rl σin σout o.dst):=by
 intro cx σ ι S a w hr hw hd next Q hnext
 obtain⟨⟨fn,hf,hbody,hname⟩,hcall⟩:=hs
 obtain⟨hlen,hargs⟩:=oe hw hx hr.left.left
 let args:Array Value:=c.args.map a.eval
 let ν:Nat→Value:=fun i=>(args[i]?).getD undef
 have hsz:args.size=n:=by show(c.args.map a.eval).size=n;rw[Array.size_map,← hn,hlen,Array.length_toList]
 have hargν: ∀i,i<n→args[i]? =some (ν i):=fun i hi=>by
  show args[i]? =some ((args[i]?).getD undef)
  rw[Array.getElem?_eq_getElem (by omega)];rfl
 have hνr: ∀s X,Xs[s]? =some X→mI σ ι w S X (ν s):=fun s X hX=>by
  obtain⟨x,h1,h2⟩:=hargs s X hX
  have:ν s=a.eval x:=by
   show((c.args.map a.eval)[s]?).getD undef=a.eval x
   rw[Array.getElem?_toList] at h1
   rw[Array.getElem?_map,h1];rfl
  rw[this];exact h2
 have hlo: ∀o,aV (fA 0 Xs++eH σ) (.o o)=aV σ (.o o):=fun o=>by rw[lK,qR]
 have st:rS σ ι S w (fA 0 Xs++eH σ) ι S w:=⟨fun _ h=>h,fun _ _=>rfl,fun o k hk=>⟨k,by rw[hlo];exact hk,nU.refl' _ _⟩⟩
 have hmut: ∀o b,lJ (fA 0 Xs++eH σ) ι o b↔lJ σ ι o b:=fun o b=>by unfold lJ;rw[hlo]
 have hvr0:VR (fA 0 Xs++eH σ) ι ν S w:=by
  refine⟨fun s x hx=> ?_,fun o k hk=>OR.step st (fun _ _=>rfl) (hw.vr.objs o k (by rw[← hlo];exact hk)),fun o b q=>hw.vr.mutS o b ((hmut o b).1 q),fun o o' b q q'=>hw.vr.inj o o' b ((hmut o b).1 q) ((hmut o' b).1 q'),hw.vr.sz⟩
  obtain⟨X,h1,h2⟩:=bf hx
  cases h2
  exact mI.step st (hνr s _ h1)
 have hsub: ∀l k,aV (fA 0 Xs++rW robj) l=some k→aV (fA 0 Xs++eH σ) l=some k:=fun l k h=>by
  cases l with
  |o o=>
   rw[hlo]
   rw[lK] at h
   exact hr (.o o,some k) (List.mem_append_left _ (List.mem_append_right _ (aYc.2 ⟨(o,k),ib h,rfl⟩)))
  |t s=>
   obtain⟨X,h1,rfl⟩:=vG h
   have hs:=(aYa.1 h1).1
   rw[pX 0 Xs _ s (aX5 _) (by omega)];simp[h1]
 have hvr1:=vF hm hsub hvr0
 have hgb:GB P w fun b=> ∃o,lJ σin (fun j=>ι (kS rl j)) o b:=fun w2 h2=>cx.gb w2 (hw.fr.trans h2 fun x hx ⟨o,ho⟩=>by
  rcases hw.own _ x ((hmut _ _).1 (hm.mut hsub ho)) with h3|h3
  · omega
  · exact h3)
 have hcl:=hcall _ ν _ w args hgb hvr1 hsz hargν
 obtain⟨callee,cargs,argTypes⟩:=c
 dsimp only at hc
 subst hc
 have hbd: ∃cd,fn.body=some cd:=by
  cases hq:fn.body with
  |none=>rw[hq] at hbody;cases hbody
  |some cd=>exact⟨cd,rfl⟩
 obtain⟨cd,hbd⟩:=hbd
 have hrun: (execOp a.eval o).run P w= .ok (.enter f args) w:=by
  have h1:=MuLone.run_callFunc_enter (P:=P) hf hname hbd args w
  have e: (execOp a.eval o).run P w=(callFunc f (args++ #[])).run P w:=by
   simp[execOp,ho,resolve,invoke,Deferred.ofValue,args,Act.eval]
  rw[e,Array.append_empty];exact h1
 unfold Oper.wp
 rw[hrun,Oper.upon_enter]
 intro cs
 obtain⟨e,w',fr,⟨v,ι',S',rfl,hpost⟩,hcomes⟩:=hcl cs
 refine⟨_,w',fr,?_,hcomes⟩
 dsimp only
 have hrw:=aKe (Ra:=Ra) hm hk hb hr hw hνr hpost
 have hSK: ∀{l:dK} {k:K},aV σout l=some k→(∀b,S' b→(S b∨(bor=[]∧S' b)))∨kb k:=fun{l k} h=>by
  rcases hb with e|hs
  · exact .inl fun b hb=> .inr ⟨e,hb⟩
  · exact .inr (hs (l,k) (vD h))
 cases hdst:o.dst with
 |none=>
  refine hnext (pF rl σout ι' ι) (fun b=>S b∨(bor=[]∧S' b)) _ w' ?_
  rw[hdst]
  simp only[uE,aAh,List.append_nil]
  exact hrw
 |some d=>
  have hd':=hd d hdst
  cases hq:aV σout (.t 0) with
  |none=>
   refine hnext (pF rl σout ι' ι) (fun b=>S b∨(bor=[]∧S' b)) _ w' ?_
   rw[hdst]
   simp only[uE,aAh,qG,hq,iP]
   exact hrw.putDead hd' v
  |some k=>
   cases k with
   |v X=>
    refine hnext (pF rl σout ι' ι) (fun b=>S b∨(bor=[]∧S' b)) _ w' ?_
    rw[hdst]
    simp only[uE,aAh,qG,hq,iP]
    exact hrw.put hd' (aKd hk (hSK hq) (hpost.vr.slots 0 (.v X) hq))
   |_=>
    refine hnext (pF rl σout ι' ι) (fun b=>S b∨(bor=[]∧S' b)) _ w' ?_
    rw[hdst]
    simp only[uE,aAh,qG,hq,iP]
    exact hrw.putDead hd' v
theorem aH6 {σ:St} {c:List Operand} (hx:evA σ c=some (Xs,Ra)) (h1: ∀p∈robj,aV σ (.o p.1)=some p.2) (h2: ∀j∈kU σin σout,aV σ (.o (kS rl j))=none):bV (ri Ra robj rl σin σout) σ:=by
 intro p hp
 rcases List.mem_append.1 hp with hp|hp
 · rcases List.mem_append.1 hp with hp|hp
   · exact uW hx p hp
   · obtain⟨q,hq,rfl⟩:=aYc.1 hp
     exact h1 q hq
 · obtain⟨j,hj,rfl⟩:=aYc.1 hp
   exact h2 j hj
end
end Go.Ab
namespace Go.Proofs.YtmabaopgkimfmaaGreatDoor
open Int renaming toNat_natCast→aXy
open List renaming length_append→aXz,length_cons→aX1,length_nil→aX2,length_take→aX4,getD_eq_getElem?_getD→aX6,length_drop→aX7,getElem?_eq_getElem→aX9,getElem?_eq_some_iff→aYa,range→aYb,mem_map→aYc,all_eq_true→aYd,take_length→aYe
open Nat renaming le_of_ble_eq_true→aX0,zero_le→aX5,le_refl→aX8
open Bool renaming and_eq_true→aX3
open Go Go.Ab Go.RowKit
set_option linter.unusedVariables false
abbrev ti2:TI:=⟨.int .i64,1,8,[.d (.i 0)]⟩
abbrev ti3:TI:=⟨.int .i64,1,8,[.d (.i 0)]⟩
abbrev ti4:TI:=⟨.bool,1,1,[.d (.b false)]⟩
abbrev ti5:TI:=⟨.int .u8,1,1,[.d (.u 0)]⟩
abbrev ti6:TI:=⟨.int .u8,1,1,[.d (.u 0)]⟩
abbrev ti7:TI:=⟨.st [(0,2),(1,3),(2,4),(3,6)],4,24,[.d (.i 0),.d (.i 0),.d (.b false),.d (.u 0)]⟩
abbrev ti8:TI:=⟨.st [(0,2),(1,3),(2,4),(3,6)],4,24,[.d (.i 0),.d (.i 0),.d (.b false),.d (.u 0)]⟩
abbrev ti9:TI:=⟨.str,1,16,[.d (.s [])]⟩
abbrev aWh:TI:=⟨.str,1,16,[.d (.s [])]⟩
abbrev aWi:TI:=⟨.str,1,16,[.d (.s [])]⟩
abbrev aWj:TI:=⟨.int .u64,1,8,[.d (.x (.int .u64 0))]⟩
abbrev aWk:TI:=⟨.st [(0,9),(1,12)],2,24,[.d (.s []),.d (.x (.int .u64 0))]⟩
abbrev aWl:TI:=⟨.st [(0,9),(1,12)],2,24,[.d (.s []),.d (.x (.int .u64 0))]⟩
abbrev aWm:TI:=⟨.ptr 278,1,8,[.d (.x (.pointer none))]⟩
abbrev aWn:TI:=⟨.ptr 281,1,8,[.d (.x (.pointer none))]⟩
abbrev aWo:TI:=⟨.ptr 290,1,8,[.d (.x (.pointer none))]⟩
abbrev aWp:TI:=⟨.st [(0,17)],1,8,[.d (.x (.pointer none))]⟩
abbrev aWq:TI:=⟨.st [(0,17)],1,8,[.d (.x (.pointer none))]⟩
abbrev aWr:TI:=⟨.int .i32,1,4,[.d (.x (.int .i32 0))]⟩
abbrev aWs:TI:=⟨.st [(0,9),(1,3)],2,24,[.d (.s []),.d (.i 0)]⟩
abbrev aWt:TI:=⟨.st [(0,9),(1,3)],2,24,[.d (.s []),.d (.i 0)]⟩
abbrev aWu:TI:=⟨.sl 154,1,24,[.nil]⟩
abbrev aWv:TI:=⟨.st [(0,3),(1,4),(2,23),(4,24)],5,64,[.d (.i 0),.d (.b false),.d (.s []),.d (.i 0),.nil]⟩
abbrev aWw:TI:=⟨.st [(0,3),(1,4),(2,23),(4,24)],5,64,[.d (.i 0),.d (.b false),.d (.s []),.d (.i 0),.nil]⟩
abbrev aWx:TI:=⟨.st [(0,9),(1,3)],2,24,[.d (.s []),.d (.i 0)]⟩
abbrev aWy:TI:=⟨.sl 138,1,24,[.nil]⟩
abbrev aWz:TI:=⟨.st [(0,3),(1,4),(2,28),(4,29)],5,64,[.d (.i 0),.d (.b false),.d (.s []),.d (.i 0),.nil]⟩
abbrev aW0:TI:=⟨.st [(0,3),(1,4),(2,28),(4,29)],5,64,[.d (.i 0),.d (.b false),.d (.s []),.d (.i 0),.nil]⟩
abbrev aW1:TI:=⟨.sl 52,1,24,[.nil]⟩
abbrev aW2:TI:=⟨.sl 162,1,24,[.nil]⟩
abbrev aW3:TI:=⟨.st [(0,3),(1,3),(2,3),(3,41),(4,42),(5,41)],6,96,[.d (.i 0),.d (.i 0),.d (.i 0),.nil,.nil,.nil]⟩
abbrev aW4:TI:=⟨.st [(0,3),(1,3),(2,3),(3,41),(4,42),(5,41)],6,96,[.d (.i 0),.d (.i 0),.d (.i 0),.nil,.nil,.nil]⟩
abbrev aW5:TI:=⟨.st [(0,3),(1,3),(2,3),(3,3),(4,9)],5,48,[.d (.i 0),.d (.i 0),.d (.i 0),.d (.i 0),.d (.s [])]⟩
abbrev aQi:TI:=⟨.st [(0,3),(1,3),(2,3),(3,3),(4,9)],5,48,[.d (.i 0),.d (.i 0),.d (.i 0),.d (.i 0),.d (.s [])]⟩
abbrev aW6:TI:=⟨.st [(0,3),(1,3),(2,3),(3,3),(4,3),(5,3),(6,3),(7,3),(8,3),(9,9)],10,88,[.d (.i 0),.d (.i 0),.d (.i 0),.d (.i 0),.d (.i 0),.d (.i 0),.d (.i 0),.d (.i 0),.d (.i 0),.d (.s [])]⟩
abbrev aW7:TI:=⟨.st [(0,3),(1,3),(2,3),(3,3),(4,3),(5,3),(6,3),(7,3),(8,3),(9,9)],10,88,[.d (.i 0),.d (.i 0),.d (.i 0),.d (.i 0),.d (.i 0),.d (.i 0),.d (.i 0),.d (.i 0),.d (.i 0),.d (.s [])]⟩
abbrev aW8:TI:=⟨.sl 63,1,24,[.nil]⟩
abbrev aW9:TI:=⟨.st [(0,3),(1,3),(2,3),(3,3),(4,3),(5,3),(6,3),(7,3),(8,3),(9,9)],10,88,[.d (.i 0),.d (.i 0),.d (.i 0),.d (.i 0),.d (.i 0),.d (.i 0),.d (.i 0),.d (.i 0),.d (.i 0),.d (.s [])]⟩
abbrev aOb:TI:=⟨.sl 5,1,24,[.nil]⟩
abbrev aXa:TI:=⟨.sl 9,1,24,[.nil]⟩
abbrev aXb:TI:=⟨.sl 86,1,24,[.nil]⟩
abbrev aXc:TI:=⟨.st [(0,3),(1,9)],2,24,[.d (.i 0),.d (.s [])]⟩
abbrev aQj:TI:=⟨.st [(0,3),(1,9)],2,24,[.d (.i 0),.d (.s [])]⟩
abbrev aSy:TI:=⟨.ptr 177,1,8,[.d (.x (.pointer none))]⟩
abbrev aSz:TI:=⟨.sl 31,1,24,[.nil]⟩
abbrev aS0:TI:=⟨.sl 4,1,24,[.nil]⟩
abbrev aS1:TI:=⟨.sl 260,1,24,[.nil]⟩
abbrev aS2:TI:=⟨.st [(0,3),(1,119),(2,120),(3,121),(4,41),(5,41)],6,128,[.d (.i 0),.nil,.nil,.nil,.nil,.nil]⟩
abbrev aS3:TI:=⟨.st [(0,3),(1,119),(2,120),(3,121),(4,41),(5,41)],6,128,[.d (.i 0),.nil,.nil,.nil,.nil,.nil]⟩
abbrev aS4:TI:=⟨.st [(0,3),(1,3),(2,3),(3,3),(4,3),(5,84)],6,64,[.d (.i 0),.d (.i 0),.d (.i 0),.d (.i 0),.d (.i 0),.nil]⟩
abbrev aS5:TI:=⟨.st [(0,3),(1,3),(2,3),(3,3),(4,3),(5,84)],6,64,[.d (.i 0),.d (.i 0),.d (.i 0),.d (.i 0),.d (.i 0),.nil]⟩
abbrev aS6:TI:=⟨.ptr 147,1,8,[.d (.x (.pointer none))]⟩
abbrev aS7:TI:=⟨.sl 204,1,24,[.nil]⟩
abbrev aS8:TI:=⟨.st [(0,117),(1,123),(7,145)],8,160,[.d (.x (.pointer none)),.d (.i 0),.nil,.nil,.nil,.nil,.nil,.nil]⟩
abbrev aS9:TI:=⟨.st [(0,117),(1,123),(7,145)],8,160,[.d (.x (.pointer none)),.d (.i 0),.nil,.nil,.nil,.nil,.nil,.nil]⟩
abbrev aTa:TI:=⟨.sl 222,1,24,[.nil]⟩
abbrev aTb:TI:=⟨.st [(0,3),(1,3),(2,3),(3,3),(4,3),(5,152)],6,64,[.d (.i 0),.d (.i 0),.d (.i 0),.d (.i 0),.d (.i 0),.nil]⟩
abbrev aTc:TI:=⟨.st [(0,3),(1,3),(2,3),(3,3),(4,3),(5,152)],6,64,[.d (.i 0),.d (.i 0),.d (.i 0),.d (.i 0),.d (.i 0),.nil]⟩
abbrev aTd:TI:=⟨.st [(0,3),(1,3),(2,3)],3,24,[.d (.i 0),.d (.i 0),.d (.i 0)]⟩
abbrev aKf:TI:=⟨.st [(0,3),(1,3),(2,3)],3,24,[.d (.i 0),.d (.i 0),.d (.i 0)]⟩
abbrev aTe:TI:=⟨.ptr 138,1,8,[.d (.x (.pointer none))]⟩
abbrev aTf:TI:=⟨.st [(0,68),(1,3)],2,32,[.nil,.d (.i 0)]⟩
abbrev aTg:TI:=⟨.st [(0,68),(1,3)],2,32,[.nil,.d (.i 0)]⟩
abbrev aTh:TI:=⟨.sl 3,1,24,[.nil]⟩
abbrev aTi:TI:=⟨.st [(0,3),(1,3),(2,3),(3,3),(4,3),(5,3),(6,3),(7,3),(8,3),(9,9)],10,88,[.d (.i 0),.d (.i 0),.d (.i 0),.d (.i 0),.d (.i 0),.d (.i 0),.d (.i 0),.d (.i 0),.d (.i 0),.d (.s [])]⟩
abbrev aTj:TI:=⟨.st [(0,3),(1,3),(2,3),(3,3),(4,3),(5,3),(6,3),(7,3),(8,3),(9,9)],10,88,[.d (.i 0),.d (.i 0),.d (.i 0),.d (.i 0),.d (.i 0),.d (.i 0),.d (.i 0),.d (.i 0),.d (.i 0),.d (.s [])]⟩
abbrev aTk:TI:=⟨.arr 6 4,6,6,[.d (.b false),.d (.b false),.d (.b false),.d (.b false),.d (.b false),.d (.b false)]⟩
abbrev aTl:TI:=⟨.st [(0,3),(1,9)],2,24,[.d (.i 0),.d (.s [])]⟩
abbrev aTm:TI:=⟨.arr 24 5,24,24,[.d (.u 0),.d (.u 0),.d (.u 0),.d (.u 0),.d (.u 0),.d (.u 0),.d (.u 0),.d (.u 0),.d (.u 0),.d (.u 0),.d (.u 0),.d (.u 0),.d (.u 0),.d (.u 0),.d (.u 0),.d (.u 0),.d (.u 0),.d (.u 0),.d (.u 0),.d (.u 0),.d (.u 0),.d (.u 0),.d (.u 0),.d (.u 0)]⟩
abbrev aTn:TI:=⟨.int .u64,1,8,[.d (.x (.int .u64 0))]⟩
abbrev aTo:TI:=⟨.arr 20 238,20,160,[.d (.x (.int .u64 0)),.d (.x (.int .u64 0)),.d (.x (.int .u64 0)),.d (.x (.int .u64 0)),.d (.x (.int .u64 0)),.d (.x (.int .u64 0)),.d (.x (.int .u64 0)),.d (.x (.int .u64 0)),.d (.x (.int .u64 0)),.d (.x (.int .u64 0)),.d (.x (.int .u64 0)),.d (.x (.int .u64 0)),.d (.x (.int .u64 0)),.d (.x (.int .u64 0)),.d (.x (.int .u64 0)),.d (.x (.int .u64 0)),.d (.x (.int .u64 0)),.d (.x (.int .u64 0)),.d (.x (.int .u64 0)),.d (.x (.int .u64 0))]⟩
abbrev aTp:TI:=⟨.int .u32,1,4,[.d (.x (.int .u32 0))]⟩
abbrev aTq:TI:=⟨.int .u64,1,8,[.d (.x (.int .u64 0))]⟩
abbrev aTr:TI:=⟨.st [(0,3),(1,3),(2,9),(3,4)],4,40,[.d (.i 0),.d (.i 0),.d (.s []),.d (.b false)]⟩
abbrev aTs:TI:=⟨.st [(0,3),(1,3),(2,9),(3,4)],4,40,[.d (.i 0),.d (.i 0),.d (.s []),.d (.b false)]⟩
abbrev aTt:TI:=⟨.arr 32 5,32,32,[.d (.u 0),.d (.u 0),.d (.u 0),.d (.u 0),.d (.u 0),.d (.u 0),.d (.u 0),.d (.u 0),.d (.u 0),.d (.u 0),.d (.u 0),.d (.u 0),.d (.u 0),.d (.u 0),.d (.u 0),.d (.u 0),.d (.u 0),.d (.u 0),.d (.u 0),.d (.u 0),.d (.u 0),.d (.u 0),.d (.u 0),.d (.u 0),.d (.u 0),.d (.u 0),.d (.u 0),.d (.u 0),.d (.u 0),.d (.u 0),.d (.u 0),.d (.u 0)]⟩
abbrev aTu:TI:=⟨.arr 64 5,64,64,[.d (.u 0),.d (.u 0),.d (.u 0),.d (.u 0),.d (.u 0),.d (.u 0),.d (.u 0),.d (.u 0),.d (.u 0),.d (.u 0),.d (.u 0),.d (.u 0),.d (.u 0),.d (.u 0),.d (.u 0),.d (.u 0),.d (.u 0),.d (.u 0),.d (.u 0),.d (.u 0),.d (.u 0),.d (.u 0),.d (.u 0),.d (.u 0),.d (.u 0),.d (.u 0),.d (.u 0),.d (.u 0),.d (.u 0),.d (.u 0),.d (.u 0),.d (.u 0),.d (.u 0),.d (.u 0),.d (.u 0),.d (.u 0),.d (.u 0),.d (.u 0),.d (.u 0),.d (.u 0),.d (.u 0),.d (.u 0),.d (.u 0),.d (.u 0),.d (.u 0),.d (.u 0),.d (.u 0),.d (.u 0),.d (.u 0),.d (.u 0),.d (.u 0),.d (.u 0),.d (.u 0),.d (.u 0),.d (.u 0),.d (.u 0),.d (.u 0),.d (.u 0),.d (.u 0),.d (.u 0),.d (.u 0),.d (.u 0),.d (.u 0),.d (.u 0)]⟩
abbrev aTv:TI:=⟨.st [(0,5),(1,5)],2,2,[.d (.u 0),.d (.u 0)]⟩
abbrev aTw:TI:=⟨.st [(0,5),(1,5)],2,2,[.d (.u 0),.d (.u 0)]⟩
abbrev aTx:TI:=⟨.arr 16 275,32,32,[.d (.u 0),.d (.u 0),.d (.u 0),.d (.u 0),.d (.u 0),.d (.u 0),.d (.u 0),.d (.u 0),.d (.u 0),.d (.u 0),.d (.u 0),.d (.u 0),.d (.u 0),.d (.u 0),.d (.u 0),.d (.u 0),.d (.u 0),.d (.u 0),.d (.u 0),.d (.u 0),.d (.u 0),.d (.u 0),.d (.u 0),.d (.u 0),.d (.u 0),.d (.u 0),.d (.u 0),.d (.u 0),.d (.u 0),.d (.u 0),.d (.u 0),.d (.u 0)]⟩
abbrev aTy:TI:=⟨.st [(0,17),(1,17),(2,17),(3,9)],4,40,[.d (.x (.pointer none)),.d (.x (.pointer none)),.d (.x (.pointer none)),.d (.s [])]⟩
abbrev aTz:TI:=⟨.st [(0,17),(1,17),(2,17),(3,9)],4,40,[.d (.x (.pointer none)),.d (.x (.pointer none)),.d (.x (.pointer none)),.d (.s [])]⟩
abbrev aT0:TI:=⟨.int .u8,1,1,[.d (.u 0)]⟩
abbrev aT1:TI:=⟨.int .u8,1,1,[.d (.u 0)]⟩
abbrev aT2:TI:=⟨.ptr 5,1,8,[.d (.x (.pointer none))]⟩
abbrev aT3:TI:=⟨.int .i32,1,4,[.d (.x (.int .i32 0))]⟩
abbrev aT4:TI:=⟨.int .i32,1,4,[.d (.x (.int .i32 0))]⟩
def tab:hZ:=fun t=>match t with
 |2=>some ti2
 |3=>some ti3
 |4=>some ti4
 |5=>some ti5
 |6=>some ti6
 |7=>some ti7
 |8=>some ti8
 |9=>some ti9
 |10=>some aWh
 |11=>some aWi
 |12=>some aWj
 |13=>some aWk
 |14=>some aWl
 |15=>some aWm
 |16=>some aWn
 |17=>some aWo
 |18=>some aWp
 |19=>some aWq
 |21=>some aWr
 |22=>some aWs
 |23=>some aWt
 |24=>some aWu
 |25=>some aWv
 |26=>some aWw
 |28=>some aWx
 |29=>some aWy
 |30=>some aWz
 |31=>some aW0
 |41=>some aW1
 |42=>some aW2
 |43=>some aW3
 |44=>some aW4
 |51=>some aW5
 |52=>some aQi
 |57=>some aW6
 |58=>some aW7
 |60=>some aW8
 |63=>some aW9
 |68=>some aOb
 |71=>some aXa
 |84=>some aXb
 |85=>some aXc
 |86=>some aQj
 |117=>some aSy
 |119=>some aSz
 |120=>some aS0
 |121=>some aS1
 |122=>some aS2
 |123=>some aS3
 |137=>some aS4
 |138=>some aS5
 |141=>some aS6
 |145=>some aS7
 |146=>some aS8
 |147=>some aS9
 |152=>some aTa
 |153=>some aTb
 |154=>some aTc
 |161=>some aTd
 |162=>some aKf
 |174=>some aTe
 |176=>some aTf
 |177=>some aTg
 |179=>some aTh
 |203=>some aTi
 |204=>some aTj
 |219=>some aTk
 |222=>some aTl
 |237=>some aTm
 |238=>some aTn
 |251=>some aTo
 |252=>some aTp
 |254=>some aTq
 |259=>some aTr
 |260=>some aTs
 |266=>some aTt
 |267=>some aTu
 |274=>some aTv
 |275=>some aTw
 |276=>some aTx
 |277=>some aTy
 |278=>some aTz
 |283=>some aT0
 |284=>some aT1
 |286=>some aT2
 |287=>some aT3
 |288=>some aT4
 |_=>none
theorem aXd:eU Tryz.prog 2 ti2:=⟨Tryz.underlying2,⟨Tryz.t2,_,by kernel_rfl,rfl,rfl,rfl,rfl⟩,rfl,rfl,by decide,by decide⟩
theorem aXe:eU Tryz.prog 3 ti3:=⟨Tryz.underlying3,⟨Tryz.t3,_,by kernel_rfl,rfl,rfl,rfl,rfl⟩,rfl,rfl,by decide,by decide⟩
theorem aXf:eU Tryz.prog 4 ti4:=⟨Tryz.underlying4,⟨Tryz.t4,_,by kernel_rfl,rfl,rfl,rfl,rfl⟩,rfl,rfl,by decide,by decide⟩
theorem aXg:eU Tryz.prog 5 ti5:=⟨Tryz.underlying5,⟨Tryz.t5,_,by kernel_rfl,rfl,rfl,rfl,rfl⟩,rfl,rfl,by decide,by decide⟩
theorem aXh:eU Tryz.prog 6 ti6:=⟨Tryz.underlying6,⟨Tryz.t6,_,by kernel_rfl,rfl,rfl,rfl,rfl⟩,rfl,rfl,by decide,by decide⟩
theorem aXi:eU Tryz.prog 7 ti7:=⟨⟨_,Tryz.underlying7,rfl⟩,⟨Tryz.t7,_,by kernel_rfl,rfl,rfl,rfl,rfl⟩,rfl,rfl,by decide,by decide⟩
theorem aXj:eU Tryz.prog 8 ti8:=⟨⟨_,Tryz.underlying8,rfl⟩,⟨Tryz.t8,_,by kernel_rfl,rfl,rfl,rfl,rfl⟩,rfl,rfl,by decide,by decide⟩
theorem aXk:eU Tryz.prog 9 ti9:=⟨Tryz.underlying9,⟨Tryz.t9,_,by kernel_rfl,rfl,rfl,rfl,rfl⟩,rfl,rfl,by decide,by decide⟩
theorem aUt:eU Tryz.prog 10 aWh:=⟨Tryz.underlying10,⟨Tryz.t10,_,by kernel_rfl,rfl,rfl,rfl,rfl⟩,rfl,rfl,by decide,by decide⟩
theorem aUu:eU Tryz.prog 11 aWi:=⟨Tryz.underlying11,⟨Tryz.t11,_,by kernel_rfl,rfl,rfl,rfl,rfl⟩,rfl,rfl,by decide,by decide⟩
theorem aUv:eU Tryz.prog 12 aWj:=⟨Tryz.underlying12,⟨Tryz.t12,_,by kernel_rfl,rfl,rfl,rfl,rfl⟩,rfl,rfl,by decide,by decide⟩
theorem aUw:eU Tryz.prog 13 aWk:=⟨⟨_,Tryz.underlying13,rfl⟩,⟨Tryz.t13,_,by kernel_rfl,rfl,rfl,rfl,rfl⟩,rfl,rfl,by decide,by decide⟩
theorem aUx:eU Tryz.prog 14 aWl:=⟨⟨_,Tryz.underlying14,rfl⟩,⟨Tryz.t14,_,by kernel_rfl,rfl,rfl,rfl,rfl⟩,rfl,rfl,by decide,by decide⟩
theorem aUy:eU Tryz.prog 15 aWm:=⟨Tryz.underlying15,⟨Tryz.t15,_,by kernel_rfl,rfl,rfl,rfl,rfl⟩,rfl,rfl,by decide,by decide⟩
theorem aUz:eU Tryz.prog 16 aWn:=⟨Tryz.underlying16,⟨Tryz.t16,_,by kernel_rfl,rfl,rfl,rfl,rfl⟩,rfl,rfl,by decide,by decide⟩
theorem aU0:eU Tryz.prog 17 aWo:=⟨Tryz.underlying17,⟨Tryz.t17,_,by kernel_rfl,rfl,rfl,rfl,rfl⟩,rfl,rfl,by decide,by decide⟩
theorem aU1:eU Tryz.prog 18 aWp:=⟨⟨_,Tryz.underlying18,rfl⟩,⟨Tryz.t18,_,by kernel_rfl,rfl,rfl,rfl,rfl⟩,rfl,rfl,by decide,by decide⟩
theorem aU2:eU Tryz.prog 19 aWq:=⟨⟨_,Tryz.underlying19,rfl⟩,⟨Tryz.t19,_,by kernel_rfl,rfl,rfl,rfl,rfl⟩,rfl,rfl,by decide,by decide⟩
theorem aU3:eU Tryz.prog 21 aWr:=⟨Tryz.underlying21,⟨Tryz.t21,_,by kernel_rfl,rfl,rfl,rfl,rfl⟩,rfl,rfl,by decide,by decide⟩
theorem aU4:eU Tryz.prog 22 aWs:=⟨⟨_,Tryz.underlying22,rfl⟩,⟨Tryz.t22,_,by kernel_rfl,rfl,rfl,rfl,rfl⟩,rfl,rfl,by decide,by decide⟩
theorem aU5:eU Tryz.prog 23 aWt:=⟨⟨_,Tryz.underlying23,rfl⟩,⟨Tryz.t23,_,by kernel_rfl,rfl,rfl,rfl,rfl⟩,rfl,rfl,by decide,by decide⟩
theorem aU6:eU Tryz.prog 24 aWu:=⟨Tryz.underlying24,⟨Tryz.t24,_,by kernel_rfl,rfl,rfl,rfl,rfl⟩,rfl,rfl,by decide,by decide⟩
theorem aU7:eU Tryz.prog 25 aWv:=⟨⟨_,Tryz.underlying25,rfl⟩,⟨Tryz.t25,_,by kernel_rfl,rfl,rfl,rfl,rfl⟩,rfl,rfl,by decide,by decide⟩
theorem aU8:eU Tryz.prog 26 aWw:=⟨⟨_,Tryz.underlying26,rfl⟩,⟨Tryz.t26,_,by kernel_rfl,rfl,rfl,rfl,rfl⟩,rfl,rfl,by decide,by decide⟩
theorem aU9:eU Tryz.prog 28 aWx:=⟨⟨_,Tryz.underlying28,rfl⟩,⟨Tryz.t28,_,by kernel_rfl,rfl,rfl,rfl,rfl⟩,rfl,rfl,by decide,by decide⟩
theorem aVa:eU Tryz.prog 29 aWy:=⟨Tryz.underlying29,⟨Tryz.t29,_,by kernel_rfl,rfl,rfl,rfl,rfl⟩,rfl,rfl,by decide,by decide⟩
theorem aVb:eU Tryz.prog 30 aWz:=⟨⟨_,Tryz.underlying30,rfl⟩,⟨Tryz.t30,_,by kernel_rfl,rfl,rfl,rfl,rfl⟩,rfl,rfl,by decide,by decide⟩
theorem aVc:eU Tryz.prog 31 aW0:=⟨⟨_,Tryz.underlying31,rfl⟩,⟨Tryz.t31,_,by kernel_rfl,rfl,rfl,rfl,rfl⟩,rfl,rfl,by decide,by decide⟩
theorem aVd:eU Tryz.prog 41 aW1:=⟨Tryz.underlying41,⟨Tryz.t41,_,by kernel_rfl,rfl,rfl,rfl,rfl⟩,rfl,rfl,by decide,by decide⟩
theorem aVe:eU Tryz.prog 42 aW2:=⟨Tryz.underlying42,⟨Tryz.t42,_,by kernel_rfl,rfl,rfl,rfl,rfl⟩,rfl,rfl,by decide,by decide⟩
theorem aVf:eU Tryz.prog 43 aW3:=⟨⟨_,Tryz.underlying43,rfl⟩,⟨Tryz.t43,_,by kernel_rfl,rfl,rfl,rfl,rfl⟩,rfl,rfl,by decide,by decide⟩
theorem aVg:eU Tryz.prog 44 aW4:=⟨⟨_,Tryz.underlying44,rfl⟩,⟨Tryz.t44,_,by kernel_rfl,rfl,rfl,rfl,rfl⟩,rfl,rfl,by decide,by decide⟩
theorem aVh:eU Tryz.prog 51 aW5:=⟨⟨_,Tryz.underlying51,rfl⟩,⟨Tryz.t51,_,by kernel_rfl,rfl,rfl,rfl,rfl⟩,rfl,rfl,by decide,by decide⟩
theorem aVi:eU Tryz.prog 52 aQi:=⟨⟨_,Tryz.underlying52,rfl⟩,⟨Tryz.t52,_,by kernel_rfl,rfl,rfl,rfl,rfl⟩,rfl,rfl,by decide,by decide⟩
theorem aVj:eU Tryz.prog 57 aW6:=⟨⟨_,Tryz.underlying57,rfl⟩,⟨Tryz.t57,_,by kernel_rfl,rfl,rfl,rfl,rfl⟩,rfl,rfl,by decide,by decide⟩
theorem aVk:eU Tryz.prog 58 aW7:=⟨⟨_,Tryz.underlying58,rfl⟩,⟨Tryz.t58,_,by kernel_rfl,rfl,rfl,rfl,rfl⟩,rfl,rfl,by decide,by decide⟩
theorem aVl:eU Tryz.prog 60 aW8:=⟨Tryz.underlying60,⟨Tryz.t60,_,by kernel_rfl,rfl,rfl,rfl,rfl⟩,rfl,rfl,by decide,by decide⟩
theorem aVm:eU Tryz.prog 63 aW9:=⟨⟨_,Tryz.underlying63,rfl⟩,⟨Tryz.t63,_,by kernel_rfl,rfl,rfl,rfl,rfl⟩,rfl,rfl,by decide,by decide⟩
theorem aVn:eU Tryz.prog 68 aOb:=⟨Tryz.underlying68,⟨Tryz.t68,_,by kernel_rfl,rfl,rfl,rfl,rfl⟩,rfl,rfl,by decide,by decide⟩
theorem aVo:eU Tryz.prog 71 aXa:=⟨Tryz.underlying71,⟨Tryz.t71,_,by kernel_rfl,rfl,rfl,rfl,rfl⟩,rfl,rfl,by decide,by decide⟩
theorem aVp:eU Tryz.prog 84 aXb:=⟨Tryz.underlying84,⟨Tryz.t84,_,by kernel_rfl,rfl,rfl,rfl,rfl⟩,rfl,rfl,by decide,by decide⟩
theorem aVq:eU Tryz.prog 85 aXc:=⟨⟨_,Tryz.underlying85,rfl⟩,⟨Tryz.t85,_,by kernel_rfl,rfl,rfl,rfl,rfl⟩,rfl,rfl,by decide,by decide⟩
theorem aVr:eU Tryz.prog 86 aQj:=⟨⟨_,Tryz.underlying86,rfl⟩,⟨Tryz.t86,_,by kernel_rfl,rfl,rfl,rfl,rfl⟩,rfl,rfl,by decide,by decide⟩
theorem aQl:eU Tryz.prog 117 aSy:=⟨Tryz.underlying117,⟨Tryz.t117,_,by kernel_rfl,rfl,rfl,rfl,rfl⟩,rfl,rfl,by decide,by decide⟩
theorem aQm:eU Tryz.prog 119 aSz:=⟨Tryz.underlying119,⟨Tryz.t119,_,by kernel_rfl,rfl,rfl,rfl,rfl⟩,rfl,rfl,by decide,by decide⟩
theorem aQn:eU Tryz.prog 120 aS0:=⟨Tryz.underlying120,⟨Tryz.t120,_,by kernel_rfl,rfl,rfl,rfl,rfl⟩,rfl,rfl,by decide,by decide⟩
theorem aQo:eU Tryz.prog 121 aS1:=⟨Tryz.underlying121,⟨Tryz.t121,_,by kernel_rfl,rfl,rfl,rfl,rfl⟩,rfl,rfl,by decide,by decide⟩
theorem aQp:eU Tryz.prog 122 aS2:=⟨⟨_,Tryz.underlying122,rfl⟩,⟨Tryz.t122,_,by kernel_rfl,rfl,rfl,rfl,rfl⟩,rfl,rfl,by decide,by decide⟩
theorem aQq:eU Tryz.prog 123 aS3:=⟨⟨_,Tryz.underlying123,rfl⟩,⟨Tryz.t123,_,by kernel_rfl,rfl,rfl,rfl,rfl⟩,rfl,rfl,by decide,by decide⟩
theorem aQr:eU Tryz.prog 137 aS4:=⟨⟨_,Tryz.underlying137,rfl⟩,⟨Tryz.t137,_,by kernel_rfl,rfl,rfl,rfl,rfl⟩,rfl,rfl,by decide,by decide⟩
theorem aQs:eU Tryz.prog 138 aS5:=⟨⟨_,Tryz.underlying138,rfl⟩,⟨Tryz.t138,_,by kernel_rfl,rfl,rfl,rfl,rfl⟩,rfl,rfl,by decide,by decide⟩
theorem aQt:eU Tryz.prog 141 aS6:=⟨Tryz.underlying141,⟨Tryz.t141,_,by kernel_rfl,rfl,rfl,rfl,rfl⟩,rfl,rfl,by decide,by decide⟩
theorem aQu:eU Tryz.prog 145 aS7:=⟨Tryz.underlying145,⟨Tryz.t145,_,by kernel_rfl,rfl,rfl,rfl,rfl⟩,rfl,rfl,by decide,by decide⟩
theorem aQv:eU Tryz.prog 146 aS8:=⟨⟨_,Tryz.underlying146,rfl⟩,⟨Tryz.t146,_,by kernel_rfl,rfl,rfl,rfl,rfl⟩,rfl,rfl,by decide,by decide⟩
theorem aQw:eU Tryz.prog 147 aS9:=⟨⟨_,Tryz.underlying147,rfl⟩,⟨Tryz.t147,_,by kernel_rfl,rfl,rfl,rfl,rfl⟩,rfl,rfl,by decide,by decide⟩
theorem aQx:eU Tryz.prog 152 aTa:=⟨Tryz.underlying152,⟨Tryz.t152,_,by kernel_rfl,rfl,rfl,rfl,rfl⟩,rfl,rfl,by decide,by decide⟩
theorem aQy:eU Tryz.prog 153 aTb:=⟨⟨_,Tryz.underlying153,rfl⟩,⟨Tryz.t153,_,by kernel_rfl,rfl,rfl,rfl,rfl⟩,rfl,rfl,by decide,by decide⟩
theorem aQz:eU Tryz.prog 154 aTc:=⟨⟨_,Tryz.underlying154,rfl⟩,⟨Tryz.t154,_,by kernel_rfl,rfl,rfl,rfl,rfl⟩,rfl,rfl,by decide,by decide⟩
theorem aQ0:eU Tryz.prog 161 aTd:=⟨⟨_,Tryz.underlying161,rfl⟩,⟨Tryz.t161,_,by kernel_rfl,rfl,rfl,rfl,rfl⟩,rfl,rfl,by decide,by decide⟩
theorem aQ1:eU Tryz.prog 162 aKf:=⟨⟨_,Tryz.underlying162,rfl⟩,⟨Tryz.t162,_,by kernel_rfl,rfl,rfl,rfl,rfl⟩,rfl,rfl,by decide,by decide⟩
theorem aQ2:eU Tryz.prog 174 aTe:=⟨Tryz.underlying174,⟨Tryz.t174,_,by kernel_rfl,rfl,rfl,rfl,rfl⟩,rfl,rfl,by decide,by decide⟩
theorem aQ3:eU Tryz.prog 176 aTf:=⟨⟨_,Tryz.underlying176,rfl⟩,⟨Tryz.t176,_,by kernel_rfl,rfl,rfl,rfl,rfl⟩,rfl,rfl,by decide,by decide⟩
theorem aQ4:eU Tryz.prog 177 aTg:=⟨⟨_,Tryz.underlying177,rfl⟩,⟨Tryz.t177,_,by kernel_rfl,rfl,rfl,rfl,rfl⟩,rfl,rfl,by decide,by decide⟩
theorem aQ5:eU Tryz.prog 179 aTh:=⟨Tryz.underlying179,⟨Tryz.t179,_,by kernel_rfl,rfl,rfl,rfl,rfl⟩,rfl,rfl,by decide,by decide⟩
theorem aQ6:eU Tryz.prog 203 aTi:=⟨⟨_,Tryz.underlying203,rfl⟩,⟨Tryz.t203,_,by kernel_rfl,rfl,rfl,rfl,rfl⟩,rfl,rfl,by decide,by decide⟩
theorem aQ7:eU Tryz.prog 204 aTj:=⟨⟨_,Tryz.underlying204,rfl⟩,⟨Tryz.t204,_,by kernel_rfl,rfl,rfl,rfl,rfl⟩,rfl,rfl,by decide,by decide⟩
theorem aQ8:eU Tryz.prog 219 aTk:=⟨Tryz.underlying219,⟨Tryz.t219,_,by kernel_rfl,rfl,rfl,rfl,rfl⟩,rfl,rfl,by decide,by decide⟩
theorem aQ9:eU Tryz.prog 222 aTl:=⟨⟨_,Tryz.underlying222,rfl⟩,⟨Tryz.t222,_,by kernel_rfl,rfl,rfl,rfl,rfl⟩,rfl,rfl,by decide,by decide⟩
theorem aRa:eU Tryz.prog 237 aTm:=⟨Tryz.underlying237,⟨Tryz.t237,_,by kernel_rfl,rfl,rfl,rfl,rfl⟩,rfl,rfl,by decide,by decide⟩
theorem aRb:eU Tryz.prog 238 aTn:=⟨Tryz.underlying238,⟨Tryz.t238,_,by kernel_rfl,rfl,rfl,rfl,rfl⟩,rfl,rfl,by decide,by decide⟩
theorem aRc:eU Tryz.prog 251 aTo:=⟨Tryz.underlying251,⟨Tryz.t251,_,by kernel_rfl,rfl,rfl,rfl,rfl⟩,rfl,rfl,by decide,by decide⟩
theorem aRd:eU Tryz.prog 252 aTp:=⟨Tryz.underlying252,⟨Tryz.t252,_,by kernel_rfl,rfl,rfl,rfl,rfl⟩,rfl,rfl,by decide,by decide⟩
theorem aRe:eU Tryz.prog 254 aTq:=⟨Tryz.underlying254,⟨Tryz.t254,_,by kernel_rfl,rfl,rfl,rfl,rfl⟩,rfl,rfl,by decide,by decide⟩
theorem aRf:eU Tryz.prog 259 aTr:=⟨⟨_,Tryz.underlying259,rfl⟩,⟨Tryz.t259,_,by kernel_rfl,rfl,rfl,rfl,rfl⟩,rfl,rfl,by decide,by decide⟩
theorem aRg:eU Tryz.prog 260 aTs:=⟨⟨_,Tryz.underlying260,rfl⟩,⟨Tryz.t260,_,by kernel_rfl,rfl,rfl,rfl,rfl⟩,rfl,rfl,by decide,by decide⟩
theorem aRh:eU Tryz.prog 266 aTt:=⟨Tryz.underlying266,⟨Tryz.t266,_,by kernel_rfl,rfl,rfl,rfl,rfl⟩,rfl,rfl,by decide,by decide⟩
theorem aRi:eU Tryz.prog 267 aTu:=⟨Tryz.underlying267,⟨Tryz.t267,_,by kernel_rfl,rfl,rfl,rfl,rfl⟩,rfl,rfl,by decide,by decide⟩
theorem aRj:eU Tryz.prog 274 aTv:=⟨⟨_,Tryz.underlying274,rfl⟩,⟨Tryz.t274,_,by kernel_rfl,rfl,rfl,rfl,rfl⟩,rfl,rfl,by decide,by decide⟩
theorem aRk:eU Tryz.prog 275 aTw:=⟨⟨_,Tryz.underlying275,rfl⟩,⟨Tryz.t275,_,by kernel_rfl,rfl,rfl,rfl,rfl⟩,rfl,rfl,by decide,by decide⟩
theorem aRl:eU Tryz.prog 276 aTx:=⟨Tryz.underlying276,⟨Tryz.t276,_,by kernel_rfl,rfl,rfl,rfl,rfl⟩,rfl,rfl,by decide,by decide⟩
theorem aRm:eU Tryz.prog 277 aTy:=⟨⟨_,Tryz.underlying277,rfl⟩,⟨Tryz.t277,_,by kernel_rfl,rfl,rfl,rfl,rfl⟩,rfl,rfl,by decide,by decide⟩
theorem aRn:eU Tryz.prog 278 aTz:=⟨⟨_,Tryz.underlying278,rfl⟩,⟨Tryz.t278,_,by kernel_rfl,rfl,rfl,rfl,rfl⟩,rfl,rfl,by decide,by decide⟩
theorem aRo:eU Tryz.prog 283 aT0:=⟨Tryz.underlying283,⟨Tryz.t283,_,by kernel_rfl,rfl,rfl,rfl,rfl⟩,rfl,rfl,by decide,by decide⟩
theorem aRp:eU Tryz.prog 284 aT1:=⟨Tryz.underlying284,⟨Tryz.t284,_,by kernel_rfl,rfl,rfl,rfl,rfl⟩,rfl,rfl,by decide,by decide⟩
theorem aRq:eU Tryz.prog 286 aT2:=⟨Tryz.underlying286,⟨Tryz.t286,_,by kernel_rfl,rfl,rfl,rfl,rfl⟩,rfl,rfl,by decide,by decide⟩
theorem aRr:eU Tryz.prog 287 aT3:=⟨Tryz.underlying287,⟨Tryz.t287,_,by kernel_rfl,rfl,rfl,rfl,rfl⟩,rfl,rfl,by decide,by decide⟩
theorem aRs:eU Tryz.prog 288 aT4:=⟨Tryz.underlying288,⟨Tryz.t288,_,by kernel_rfl,rfl,rfl,rfl,rfl⟩,rfl,rfl,by decide,by decide⟩
theorem cK:dV Tryz.prog tab:=by
 intro t x h
 unfold tab at h
 split at h
 · cases h;exact aXd
 · cases h;exact aXe
 · cases h;exact aXf
 · cases h;exact aXg
 · cases h;exact aXh
 · cases h;exact aXi
 · cases h;exact aXj
 · cases h;exact aXk
 · cases h;exact aUt
 · cases h;exact aUu
 · cases h;exact aUv
 · cases h;exact aUw
 · cases h;exact aUx
 · cases h;exact aUy
 · cases h;exact aUz
 · cases h;exact aU0
 · cases h;exact aU1
 · cases h;exact aU2
 · cases h;exact aU3
 · cases h;exact aU4
 · cases h;exact aU5
 · cases h;exact aU6
 · cases h;exact aU7
 · cases h;exact aU8
 · cases h;exact aU9
 · cases h;exact aVa
 · cases h;exact aVb
 · cases h;exact aVc
 · cases h;exact aVd
 · cases h;exact aVe
 · cases h;exact aVf
 · cases h;exact aVg
 · cases h;exact aVh
 · cases h;exact aVi
 · cases h;exact aVj
 · cases h;exact aVk
 · cases h;exact aVl
 · cases h;exact aVm
 · cases h;exact aVn
 · cases h;exact aVo
 · cases h;exact aVp
 · cases h;exact aVq
 · cases h;exact aVr
 · cases h;exact aQl
 · cases h;exact aQm
 · cases h;exact aQn
 · cases h;exact aQo
 · cases h;exact aQp
 · cases h;exact aQq
 · cases h;exact aQr
 · cases h;exact aQs
 · cases h;exact aQt
 · cases h;exact aQu
 · cases h;exact aQv
 · cases h;exact aQw
 · cases h;exact aQx
 · cases h;exact aQy
 · cases h;exact aQz
 · cases h;exact aQ0
 · cases h;exact aQ1
 · cases h;exact aQ2
 · cases h;exact aQ3
 · cases h;exact aQ4
 · cases h;exact aQ5
 · cases h;exact aQ6
 · cases h;exact aQ7
 · cases h;exact aQ8
 · cases h;exact aQ9
 · cases h;exact aRa
 · cases h;exact aRb
 · cases h;exact aRc
 · cases h;exact aRd
 · cases h;exact aRe
 · cases h;exact aRf
 · cases h;exact aRg
 · cases h;exact aRh
 · cases h;exact aRi
 · cases h;exact aRj
 · cases h;exact aRk
 · cases h;exact aRl
 · cases h;exact aRm
 · cases h;exact aRn
 · cases h;exact aRo
 · cases h;exact aRp
 · cases h;exact aRq
 · cases h;exact aRr
 · cases h;exact aRs
 · cases h
end Go.Proofs.YtmabaopgkimfmaaGreatDoor
