/- The framework: abstract states over plain data, the operations, the rules for code; plain data and plain functions. -/
import Derived.Tactics
import Derived.Orders
import Derived.Laws.AppendOwn
import Derived.Laws.MakeOwn
import Derived.Laws.BytesString
import Derived.Laws.Slices
import Derived.Below
import Derived.Lib.LaidTab
import Derived.Lib.ItoaNum
import Derived.Laws.Tables
import Derived.Great.BuildSlice
import Derived.RowKit3
import Derived.Laws.BitsLemmas
import Derived.Lib.ConvBytes
import Derived.Conc.MuLone
import Derived.Test.YtcbjphphppaoiaaGreatDoorProg
namespace Go.Ab
open Int renaming toNat_natCast→aSd
open List renaming length_append→aSe,length_nil→aSh,length_cons→aSi,length_take→aSk,getD_eq_getElem?_getD→aSl,getElem?_eq_some_iff→aSm,getElem?_eq_getElem→aSn,range→aSp,mem_map→aSq,length_drop→aSr,mem_singleton→aSs,all_eq_true→aSu,take_length→aSv,mem_cons→aSw
open Nat renaming le_of_ble_eq_true→aSf,zero_le→aSj,le_refl→aSo,add_mul→aSt
open Bool renaming and_eq_true→aSg
open Go Go.RowKit
set_option linter.unusedVariables false
inductive D where
 |i (n:Int)
 |u (n:Int)
 |b (x:Bool)
 |s (l:List UInt8)
 |x (v:Value)
 |sl (rows:List (List D))
inductive C where
 |d (x:D)
 |nil
 |own (o n:Nat)
 |pt (o k:Nat)
 |pe (o n i k:Nat)
 |rp (cs:List D)
 |z (o:Nat) (Q:Value→Value→Prop)
inductive E where
 |c (x:C)
 |agg (cs:List C)
inductive V where
 |e (x:E)
 |tup (xs:List E)
def blk:Value→Option Nat
 | .pointer (some a)=>some a.block
 | .slice (some a) _ _=>some a.block
 |_=>none
def wF:Value→Nat→Prop
 | .pointer (some a),b=>a.block=b
 | .slice (some a) _ _,b=>a.block=b
 | .tuple vs,b=> ∃v∈vs.toList,blk v=some b
 |_,_=>False
structure ej where
 le:Value→Value→Prop
 R:World→(Nat→Prop)→Value→Prop
 refl: ∀p,le p p
 trans: ∀{p q r},le p q→le q r→le p r
 mono: ∀{w w':World} {S S':Nat→Prop} {p:Value},(∀b,S b→S' b)→(∀b,S b→w'.heap[b]? =w.heap[b]?)→(∀b,wF p b→w'.heap[b]? =w.heap[b]?)→R w S p→R w' S' p
 lt: ∀{w:World} {S:Nat→Prop} {p:Value} {b:Nat},R w S p→wF p b→b<w.heap.size
inductive K where
 |v (x:V)
 |box (ty:TypeId) (cs:List C)
 |row (e:TypeId) (es:Nat) (rows:List (List D))
 |dead
 |cv (s:Nat) (want b:Bool) (x:V)
 |zone (Z:ej)
inductive dD where
 |t (s:Nat)
 |o (n:Nat)
 deriving DecidableEq
abbrev St:=List (dD×K)
def aS:St→dD→Option K
 | [],_=>none
 |p::r,m=>if p.1=m then some p.2 else aS r m
def oO:St→dD→K→St
 | [],m,k=>[(m,k)]
 |p::r,m,k=>if p.1=m then(m,k)::r else p::oO r m k
def hD:St→List (dD×K)→St
 |s,[]=>s
 |s,p::r=>hD (oO s p.1 p.2) r
theorem nJ (s:St) (m:dD) (k:K) (l:dD):aS (oO s m k) l=if m=l then some k else aS s l:=by
 induction s with
 |nil=>simp[aS,oO]
 |cons p r ih=>
  unfold oO
  by_cases h:p.1=m
  · rw[if_pos h]
    by_cases h2:m=l
    · simp[aS,h2]
    · simp[aS,h2,h]
  · rw[if_neg h]
    by_cases h2:p.1=l
    · have:m≠l:=fun e=>h (h2.trans e.symm)
      simp[aS,h2,this]
    · simp[aS,h2,ih]
theorem cQ (s:St) (m:dD) (k:K):aS (oO s m k) m=some k:=by rw[nJ,if_pos rfl]
theorem cI (s:St) {m l:dD} (k:K) (h:m≠l):aS (oO s m k) l=aS s l:=by rw[nJ,if_neg h]
inductive DR (w:World) (S:Nat→Prop):D→Value→Prop
 |i (n:Int):DR w S (.i n) (.int .i64 n)
 |u (n:Int):DR w S (.u n) (.int .u8 n)
 |b (x:Bool):DR w S (.b x) (.bool x)
 |s (l:List UInt8):DR w S (.s l) (.string ⟨l.toArray⟩)
 |x (v:Value) (h:v.oneCell'=true):DR w S (.x v) v
 |sl (rows:List (List D)) (a:Option Addr) (cap es:Nat) (ad:Addr) (u:Nat→Nat→Value)
  (hc:rows.length≤cap) (hm:cap≤maxLen) (he: ∀r∈rows,r.length=es)
  (ha:rows≠[]→a=some ad) (hw: ∀i r k d,rows[i]? =some r→r[k]? =some d→S ad.block∧w.cell? (ad.add (i*es+k))=some (u i k))
  (hd: ∀i r k d,rows[i]? =some r→r[k]? =some d→DR w S d (u i k)):DR w S (.sl rows) (.slice a rows.length cap)
theorem DR.oneCell {w:World} {S:Nat→Prop} {d:D} {v:Value} (h:DR w S d v):v.oneCell'=true:=by
 cases h<;>first|rfl|assumption
theorem DR.mono {w w':World} {S S':Nat→Prop} (hS: ∀b,S b→S' b) (hw: ∀b,S b→w'.heap[b]? =w.heap[b]?) {d:D} {v:Value} (h:DR w S d v):DR w' S' d v:=by
 induction h with
 |i n=>exact .i n
 |u n=>exact .u n
 |b x=>exact .b x
 |s l=>exact .s l
 |x v h=>exact .x v h
 |sl rows a cap es ad u hc hm he ha h1 hd ih=>
  refine .sl rows a cap es ad u hc hm he ha (fun i r k d hi hk=> ?_) ih
  obtain⟨hs,hcell⟩:=h1 i r k d hi hk
  refine⟨hS _ hs,?_⟩
  have hb: (ad.add (i*es+k)).block=ad.block:=by unfold Addr.add;split<;>rfl
  rw[World.cell?_of_block (w:=w) (by rw[hb];exact hw _ hs)]
  exact hcell
def CR (σ:St) (ι:Nat→Value) (w:World) (S:Nat→Prop):C→Value→Prop
 | .d x,v=>DR w S x v
 | .nil,v=>v= .slice none 0 0
 | .own o n,v=>v.oneCell'=true∧((∃e es rows,aS σ (.o o)=some (.row e es rows)∧n≤rows.length∧(rows.length=n→v=ι o))∨aS σ (.o o)=some .dead)
 | .pt o k,v=>v.oneCell'=true∧((∃ty cs,aS σ (.o o)=some (.box ty cs)∧ ∃b,ι o= .pointer (some ⟨b,0,none⟩)∧v= .pointer (some ⟨b,k,none⟩))∨aS σ (.o o)=some .dead)
 | .pe o n i k,v=>v.oneCell'=true∧((∃e es rows,aS σ (.o o)=some (.row e es rows)∧n≤rows.length∧(rows.length=n→ ∃g off cap,ι o= .slice (some ⟨g,off,none⟩) n cap∧v= .pointer (some ⟨g,off+i*es+k,none⟩)))∨aS σ (.o o)=some .dead)
 | .rp cs,v=> ∃ad,v= .pointer (some ad)∧ ∀(k:Nat) d,cs[k]? =some d→S ad.block∧ ∃u,w.cell? (ad.add k)=some u∧DR w S d u
 | .z o Q,v=>v.oneCell'=true∧((∃Z,aS σ (.o o)=some (.zone Z)∧ ∀p,Z.le (ι o) p→Q p v)∨aS σ (.o o)=some .dead)
def ER (σ:St) (ι:Nat→Value) (w:World) (S:Nat→Prop):E→Value→Prop
 | .c x,v=>CR σ ι w S x v
 | .agg cs,v=> ∃vs:List Value,v= .agg vs.toArray∧vs.length=cs.length∧ ∀(k:Nat) c u,cs[k]? =some c→vs[k]? =some u→CR σ ι w S c u
def kU (σ:St) (ι:Nat→Value) (w:World) (S:Nat→Prop):V→Value→Prop
 | .e x,v=>ER σ ι w S x v
 | .tup xs,v=> ∃vs:List Value,v= .tuple vs.toArray∧vs.length=xs.length∧ ∀(k:Nat) x u,xs[k]? =some x→vs[k]? =some u→ER σ ι w S x u
def aJi (fz:Nat×Nat) (n:Nat):Prop:=fz=(0,0)∨n≤fz.1
def OR (σ:St) (ι:Nat→Value) (w:World) (S:Nat→Prop) (p:Value):K→Prop
 | .v _=>True
 | .dead=>True
 | .cv .. =>True
 | .zone Z=>Z.R w S p
 | .box ty cs=> ∃(b:Nat) (vs:Array Value),p= .pointer (some ⟨b,0,none⟩)∧w.heap[b]? =some (.cells vs ty (0,0))∧vs.size=cs.length∧ ∀(k:Nat) c u,cs[k]? =some c→vs[k]? =some u→CR σ ι w S c u
 | .row e es rows=>(p= .slice none 0 0∧rows=[])∨ ∃(g off cap:Nat) (cur:Array Value) (fz:Nat×Nat),p= .slice (some ⟨g,off,none⟩) rows.length cap∧w.heap[g]? =some (.cells cur e fz)∧aJi fz cur.size∧
  rows.length≤cap∧cap≤maxLen∧off+cap*es≤cur.size∧ ∀(i:Nat) r,rows[i]? =some r→r.length=es∧ ∀(k:Nat) d,r[k]? =some d→ ∃u,cur[off+i*es+k]? =some u∧DR w S d u
def K.live:K→Prop
 | .box .. | .row .. | .zone .. =>True
 |_=>False
def jY (σ:St) (ι:Nat→Value) (o b:Nat):Prop:=(∃k,aS σ (.o o)=some k∧k.live)∧wF (ι o) b
def pS (σ:St) (ι:Nat→Value) (w:World) (S:Nat→Prop):K→Value→Prop
 | .v x,v=>kU σ ι w S x v
 | .cv _ _ b x,v=>(b=true→kU σ ι w S x v)∧(b=false→v=undef)
 |_,_=>True
structure VR (σ:St) (ι ν:Nat→Value) (S:Nat→Prop) (w:World):Prop where
 slots: ∀s k,aS σ (.t s)=some k→pS σ ι w S k (ν s)
 objs: ∀o k,aS σ (.o o)=some k→OR σ ι w S (ι o) k
 mutS: ∀o b,jY σ ι o b→ ¬S b
 inj: ∀o o' b,jY σ ι o b→jY σ ι o' b→o=o'
 sz: ∀b,S b→b<w.heap.size
def lZ (p p':Value):K→K→Prop
 |_,.dead=>True
 | .box _ _,.box _ _=>p'=p
 | .row _ es r,.row _ es' r'=>es'=es∧r.length≤r'.length∧(r'.length=r.length→p'=p)
 | .zone Z,.zone Z'=>Z'.le=Z.le∧Z.le p p'
 | .v _,_=>True
 | .cv ..,_=>True
 | .dead,_=>False
 |_,_=>False
structure pR (σ:St) (ι:Nat→Value) (S:Nat→Prop) (w:World) (σ':St) (ι':Nat→Value) (S':Nat→Prop) (w':World):Prop where
 sub: ∀b,S b→S' b
 keep: ∀b,S b→w'.heap[b]? =w.heap[b]?
 evo: ∀o k,aS σ (.o o)=some k→ ∃k',aS σ' (.o o)=some k'∧lZ (ι o) (ι' o) k k'
section
variable {σ σ':St} {ι ι' ν:Nat→Value} {S S':Nat→Prop} {w w':World}
theorem CR.step (h:pR σ ι S w σ' ι' S' w') {c:C} {v:Value} (hc:CR σ ι w S c v):CR σ' ι' w' S' c v:=by
 cases c with
 |d x=>exact DR.mono h.sub h.keep hc
 |nil=>exact hc
 |own o n=>
  obtain⟨h1,h2⟩:=hc
  refine⟨h1,?_⟩
  rcases h2 with⟨e,es,rows,hl,hn,hv⟩|hl
  · obtain⟨k',hl',hev⟩:=h.evo o _ hl
    cases k'<;>simp only[lZ] at hev
    case dead=>exact .inr hl'
    case row e' es' rows'=>exact .inl ⟨e',es',rows',hl',by omega,fun hh=>by rw[hv (by omega)];exact(hev.2.2 (by omega)).symm⟩
  · obtain⟨k',hl',hev⟩:=h.evo o _ hl
    cases k'<;>simp only[lZ] at hev
    exact .inr hl'
 |pt o k=>
  obtain⟨h1,h2⟩:=hc
  refine⟨h1,?_⟩
  rcases h2 with⟨ty,cs,hl,b,hi,hv⟩|hl
  · obtain⟨k',hl',hev⟩:=h.evo o _ hl
    cases k'<;>simp only[lZ] at hev
    case dead=>exact .inr hl'
    case box ty' cs'=>exact .inl ⟨ty',cs',hl',b,by rw[hev];exact hi,hv⟩
  · obtain⟨k',hl',hev⟩:=h.evo o _ hl
    cases k'<;>simp only[lZ] at hev
    exact .inr hl'
 |pe o n i k=>
  obtain⟨h1,h2⟩:=hc
  refine⟨h1,?_⟩
  rcases h2 with⟨e,es,rows,hl,hn,hv⟩|hl
  · obtain⟨k',hl',hev⟩:=h.evo o _ hl
    cases k'<;>simp only[lZ] at hev
    case dead=>exact .inr hl'
    case row e' es' rows'=>
     refine .inl ⟨e',es',rows',hl',by omega,fun hh=> ?_⟩
     obtain⟨g,off,cap,hi,hvv⟩:=hv (by omega)
     exact⟨g,off,cap,by rw[hev.2.2 (by omega)];exact hi,by rw[hev.1];exact hvv⟩
  · obtain⟨k',hl',hev⟩:=h.evo o _ hl
    cases k'<;>simp only[lZ] at hev
    exact .inr hl'
 |rp cs=>
  obtain⟨ad,hv,hk⟩:=hc
  refine⟨ad,hv,fun k d hd=> ?_⟩
  obtain⟨hs,u,hu,hdr⟩:=hk k d hd
  refine⟨h.sub _ hs,u,?_,DR.mono h.sub h.keep hdr⟩
  have hb: (ad.add k).block=ad.block:=by unfold Addr.add;split<;>rfl
  rw[World.cell?_of_block (w:=w) (by rw[hb];exact h.keep _ hs)]
  exact hu
 |z o Q=>
  obtain⟨h1,h2⟩:=hc
  refine⟨h1,?_⟩
  rcases h2 with⟨Z,hl,hq⟩|hl
  · obtain⟨k',hl',hev⟩:=h.evo o _ hl
    cases k'<;>simp only[lZ] at hev
    case dead=>exact .inr hl'
    case zone Z'=>exact .inl ⟨Z',hl',fun p hp=>hq p (Z.trans hev.2 (by rw[← hev.1];exact hp))⟩
  · obtain⟨k',hl',hev⟩:=h.evo o _ hl
    cases k'<;>simp only[lZ] at hev
    exact .inr hl'
theorem ER.step (h:pR σ ι S w σ' ι' S' w') {c:E} {v:Value} (hc:ER σ ι w S c v):ER σ' ι' w' S' c v:=by
 cases c with
 |c x=>exact CR.step h hc
 |agg cs=>
  obtain⟨vs,hv,hl,hk⟩:=hc
  exact⟨vs,hv,hl,fun k c u h1 h2=>CR.step h (hk k c u h1 h2)⟩
theorem kU.step (h:pR σ ι S w σ' ι' S' w') {c:V} {v:Value} (hc:kU σ ι w S c v):kU σ' ι' w' S' c v:=by
 cases c with
 |e x=>exact ER.step h hc
 |tup cs=>
  obtain⟨vs,hv,hl,hk⟩:=hc
  exact⟨vs,hv,hl,fun k c u h1 h2=>ER.step h (hk k c u h1 h2)⟩
theorem pS.step (h:pR σ ι S w σ' ι' S' w') {k:K} {v:Value} (hc:pS σ ι w S k v):pS σ' ι' w' S' k v:=by
 cases k with
 |v x=>exact kU.step h hc
 |cv s want b x=>exact⟨fun hb=>kU.step h (hc.1 hb),hc.2⟩
 |_=>trivial
theorem OR.step (h:pR σ ι S w σ' ι' S' w') {p:Value} {k:K} (hb: ∀b,wF p b→w'.heap[b]? =w.heap[b]?) (hk:OR σ ι w S p k):OR σ' ι' w' S' p k:=by
 cases k with
 |v _=>trivial
 |dead=>trivial
 |cv _ _ _ _=>trivial
 |zone Z=>exact Z.mono h.sub h.keep hb hk
 |box ty cs=>
  obtain⟨b,vs,rfl,hh,hs,hc⟩:=hk
  exact⟨b,vs,rfl,by rw[hb b rfl];exact hh,hs,fun k c u h1 h2=>CR.step h (hc k c u h1 h2)⟩
 |row e es rows=>
  rcases hk with hn|⟨g,off,cap,cur,fz,rfl,hh,hfz,h1,h2,h3,h4⟩
  · exact .inl hn
  · refine .inr ⟨g,off,cap,cur,fz,rfl,by rw[hb g rfl];exact hh,hfz,h1,h2,h3,fun i r hr=>⟨(h4 i r hr).1,fun k d hd=> ?_⟩⟩
    obtain⟨u,hu,hdr⟩:=(h4 i r hr).2 k d hd
    exact⟨u,hu,DR.mono h.sub h.keep hdr⟩
theorem lZ.refl (p:Value) {k:K}:k≠ .dead→lZ p p k k:=by
 intro h
 cases k<;>simp_all[lZ,ej.refl]
theorem lZ.refl' (p:Value) (k:K):lZ p p k k:=by cases k<;>simp[lZ,ej.refl]
end
structure Fr (M:Nat→Prop) (w0 w:World):Prop where
 os:w.os=w0.os
 tape:w.tape=w0.tape
 output:w.output=w0.output
 size:w0.heap.size≤w.heap.size
 block: ∀b,b<w0.heap.size→ ¬M b→w.heap[b]? =w0.heap[b]?
theorem Fr.refl (M:Nat→Prop) (w:World):Fr M w w:=⟨rfl,rfl,rfl,aSo _,fun _ _ _=>rfl⟩
theorem Fr.trans {M M':Nat→Prop} {a b c:World} (h:Fr M a b) (k:Fr M' b c) (hM: ∀x,x<a.heap.size→M' x→M x):Fr M a c:=
 ⟨k.os.trans h.os,k.tape.trans h.tape,k.output.trans h.output,Nat.le_trans h.size k.size,
  fun x hx hm=>(k.block x (Nat.lt_of_lt_of_le hx h.size) (fun h'=>hm (hM x hx h'))).trans (h.block x hx hm)⟩
theorem Fr.weak {M M':Nat→Prop} {a b:World} (h:Fr M' a b) (hM: ∀x,M' x→M x):Fr M a b:=(Fr.refl M a).trans h fun x _ hx=>hM x hx
def aG5 (P:Program) (w:World):Prop:=Lib.TabIs P w "internal/strconv.uint64pow10" .u64 Lib.pow10Tab∧ ∃m,w.var? P "internal/bytealg.MaxLen" =some #[.int .i64 m]
def GB (P:Program) (w:World) (M:Nat→Prop):Prop:= ∀w',Fr M w w'→aG5 P w'
theorem GB.weak {P:Program} {w:World} {M M':Nat→Prop} (h:GB P w M) (hM: ∀x,M' x→M x):GB P w M':=fun w' h'=>h w' (h'.weak hM)
structure Cx (P:Program) where
 N:Nat
 w0:World
 S0:Nat→Prop
 k0:Nat→Option K
 kio:Nat→Option K
 ι0:Nat→Value
 gb:GB P w0 fun b=> ∃o k,k0 o=some k∧k.live∧wF (ι0 o) b
def Cx.M {P:Program} (cx:Cx P) (b:Nat):Prop:= ∃o k,cx.k0 o=some k∧k.live∧wF (cx.ι0 o) b
def gZ (a:Act):Nat→Value:=fun s=>a.tmps.getD s undef
structure RW {P:Program} (cx:Cx P) (σ:St) (ι:Nat→Value) (S:Nat→Prop) (a:Act) (w:World):Prop where
 vr:VR σ ι (gZ a) S w
 size:a.tmps.size=cx.N
 defers:a.defers=[]
 fr:Fr cx.M cx.w0 w
 own: ∀o b,jY σ ι o b→cx.w0.heap.size≤b∨cx.M b
 rd: ∀b,S b→cx.S0 b∨cx.w0.heap.size≤b∨cx.M b
 io: ∀o k,cx.kio o=some k→ ∃k',aS σ (.o o)=some k'∧lZ (cx.ι0 o) (ι o) k k'
theorem lZ.trans {p q r:Value} {a b c:K} (h:lZ p q a b) (k:lZ q r b c):lZ p r a c:=by
 cases a<;>cases b<;>cases c<;>simp_all[lZ]
 · obtain⟨h1,h2,h3⟩:=h
   obtain⟨k1,k2,k3⟩:=k
   exact⟨by omega,fun hh=>(k3 (by omega)).trans (h3 (by omega))⟩
 · exact ej.trans _ h.2 k.2
theorem cr {a:Act} {d:Nat} (hd:d<a.tmps.size) (v:Value) (s:Nat):gZ (a.put (some d) v) s=if s=d then v else gZ a s:=by
 unfold gZ Act.put
 by_cases h:s=d
 · subst h;simp[hd]
 · rw[if_neg h]
   simp only[Array.getD_eq_getD_getElem?]
   rw[Array.getElem?_setIfInBounds_ne (fun e=>h e.symm)]
theorem aAx (a:Act) (v:Value):a.put none v=a:=rfl
section
variable {P:Program} {cx:Cx P} {σ:St} {ι:Nat→Value} {S:Nat→Prop} {a:Act} {w:World}
theorem lj {s:Nat} {k:K} {o b:Nat}:jY (oO σ (.t s) k) ι o b↔jY σ ι o b:=by
 unfold jY
 rw[cI _ _ (by simp)]
theorem pR.t {s:Nat} {k:K}:pR σ ι S w (oO σ (.t s) k) ι S w:=
 ⟨fun _ h=>h,fun _ _=>rfl,fun o k h=>⟨k,by rw[cI _ _ (by simp)];exact h,lZ.refl' _ _⟩⟩
theorem OR.t {s:Nat} {k k':K} {p:Value} (h:OR σ ι w S p k'):OR (oO σ (.t s) k) ι w S p k':=OR.step pR.t (fun _ _=>rfl) h
theorem RW.put (h:RW cx σ ι S a w) {d:Nat} (hd:d<cx.N) {x:V} {v:Value} (hx:kU σ ι w S x v):RW cx (oO σ (.t d) (.v x)) ι S (a.put (some d) v) w:=by
 have hd':d<a.tmps.size:=by rw[h.size];exact hd
 refine⟨⟨fun s y hy=> ?_,fun o k hk=> ?_,fun o b hm=> ?_,fun o o' b hm hm'=> ?_,h.vr.sz⟩,?_,h.defers,h.fr,fun o b hm=>h.own o b (lj.1 hm),h.rd,fun o k ho=>by rw[cI _ _ (by simp)];exact h.io o k ho⟩
 · rw[cr hd']
   rw[nJ] at hy
   by_cases e:d=s
   · subst e
     simp at hy
     subst hy
     rw[if_pos rfl]
     exact kU.step pR.t hx
   · rw[if_neg (by simpa using e)] at hy
     rw[if_neg (fun h=>e h.symm)]
     exact pS.step pR.t (h.vr.slots s y hy)
 · rw[cI _ _ (by simp)] at hk
   exact OR.t (h.vr.objs o k hk)
 · exact h.vr.mutS o b (lj.1 hm)
 · exact h.vr.inj o o' b (lj.1 hm) (lj.1 hm')
 · simpa[Act.put] using h.size
theorem RW.putDead (h:RW cx σ ι S a w) {d:Nat} (hd:d<cx.N) (v:Value):RW cx (oO σ (.t d) .dead) ι S (a.put (some d) v) w:=by
 have hd':d<a.tmps.size:=by rw[h.size];exact hd
 refine⟨⟨fun s y hy=> ?_,fun o k hk=> ?_,fun o b hm=> ?_,fun o o' b hm hm'=> ?_,h.vr.sz⟩,?_,h.defers,h.fr,fun o b hm=>h.own o b (lj.1 hm),h.rd,fun o k ho=>by rw[cI _ _ (by simp)];exact h.io o k ho⟩
 · rw[cr hd']
   rw[nJ] at hy
   by_cases e:d=s
   · subst e
     simp at hy
     subst hy
     trivial
   · rw[if_neg (by simpa using e)] at hy
     rw[if_neg (fun h=>e h.symm)]
     exact pS.step pR.t (h.vr.slots s y hy)
 · rw[cI _ _ (by simp)] at hk
   exact OR.t (h.vr.objs o k hk)
 · exact h.vr.mutS o b (lj.1 hm)
 · exact h.vr.inj o o' b (lj.1 hm) (lj.1 hm')
 · simpa[Act.put] using h.size
theorem VR.of_heap {ν:Nat→Value} {w':World} (h:VR σ ι ν S w) (hh:w'.heap=w.heap):VR σ ι ν S w':=by
 have st:pR σ ι S w σ ι S w':=⟨fun _ h=>h,fun _ _=>by rw[hh],fun o k h=>⟨k,h,lZ.refl' _ _⟩⟩
 exact⟨fun s x hx=>pS.step st (h.slots s x hx),fun o k hk=>OR.step st (fun _ _=>by rw[hh]) (h.objs o k hk),h.mutS,h.inj,fun b hb=>by rw[hh];exact h.sz b hb⟩
theorem RW.drew (h:RW cx σ ι S a w):RW cx σ ι S a {w with drawn:=w.drawn+1}:=
 ⟨h.vr.of_heap rfl,h.size,h.defers,⟨h.fr.os,h.fr.tape,h.fr.output,h.fr.size,h.fr.block⟩,h.own,h.rd,h.io⟩
theorem OR.lt {p:Value} {k:K} {b:Nat} (h:OR σ ι w S p k) (hl:k.live) (hb:wF p b):b<w.heap.size:=by
 cases k with
 |v _=>exact hl.elim
 |dead=>exact hl.elim
 |cv _ _ _ _=>exact hl.elim
 |zone Z=>exact Z.lt h hb
 |box ty cs=>
  obtain⟨b',vs,rfl,hh,_⟩:=h
  simp[wF] at hb;subst hb
  exact(Array.getElem?_eq_some_iff.1 hh).1
 |row e es rows=>
  rcases h with⟨rfl,_⟩|⟨g,off,cap,cur,fz,rfl,hh,_⟩
  · simp[wF] at hb
  · simp[wF] at hb;subst hb
    exact(Array.getElem?_eq_some_iff.1 hh).1
structure aG6 (σ:St) (ι:Nat→Value) (S:Nat→Prop) (w:World) (id:Nat) (old:Option Nat) (k:K) (p:Value) (w':World):Prop where
 os:w'.os=w.os
 tape:w'.tape=w.tape
 output:w'.output=w.output
 size:w.heap.size≤w'.heap.size
 block: ∀b,b<w.heap.size→some b≠old→w'.heap[b]? =w.heap[b]?
 mine: ∀b,old=some b→jY σ ι id b
 evo:aS σ (.o id)=none∨ ∃k0,aS σ (.o id)=some k0∧lZ (ι id) p k0 k
 new: ∀b,wF p b→some b=old∨w.heap.size≤b
 or_:OR (oO σ (.o id) k) (fun o=>if o=id then p else ι o) w' S p k
theorem VR.turn {ν:Nat→Value} (h:VR σ ι ν S w) {id:Nat} {old:Option Nat} {k:K} {p:Value} {w':World} (t:aG6 σ ι S w id old k p w'):
 VR (oO σ (.o id) k) (fun o=>if o=id then p else ι o) ν S w':=by
 have keepS: ∀b,S b→w'.heap[b]? =w.heap[b]?:=fun b hb=>t.block b (h.sz b hb) (fun e=>h.mutS id b (t.mine b e.symm) hb)
 have st:pR σ ι S w (oO σ (.o id) k) (fun o=>if o=id then p else ι o) S w':=by
  refine⟨fun _ h=>h,keepS,fun o k0 hk=> ?_⟩
  by_cases e:o=id
  · subst e
    refine⟨k,cQ _ _ _,?_⟩
    rcases t.evo with hn|⟨k1,hk1,hev⟩
    · rw[hn] at hk;cases hk
    · rw[hk1] at hk;cases hk;rw[if_pos rfl];exact hev
  · refine⟨k0,by rw[cI _ _ (by simpa using fun h=>e h.symm)];exact hk,?_⟩
    rw[if_neg e];exact lZ.refl' _ _
 have mut_ne: ∀o b,o≠id→jY (oO σ (.o id) k) (fun o=>if o=id then p else ι o) o b→jY σ ι o b:=by
  intro o b ne hm
  obtain⟨⟨k0,hk,hl⟩,hb⟩:=hm
  rw[cI _ _ (by simpa using fun h=>ne h.symm)] at hk
  dsimp only at hb
  rw[if_neg ne] at hb
  exact⟨⟨k0,hk,hl⟩,hb⟩
 have mlt: ∀o b,jY σ ι o b→b<w.heap.size:=fun o b ⟨⟨k0,hk,hl⟩,hb⟩=>OR.lt (h.objs o k0 hk) hl hb
 have mid: ∀b,jY (oO σ (.o id) k) (fun o=>if o=id then p else ι o) id b→some b=old∨w.heap.size≤b:=by
  intro b hm
  have hb:=hm.2
  dsimp only at hb
  rw[if_pos rfl] at hb
  exact t.new b hb
 refine⟨fun s x hx=> ?_,fun o k0 hk=> ?_,fun o b hm hS=> ?_,fun o o' b hm hm'=> ?_,fun b hb=>Nat.lt_of_lt_of_le (h.sz b hb) t.size⟩
 · rw[cI _ _ (by simp)] at hx
   exact pS.step st (h.slots s x hx)
 · by_cases e:o=id
   · subst e
     rw[cQ] at hk;cases hk
     rw[if_pos rfl]
     exact t.or_
   · rw[cI _ _ (by simpa using fun h=>e h.symm)] at hk
     rw[if_neg e]
     have ho:=h.objs o k0 hk
     by_cases hl:k0.live
     · refine OR.step st (fun b hb=> ?_) ho
       have hmut:jY σ ι o b:=⟨⟨k0,hk,hl⟩,hb⟩
       exact t.block b (mlt o b hmut) (fun e2=>e (h.inj o id b hmut (t.mine b e2.symm)))
     · cases k0<;>simp[K.live] at hl<;>trivial
 · by_cases e:o=id
   · subst e
     rcases mid b hm with h1|h1
     · exact h.mutS o b (t.mine b h1.symm) hS
     · have:=h.sz b hS;omega
   · exact h.mutS o b (mut_ne o b e hm) hS
 · by_cases e:o=id
   · by_cases e':o'=id
     · rw[e,e']
     · subst e
       have h2:=mut_ne o' b e' hm'
       rcases mid b hm with h1|h1
       · exact absurd (h.inj o' o b h2 (t.mine b h1.symm)) e'
       · have:=mlt o' b h2;omega
   · by_cases e':o'=id
     · subst e'
       have h2:=mut_ne o b e hm
       rcases mid b hm' with h1|h1
       · exact absurd (h.inj o o' b h2 (t.mine b h1.symm)) e
       · have:=mlt o b h2;omega
     · exact h.inj o o' b (mut_ne o b e hm) (mut_ne o' b e' hm')
theorem RW.turn (h:RW cx σ ι S a w) {id:Nat} {old:Option Nat} {k:K} {p:Value} {w':World} (t:aG6 σ ι S w id old k p w'):
 RW cx (oO σ (.o id) k) (fun o=>if o=id then p else ι o) S a w':=by
 refine⟨h.vr.turn t,h.size,h.defers,⟨t.os.trans h.fr.os,t.tape.trans h.fr.tape,t.output.trans h.fr.output,Nat.le_trans h.fr.size t.size,fun b hb hm=> ?_⟩,fun o b hm=> ?_,h.rd,fun o k1 ho=> ?_⟩
 · rw[t.block b (Nat.lt_of_lt_of_le hb h.fr.size) (fun e=> ?_)]
   · exact h.fr.block b hb hm
   · rcases h.own id b (t.mine b e.symm) with h1|h1
     · omega
     · exact hm h1
 · by_cases e:o=id
   · subst e
     have hb:=hm.2
     dsimp only at hb
     rw[if_pos rfl] at hb
     rcases t.new b hb with h1|h1
     · exact h.own o b (t.mine b h1.symm)
     · exact .inl (Nat.le_trans h.fr.size h1)
   · obtain⟨⟨k0,hk,hl⟩,hb⟩:=hm
     rw[cI _ _ (by simpa using fun h=>e h.symm)] at hk
     dsimp only at hb
     rw[if_neg e] at hb
     exact h.own o b ⟨⟨k0,hk,hl⟩,hb⟩
 · obtain⟨k',hk',hev⟩:=h.io o k1 ho
   by_cases e:o=id
   · subst e
     refine⟨k,cQ _ _ _,?_⟩
     rw[if_pos rfl]
     rcases t.evo with hn|⟨k2,hk2,hev2⟩
     · rw[hn] at hk';cases hk'
     · rw[hk2] at hk';cases hk';exact hev.trans hev2
   · refine⟨k',by rw[cI _ _ (by simpa using fun h=>e h.symm)];exact hk',?_⟩
     rw[if_neg e];exact hev
end
abbrev I (n:Int):V:= .e (.c (.d (.i n)))
abbrev B (x:Bool):V:= .e (.c (.d (.b x)))
abbrev Dv (x:D):V:= .e (.c (.d x))
def bJ (R:List (dD×Option K)) (σ:St):Prop:= ∀p∈R,aS σ p.1=p.2
theorem bJ.left {R R':List (dD×Option K)} {σ:St} (h:bJ (R++R') σ):bJ R σ:=fun p hp=>h p (List.mem_append_left _ hp)
theorem bJ.right {R R':List (dD×Option K)} {σ:St} (h:bJ (R++R') σ):bJ R' σ:=fun p hp=>h p (List.mem_append_right _ hp)
def wG (P:Program) (o:Oper) (R:List (dD×Option K)) (W:List (dD×K)):Prop:=
 ∀(cx:Cx P) (σ:St) (ι:Nat→Value) (S:Nat→Prop) (a:Act) (w:World),bJ R σ→RW cx σ ι S a w→(∀d,o.dst=some d→d<cx.N)→
  ∀(next:Act→World→Prop) (Q:Exit→Act→World→Prop),(∀ι' S' a' w',RW cx (hD σ W) ι' S' a' w'→next a' w')→o.wp P a w next Q
theorem mT {P:Program} {o:Oper} {d:Nat} {R:List (dD×Option K)} {x:V} (hd:o.dst=some d)
 (h: ∀(cx:Cx P) (σ:St) (ι:Nat→Value) (S:Nat→Prop) (a:Act) (w:World),bJ R σ→RW cx σ ι S a w→ ∃v,(execOp a.eval o).run P w= .ok (.value v) w∧kU σ ι w S x v):
 wG P o R [(.t d,.v x)]:=by
 intro cx σ ι S a w hr hw hb next Q hn
 obtain⟨v,he,hx⟩:=h cx σ ι S a w hr hw
 unfold Oper.wp
 rw[he]
 simp only[Oper.upon,hd]
 exact hn ι S _ w (hw.put (hb d hd) hx)
def yd:Value→C
 | .int .i64 n=> .d (.i n)
 | .int .u8 n=> .d (.u n)
 | .bool x=> .d (.b x)
 | .string s=> .d (.s s.data.toList)
 | .slice none 0 0=> .nil
 |v=> .d (.x v)
def ev (σ:St):Operand→Option (V×List (dD×Option K))
 | .tmp t=>match aS σ (.t t) with
  |some (.v X)=>some (X,[(.t t,some (.v X))])
  |_=>none
 | .const v=>if v.oneCell' then some (.e (.c (yd v)),[]) else none
 |_=>none
theorem ek {σ:St} {ι:Nat→Value} {w:World} {S:Nat→Prop} {v:Value} (h:v.oneCell'=true):CR σ ι w S (yd v) v:=by
 unfold yd
 split
 · exact .i _
 · exact .u _
 · exact .b _
 · exact .s _
 · rfl
 · exact .x _ h
theorem cZ {σ:St} {x:Operand} {X:V} {R:List (dD×Option K)} (h:ev σ x=some (X,R)):bJ R σ:=by
 intro p hp
 cases x with
 |tmp t=>
  simp only[ev] at h
  split at h
  · rename_i X' hl
    simp at h
    obtain⟨rfl,rfl⟩:=h
    simp at hp
    subst hp
    exact hl
  · cases h
 |const v=>
  simp only[ev] at h
  split at h
  · simp at h;obtain⟨rfl,rfl⟩:=h;simp at hp
  · cases h
 |global g=>simp[ev] at h
 |func f=>simp[ev] at h
theorem dA {σ0:St} {x:Operand} {X:V} {R:List (dD×Option K)} (h:ev σ0 x=some (X,R)) {P:Program} {cx:Cx P} {σ:St} {ι:Nat→Value} {S:Nat→Prop} {a:Act} {w:World}
 (hr:bJ R σ) (hw:RW cx σ ι S a w):kU σ ι w S X (a.eval x):=by
 cases x with
 |tmp t=>
  simp only[ev] at h
  split at h
  · rename_i X' hl
    simp at h
    obtain⟨rfl,rfl⟩:=h
    exact hw.vr.slots t _ (hr (.t t,some (.v X')) (by simp))
  · cases h
 |const v=>
  simp only[ev] at h
  split at h
  · rename_i hv
    simp at h;obtain⟨rfl,rfl⟩:=h
    exact ek hv
  · cases h
 |global g=>simp[ev] at h
 |func f=>simp[ev] at h
inductive TK where
 |int (k:IntKind)
 |bool
 |str
 |sl (e:TypeId)
 |st (fs:List (Nat×TypeId))
 |arr (n:Nat) (e:TypeId)
 |ptr (e:TypeId)
structure TI where
 kind:TK
 size:Nat
 bytes:Nat
 zero:List C
abbrev gB:=TypeId→Option TI
def TK.agg:TK→Bool
 | .st _| .arr _ _=>true
 |_=>false
def zv:C→Value
 | .d (.i n)=> .int .i64 n
 | .d (.u n)=> .int .u8 n
 | .d (.b x)=> .bool x
 | .d (.s l)=> .string ⟨l.toArray⟩
 | .d (.x v)=>v
 |_=> .slice none 0 0
def ye:C→Bool
 | .nil=>true
 | .d (.sl _)=>false
 | .d (.x v)=>v.oneCell'
 | .d _=>true
 |_=>false
theorem sE {σ:St} {ι:Nat→Value} {w:World} {S:Nat→Prop} {c:C} (h:ye c=true):CR σ ι w S c (zv c):=by
 cases c with
 |d x=>cases x<;>simp[ye] at h<;>(simp only[zv,CR];constructor)<;>assumption
 |nil=>rfl
 |_=>simp[ye] at h
def kW (P:Program) (t:TypeId):TK→Prop
 | .int k=>P.underlying t=some (.int k)
 | .bool=>P.underlying t=some .bool
 | .str=>P.underlying t=some .string
 | .sl e=>P.underlying t=some (.slice e)
 | .st fs=> ∃fields,P.underlying t=some (.struct fields)∧fields.toList.map (fun f=>(f.offset,f.type))=fs
 | .arr n e=>P.underlying t=some (.array n e)
 | .ptr e=>P.underlying t=some (.pointer e)
structure eK (P:Program) (t:TypeId) (x:TI):Prop where
 kind:kW P t x.kind
 info: ∃i z,P.info? t=some i∧i.size=x.size∧i.bytes=x.bytes∧i.zero=some z∧z.cells.toList=x.zero.map zv
 zlen:x.zero.length=x.size
 zok:x.zero.all ye=true
 pos:0<x.size
 bpos:0<x.bytes
def dK (P:Program) (T:gB):Prop:= ∀t x,T t=some x→eK P t x
section
variable {P:Program} {T:gB} {t:TypeId} {x:TI} {w:World}
theorem fB (h:eK P t x): (sizeOf t).run P w= .ok x.size w:=by
 obtain⟨i,z,hi,hs,_⟩:=h.info
 simp[sizeOf,typeInfo,hi,hs]
theorem pW (h:eK P t x): (isAgg t).run P w= .ok x.kind.agg w:=by
 have hk:=h.kind
 unfold isAgg
 cases hx:x.kind<;>rw[hx] at hk<;>simp only[kW] at hk
 case st fs=>
  obtain⟨fields,hu,_⟩:=hk
  rw[Sem.run_bind,run_underlying hu];rfl
 all_goals(rw[Sem.run_bind,run_underlying hk];rfl)
theorem aG7 (h:eK P t x): ∃z,(zeroValue t).run P w= .ok z w∧z.cells.toList=x.zero.map zv:=by
 obtain⟨i,z,hi,_,_,hz,hc⟩:=h.info
 exact⟨z,by simp[zeroValue,typeInfo,hi,hz],hc⟩
theorem lC (h:eK P t x) (hg:x.kind.agg=true) (a:Addr) (cells:List Value) (hl:cells.length=x.size) (hc: ∀(j:Nat) v,cells[j]? =some v→w.cell? (a.add j)=some v):
 (loadVar t a).run P w= .ok (.agg cells.toArray) w:=by
 have:=run_loadCells_list (P:=P) w a cells hc
 simp[loadVar,pW h,hg,fB h,← hl,this]
theorem rP (h:eK P t x) (hg:x.kind.agg=false) (a:Addr) (v:Value) (hc:w.cell? a=some v): (loadVar t a).run P w= .ok v w:=by
 simp[loadVar,pW h,hg,run_load,hc]
end
set_option linter.unusedSimpArgs false
abbrev tp:=Option (Prop×List (dD×Option K)×List (dD×K))
def kV (P:Program) (o:Oper) (σ:St) (r:tp):Prop:= ∀p R W,r=some (p,R,W)→p→wG P o R W∧bJ R σ
def jR (σ:St) (x:Operand) (d:Option Tmp) (f:V→Option (Prop×List (dD×Option K)×V)):tp:=
 match ev σ x,d with
 |some (X,R),some d=>match f X with
  |some (p,R',Y)=>some (p,R++R',[(.t d,.v Y)])
  |none=>none
 |_,_=>none
def pT (σ:St) (x y:Operand) (d:Option Tmp) (f:V→V→Option (Prop×List (dD×Option K)×V)):tp:=
 match ev σ x,ev σ y,d with
 |some (X,R),some (Y,R2),some d=>match f X Y with
  |some (p,R',Z)=>some (p,R++R2++R',[(.t d,.v Z)])
  |none=>none
 |_,_,_=>none
theorem bJ.append {R R':List (dD×Option K)} {σ:St} (h:bJ R σ) (h':bJ R' σ):bJ (R++R') σ:=fun p hp=>(List.mem_append.1 hp).elim (h p) (h' p)
theorem bJ.nil {σ:St}:bJ [] σ:=fun _ h=>by cases h
theorem bJ.one {σ:St} {l:dD} {k:Option K} (h:aS σ l=k):bJ [(l,k)] σ:=fun p hp=>by simp at hp;subst hp;exact h
theorem kF {P:Program} {o:Oper} {σ0:St} {x:Operand} {f:V→Option (Prop×List (dD×Option K)×V)}
 (hf: ∀X p R Y,f X=some (p,R,Y)→p→bJ R σ0∧ ∀(cx:Cx P) (σ:St) (ι:Nat→Value) (S:Nat→Prop) (a:Act) (w:World),bJ R σ→RW cx σ ι S a w→kU σ ι w S X (a.eval x)→
  ∃v,(execOp a.eval o).run P w= .ok (.value v) w∧kU σ ι w S Y v):kV P o σ0 (jR σ0 x o.dst f):=by
 intro p R W h hp
 unfold jR at h
 split at h
 · rename_i X Rx d hx hd
   split at h
   · rename_i p' R' Y hfx
     simp only[Option.some.injEq,Prod.mk.injEq] at h
     obtain⟨rfl,rfl,rfl⟩:=h
     obtain⟨h1,h2⟩:=hf X p' R' Y hfx hp
     exact⟨mT hd fun cx σ ι S a w hr hw=>h2 cx σ ι S a w hr.right hw (dA hx hr.left hw),(cZ hx).append h1⟩
   · cases h
 · cases h
theorem pX {P:Program} {o:Oper} {σ0:St} {x y:Operand} {f:V→V→Option (Prop×List (dD×Option K)×V)}
 (hf: ∀X Y p R Z,f X Y=some (p,R,Z)→p→bJ R σ0∧ ∀(cx:Cx P) (σ:St) (ι:Nat→Value) (S:Nat→Prop) (a:Act) (w:World),bJ R σ→RW cx σ ι S a w→kU σ ι w S X (a.eval x)→kU σ ι w S Y (a.eval y)→
  ∃v,(execOp a.eval o).run P w= .ok (.value v) w∧kU σ ι w S Z v):kV P o σ0 (pT σ0 x y o.dst f):=by
 intro p R W h hp
 unfold pT at h
 split at h
 · rename_i X Rx Y Ry d hx hy hd
   split at h
   · rename_i p' R' Z hfx
     simp only[Option.some.injEq,Prod.mk.injEq] at h
     obtain⟨rfl,rfl,rfl⟩:=h
     obtain⟨h1,h2⟩:=hf X Y p' R' Z hfx hp
     exact⟨mT hd fun cx σ ι S a w hr hw=>h2 cx σ ι S a w hr.right hw (dA hx hr.left.left hw) (dA hy hr.left.right hw),((cZ hx).append (cZ hy)).append h1⟩
   · cases h
 · cases h
def fId:V→Option (Prop×List (dD×Option K)×V):=fun X=>some (True,[],X)
theorem vl {P:Program} {o:Oper} {σ:St} {x:Operand} (ho:o.op= .move x∨o.op= .assign x):kV P o σ (jR σ x o.dst fId):=
 kF fun X p R Y h _=>by
  cases h
  refine⟨bJ.nil,fun cx σ ι S a w _ _ hx=>⟨a.eval x,?_,hx⟩⟩
  rcases ho with ho|ho<;>simp[execOp,ho]
theorem tq {P:Program} {T:gB} {o:Oper} {σ0:St} {x:Operand} (ho:o.op= .nilCheck x):
 kV P o σ0 (jR σ0 x o.dst fun X=>match X with
  | .e (.c (.pt ob k))=>match aS σ0 (.o ob) with
   |some (.box ty cs)=>some (True,[(.o ob,some (.box ty cs))],.e (.c (.pt ob k)))
   |_=>none
  |_=>none):=
 kF fun X p R Y h _=>by
  split at h
  · rename_i ob k
    split at h
    · rename_i ty cs hl
      cases h
      refine⟨bJ.one hl,fun cx σ ι S a w hr hw hx=> ?_⟩
      have hl':=hr (.o ob,some (.box ty cs)) (by simp)
      have hx':CR σ ι w S (.pt ob k) (a.eval x):=hx
      obtain⟨_,h2⟩:=hx'
      rcases h2 with⟨ty',cs',hl2,b,hi,hv⟩|hd
      · exact⟨a.eval x,by simp[execOp,ho,hv],hx⟩
      · dsimp only at hl';rw[hl'] at hd;cases hd
    · cases h
  · cases h
def nu (i:Nat):V→Option (Prop×List (dD×Option K)×V)
 | .tup xs=>match xs[i]? with
  |some x=>some (True,[],.e x)
  |none=>none
 |_=>none
theorem yf {P:Program} {o:Oper} {σ:St} {x:Operand} {i:Nat} (ho:o.op= .extract x i):kV P o σ (jR σ x o.dst (nu i)):=
 kF fun X p R Y h _=>by
  unfold nu at h
  split at h
  · rename_i xs
    split at h
    · rename_i y hy
      cases h
      refine⟨bJ.nil,fun cx σ ι S a w _ _ hx=> ?_⟩
      obtain⟨vs,hv,hl,hk⟩:=hx
      have hi:i<vs.length:=by rw[hl];exact(aSm.1 hy).1
      exact⟨vs[i],by simp[execOp,ho,hv,Instr.extract,hi],hk i y _ hy (aSn hi)⟩
    · cases h
  · cases h
def vm (m n:Int):Int:=IntKind.i64.wrap ((BitVec.ofInt IntKind.i64.bits m ^^^ BitVec.ofInt IntKind.i64.bits n).toNat)
def jb (m n:Int):Int:=IntKind.u8.wrap ((BitVec.ofInt IntKind.u8.bits m ^^^ BitVec.ofInt IntKind.u8.bits n).toNat)
def hF (n:Int):Int:=n % 256
theorem vO (n:Int):IntKind.i64.wrap n=wrap64 n:=IntKind.wrap_i64 n
theorem el (n:Int):IntKind.u8.wrap n=hF n:=by
 simp[IntKind.wrap,IntKind.bits,IntKind.signed,hF]
def aJj:Nat:=9223372036854775807
def bin:BinOp→D→D→Option (Prop×D)
 | .add,.i m,.i n=>some (True,.i (wrap64 (m+n)))
 | .sub,.i m,.i n=>some (True,.i (wrap64 (m - n)))
 | .mul,.i m,.i n=>some (True,.i (wrap64 (m*n)))
 | .quo,.i m,.i n=>some (n≠0,.i (wrap64 (m.tdiv n)))
 | .rem,.i m,.i n=>some (n≠0,.i (m.tmod n))
 | .xor,.i m,.i n=>some (True,.i (vm m n))
 | .eql,.i m,.i n=>some (True,.b (m==n))
 | .neq,.i m,.i n=>some (True,.b (m != n))
 | .lss,.i m,.i n=>some (True,.b (decide (m<n)))
 | .leq,.i m,.i n=>some (True,.b (decide (m≤n)))
 | .gtr,.i m,.i n=>some (True,.b (decide (m>n)))
 | .geq,.i m,.i n=>some (True,.b (decide (m≥n)))
 | .add,.u m,.u n=>some (True,.u (hF (m+n)))
 | .sub,.u m,.u n=>some (True,.u (hF (m - n)))
 | .xor,.u m,.u n=>some (True,.u (jb m n))
 | .eql,.u m,.u n=>some (True,.b (m==n))
 | .neq,.u m,.u n=>some (True,.b (m != n))
 | .lss,.u m,.u n=>some (True,.b (decide (m<n)))
 | .leq,.u m,.u n=>some (True,.b (decide (m≤n)))
 | .gtr,.u m,.u n=>some (True,.b (decide (m>n)))
 | .geq,.u m,.u n=>some (True,.b (decide (m≥n)))
 | .add,.s l,.s r=>some (l.length+r.length≤aJj,.s (l++r))
 | .eql,.s l,.s r=>some (True,.b (l==r))
 | .neq,.s l,.s r=>some (True,.b (!(l==r)))
 |_,_,_=>none
theorem aG8 (l:List UInt8): (⟨l.toArray⟩:ByteArray).toList=l:=by
 have h: ∀(n i:Nat) (acc:List UInt8),l.length - i=n→ByteArray.toList.loop ⟨l.toArray⟩ i acc=acc.reverse++l.drop i:=by
  intro n
  induction n with
  |zero=>
   intro i acc hn
   unfold ByteArray.toList.loop
   have: ¬i< (⟨l.toArray⟩:ByteArray).size:=by show ¬i<l.toArray.size;simp;omega
   rw[if_neg this,List.drop_eq_nil_of_le (by omega)]
   simp
  |succ n ih=>
   intro i acc hn
   unfold ByteArray.toList.loop
   have hi:i<l.length:=by omega
   have:i< (⟨l.toArray⟩:ByteArray).size:=by show i<l.toArray.size;simpa using hi
   rw[if_pos this,ih (i+1) _ (by omega),List.drop_eq_getElem_cons hi]
   have hg: (⟨l.toArray⟩:ByteArray).get! i=l[i]:=by
    show l.toArray[i]! =l[i]
    simp[hi]
   rw[hg];simp
 unfold ByteArray.toList
 rw[h _ 0 [] rfl];simp
theorem wH (l:List UInt8): (⟨l.toArray⟩:ByteArray).size=l.length:=by show l.toArray.size=l.length;simp
theorem aG9 (l r:List UInt8): (⟨l.toArray⟩:ByteArray)++⟨r.toArray⟩=⟨(l++r).toArray⟩:=by
 apply ByteArray.ext
 rw[ByteArray.data_append]
 simp
theorem lD {P:Program} {w:World} (op:BinOp) (t:TypeId) (x y:Operand) (k k':IntKind) (m n:Int): (eqGuard op t x y (.int k m) (.int k' n)).run P w= .ok () w:=by
 cases op<;>rfl
theorem xZ {P:Program} {w:World} (op:BinOp) (t:TypeId) (x y:Operand) (m n:ByteArray): (eqGuard op t x y (.string m) (.string n)).run P w= .ok () w:=by
 cases op<;>rfl
theorem vP {P:Program} {w:World} (op:BinOp) (t:TypeId) (x y:Operand) (m n:Bool): (eqGuard op t x y (.bool m) (.bool n)).run P w= .ok () w:=by
 cases op<;>rfl
theorem aHa {P:Program} {w:World} {S:Nat→Prop} {op:BinOp} {x y z:D} {p:Prop} {vx vy:Value} (h:bin op x y=some (p,z)) (hp:p) (hx:DR w S x vx) (hy:DR w S y vy) (t:TypeId) (ox oy:Operand):
 ∃v,(do eqGuard op t ox oy vx vy;binOp op t vx vy:Sem Value).run P w= .ok v w∧DR w S z v:=by
 cases hx<;>cases hy<;>cases op<;>first
  |(simp only[bin] at h;cases h;done)
  |(simp only[bin,Option.some.injEq,Prod.mk.injEq] at h
    obtain⟨rfl,rfl⟩:=h
    first
     |(refine⟨_,?_,DR.i _⟩;rw[Sem.run_bind,lD];rfl)
     |(refine⟨_,?_,DR.u _⟩;rw[Sem.run_bind,lD];rfl)
     |(refine⟨_,?_,DR.i _⟩;simp[lD,binOp,Op.intArith,Op.intDiv,Op.intBits,Op.intCmp,vO,hp,vm,IntKind.bits];done)
     |(refine⟨_,?_,DR.b _⟩;simp[lD,binOp,Op.intArith,Op.intDiv,Op.intBits,Op.intCmp,xZ,Op.stringOp,aG8];done)
     |(refine⟨_,?_,DR.u _⟩;simp[lD,binOp,Op.intArith,Op.intDiv,Op.intBits,Op.intCmp,el,jb,IntKind.bits,hF];done)
     |(refine⟨_,?_,DR.s _⟩;simp only[aJj] at hp;simp[xZ,binOp,Op.stringOp,aG9,wH,IntKind.max,IntKind.bits,IntKind.signed];omega))
set_option linter.unusedSimpArgs false
def fUn:UnOp→V→Option (Prop×List (dD×Option K)×V)
 | .not,.e (.c (.d (.b x)))=>some (True,[],B (!x))
 | .neg,.e (.c (.d (.i n)))=>some (True,[],I (wrap64 (0 - n)))
 |_,_=>none
theorem aLu {P:Program} {o:Oper} {σ:St} {x:Operand} {u:UnOp} {t:TypeId} (ho:o.op= .unOp u t x):kV P o σ (jR σ x o.dst (fUn u)):=
 kF fun X p R Y h _=>by
  unfold fUn at h
  split at h
  · cases h
    refine⟨bJ.nil,fun cx σ ι S a w _ _ hx=> ?_⟩
    simp only[kU,ER,CR] at hx
    cases hv:a.eval x<;>rw[hv] at hx<;>cases hx
    exact⟨_,by simp[execOp,ho,hv,Op.unary]<;>rfl,.b _⟩
  · cases h
    refine⟨bJ.nil,fun cx σ ι S a w _ _ hx=> ?_⟩
    simp only[kU,ER,CR] at hx
    cases hv:a.eval x<;>rw[hv] at hx<;>cases hx
    exact⟨_,by simp[execOp,ho,hv,Op.unary,Op.intArith,vO]<;>rfl,.i _⟩
  · cases h
def aLv (op:BinOp):V→V→Option (Prop×List (dD×Option K)×V)
 | .e (.c (.d x)),.e (.c (.d y))=>match bin op x y with
  |some (p,z)=>some (p,[],Dv z)
  |none=>none
 |_,_=>none
theorem aAy {P:Program} {o:Oper} {σ:St} {x y:Operand} {op:BinOp} {t u:TypeId} (ho:o.op= .binOp op t x y u):kV P o σ (pT σ x y o.dst (aLv op)):=
 pX fun X Y p R Z h hp=>by
  unfold aLv at h
  split at h
  · split at h
    · rename_i p' z hb
      cases h
      refine⟨bJ.nil,fun cx σ ι S a w _ _ hx hy=> ?_⟩
      obtain⟨v,hr,hz⟩:=aHa (P:=P) hb hp hx hy t x y
      exact⟨v,by unfold execOp;simp only[ho];rw[Sem.run_bind,hr];rfl,hz⟩
    · cases h
  · cases h
def aJk (T:gB) (dst:TypeId):V→Option (Prop×List (dD×Option K)×V)
 | .e (.c (.d (.i n)))=>match T dst with
  |some ⟨.int .i64,_,_,_⟩=>some (True,[],I (wrap64 n))
  |some ⟨.int .u8,_,_,_⟩=>some (True,[],Dv (.u (hF n)))
  |_=>none
 | .e (.c (.d (.u n)))=>match T dst with
  |some ⟨.int .i64,_,_,_⟩=>some (True,[],I (wrap64 n))
  |some ⟨.int .u8,_,_,_⟩=>some (True,[],Dv (.u (hF n)))
  |_=>none
 |_=>none
theorem aAz {P:Program} {w:World} {src dst:TypeId} {k k':IntKind} {n:Int} (hs: (P.underlying src).isSome=true) (hd:P.underlying dst=some (.int k')): (convert src dst (.int k n)).run P w= .ok (.int k' (k'.wrap n)) w:=by
 obtain⟨d,hd'⟩:=Option.isSome_iff_exists.mp hs
 simp[convert,run_underlying hd',run_underlying hd,Conv.intToInt]
theorem aHb {P:Program} {T:gB} (hT:dK P T) {o:Oper} {σ:St} {x:Operand} {src dst:TypeId} (ho:o.op= .convert src dst x) (hs: (T src).isSome=true):kV P o σ (jR σ x o.dst (aJk T dst)):=by
 obtain⟨si,hsi⟩:=Option.isSome_iff_exists.mp hs
 have hsrc: (P.underlying src).isSome=true:=by
  have:=(hT src si hsi).kind
  cases hk:si.kind<;>rw[hk] at this<;>simp only[kW] at this<;>(try(obtain⟨_,this,_⟩:=this))<;>simp[this]
 refine kF fun X p R Y h _=> ?_
 unfold aJk at h
 split at h<;>try(cases h;done)
 all_goals
  split at h<;>try(cases h;done)
  all_goals
   rename_i ht
   cases h
   refine⟨bJ.nil,fun cx σ ι S a w _ _ hx=> ?_⟩
   have hk:=(hT dst _ ht).kind
   simp only[kW] at hk
   simp only[kU,ER,CR] at hx
   cases hv:a.eval x<;>rw[hv] at hx<;>cases hx
   first
    |exact⟨_,by simp[execOp,ho,hv,aAz hsrc hk,vO,el]<;>rfl,.i _⟩
    |exact⟨_,by simp[execOp,ho,hv,aAz hsrc hk,vO,el]<;>rfl,.u _⟩
def aJl:V→V→Option (Prop×List (dD×Option K)×V)
 | .e (.c (.d (.s l))),.e (.c (.d (.i n)))=>some (0≤n∧n<l.length,[],Dv (.u ((l.getD n.toNat 0).toNat:Int)))
 |_,_=>none
theorem aHc {P:Program} {T:gB} (hT:dK P T) {o:Oper} {σ:St} {x y:Operand} {t:TypeId} {ti:TI} (ho:o.op= .index t x y) (ht:T t=some ti) (hk:ti.kind= .str):kV P o σ (pT σ x y o.dst aJl):=
 pX fun X Y p R Z h hp=>by
  unfold aJl at h
  split at h
  · rename_i l n
    cases h
    refine⟨bJ.nil,fun cx σ ι S a w _ _ hx hy=> ?_⟩
    have hu:=(hT t ti ht).kind
    rw[hk] at hu;simp only[kW] at hu
    simp only[kU,ER,CR] at hx hy
    cases hv:a.eval x<;>rw[hv] at hx<;>cases hx
    cases hv2:a.eval y<;>rw[hv2] at hy<;>cases hy
    have hlt:n.toNat<l.length:=by omega
    have hg: (⟨l.toArray⟩:ByteArray)[n.toNat]? =some l[n.toNat]:=by
     have hsz:n.toNat< (⟨l.toArray⟩:ByteArray).size:=by rw[wH];exact hlt
     rw[getElem?_pos (⟨l.toArray⟩:ByteArray) n.toNat hsz];rfl
    refine⟨.int .u8 (l[n.toNat].toNat),?_,?_⟩
    · simp[execOp,ho,hv,hv2,Instr.index,asIntOf,run_underlying hu,hp.1,hg]
    · have:l.getD n.toNat 0=l[n.toNat]:=by simp[hlt]
      rw[this];exact .u _
  · cases h
def jc (σ:St):V→Option (Prop×List (dD×Option K)×V)
 | .e (.c (.d (.s l)))=>some (True,[],I l.length)
 | .e (.c (.d (.sl rows)))=>some (True,[],I rows.length)
 | .e (.c .nil)=>some (True,[],I 0)
 | .e (.c (.own ob n))=>match aS σ (.o ob) with
  |some (.row e es rows)=>some (rows.length=n,[(.o ob,some (.row e es rows))],I n)
  |_=>none
 |_=>none
theorem aJm {P:Program} {T:gB} (hT:dK P T) {o:Oper} {σ0:St} {x:Operand} {t:TypeId} {ti:TI} (ho:o.op= .call {callee:= .builtin .len,args:= #[x],argTypes:= #[t]}) (ht:T t=some ti)
 (hk:ti.kind= .str∨ ∃e,ti.kind= .sl e):kV P o σ0 (jR σ0 x o.dst fun X=>match ti.kind,X with
  | .str,.e (.c (.d (.s l)))=>jc σ0 (.e (.c (.d (.s l))))
  | .sl _,.e (.c (.d (.sl rows)))=>jc σ0 (.e (.c (.d (.sl rows))))
  | .sl _,.e (.c .nil)=>jc σ0 (.e (.c .nil))
  | .sl _,.e (.c (.own ob n))=>jc σ0 (.e (.c (.own ob n)))
  |_,_=>none):=
 kF fun X p R Y h hp=>by
  have hu:=(hT t ti ht).kind
  split at h<;>try(cases h;done)
  · rename_i hkk
    rw[hkk] at hu;simp only[kW] at hu
    cases h
    refine⟨bJ.nil,fun cx σ ι S a w _ _ hx=> ?_⟩
    simp only[kU,ER,CR] at hx
    cases hv:a.eval x<;>rw[hv] at hx<;>cases hx
    exact⟨_,by simp[execOp,ho,hv,resolve,invoke,builtin,Builtin.len_,run_underlying hu,wH]<;>rfl,.i _⟩
  · rename_i hkk
    rw[hkk] at hu;simp only[kW] at hu
    cases h
    refine⟨bJ.nil,fun cx σ ι S a w _ _ hx=> ?_⟩
    simp only[kU,ER,CR] at hx
    cases hv:a.eval x<;>rw[hv] at hx<;>cases hx
    exact⟨_,by simp[execOp,ho,hv,resolve,invoke,builtin,Builtin.len_,run_underlying hu]<;>rfl,.i _⟩
  · rename_i hkk
    rw[hkk] at hu;simp only[kW] at hu
    cases h
    refine⟨bJ.nil,fun cx σ ι S a w _ _ hx=> ?_⟩
    simp only[kU,ER,CR] at hx
    exact⟨_,by simp[execOp,ho,hx,resolve,invoke,builtin,Builtin.len_,run_underlying hu]<;>rfl,.i _⟩
  · rename_i e ob n hkk
    rw[hkk] at hu;simp only[kW] at hu
    simp only[jc] at h
    split at h
    · rename_i e' es rows hl
      cases h
      refine⟨bJ.one hl,fun cx σ ι S a w hr hw hx=> ?_⟩
      have hl':=hr (.o ob,some (.row e' es rows)) (by simp)
      dsimp only at hl'
      obtain⟨_,h2⟩:=(show CR σ ι w S (.own ob n) (a.eval x) from hx)
      rcases h2 with⟨e2,es2,rows2,hl2,hn,hv⟩|hd
      · rw[hl'] at hl2;cases hl2
        have hv:=hv hp
        have ho2:=hw.vr.objs ob _ hl'
        have hlen: ∃a0 c0,ι ob= .slice a0 n c0:=by
         rcases ho2 with⟨hn2,hr2⟩|⟨g,off,cap,cur,fz,hg,_⟩
         · subst hr2;simp at hp;subst hp;exact⟨_,_,hn2⟩
         · rw[hp] at hg;exact⟨_,_,hg⟩
        obtain⟨a0,c0,hi⟩:=hlen
        exact⟨_,by simp[execOp,ho,hv,hi,resolve,invoke,builtin,Builtin.len_,run_underlying hu]<;>rfl,.i _⟩
      · rw[hl'] at hd;cases hd
    · cases h
set_option linter.unusedSimpArgs false
theorem kL (b k n:Nat): (⟨b,k,none⟩:Addr).add n=⟨b,k+n,none⟩:=by unfold Addr.add;split<;>simp_all
theorem add_add (a:Addr) (m n:Nat): (a.add m).add n=a.add (m+n):=by
 unfold Addr.add
 by_cases h:m=0
 · subst h;simp
 · by_cases h2:n=0
   · subst h2;simp[h]
   · simp[h,h2,Nat.add_assoc,show m+n≠0 by omega]
theorem jd (a:Addr) (n:Nat): (a.add n).block=a.block:=by unfold Addr.add;split<;>rfl
theorem DR.sl_inv {w:World} {S:Nat→Prop} {rows:List (List D)} {v:Value} (h:DR w S (.sl rows) v):
 ∃(a:Option Addr) (cap es:Nat) (ad:Addr) (u:Nat→Nat→Value),v= .slice a rows.length cap∧rows.length≤cap∧cap≤maxLen∧(∀r∈rows,r.length=es)∧(rows≠[]→a=some ad)∧
  (∀(i:Nat) r (k:Nat) d,rows[i]? =some r→r[k]? =some d→S ad.block∧w.cell? (ad.add (i*es+k))=some (u i k))∧(∀(i:Nat) r (k:Nat) d,rows[i]? =some r→r[k]? =some d→DR w S d (u i k)):=by
 generalize hq:D.sl rows=q at h
 cases h with
 |sl rows' a cap es ad u h1 h2 h3 h4 h5 h6=>cases hq;exact⟨a,cap,es,ad,u,rfl,h1,h2,h3,h4,h5,h6⟩
 |_=>cases hq
def sF (T:gB) (s f:Nat):Option (Nat×TI):=
 match T s with
 |some ⟨.st fs,_,_,_⟩=>match fs[f]? with
  |some (off,ft)=>match T ft with
   |some ti=>some (off,ti)
   |none=>none
  |none=>none
 |_=>none
theorem uY {P:Program} {T:gB} (hT:dK P T) {s f off:Nat} {ti:TI} (h:sF T s f=some (off,ti)):
 ∃(fields:Array Field) (fl:Field),P.underlying s=some (.struct fields)∧fields[f]? =some fl∧fl.offset=off∧eK P fl.type ti:=by
 unfold sF at h
 split at h
 · rename_i fs _ _ _ hs
   split at h
   · rename_i off' ft hf
     split at h
     · rename_i ti' ht
       cases h
       obtain⟨fields,hu,hm⟩:=(hT s _ hs).kind
       rw[← hm,List.getElem?_map] at hf
       cases hq:fields.toList[f]? with
       |none=>rw[hq] at hf;cases hf
       |some fl=>
        rw[hq] at hf
        simp at hf
        refine⟨fields,fl,hu,by simpa using hq,hf.1,?_⟩
        rw[hf.2];exact hT ft _ ht
     · cases h
   · cases h
 · cases h
def ct (T:gB) (σ:St) (s f:Nat):V→Option (Prop×List (dD×Option K)×V)
 | .e (.c (.pt ob k))=>match sF T s f,aS σ (.o ob) with
  |some (off,_),some (.box ty cs)=>some (True,[(.o ob,some (.box ty cs))],.e (.c (.pt ob (k+off))))
  |_,_=>none
 | .e (.c (.pe ob n i k))=>match sF T s f,aS σ (.o ob) with
  |some (off,_),some (.row e es rows)=>some (rows.length=n,[(.o ob,some (.row e es rows))],.e (.c (.pe ob n i (k+off))))
  |_,_=>none
 | .e (.c (.rp cs))=>match sF T s f with
  |some (off,_)=>some (True,[],.e (.c (.rp (cs.drop off))))
  |_=>none
 |_=>none
theorem uD {P:Program} {w:World} {T:gB} (hT:dK P T) {s f off:Nat} {ti:TI} (h:sF T s f=some (off,ti)) (a:Addr): (Instr.fieldAt s (.pointer (some a)) f).run P w= .ok (.pointer (some (a.add off))) w:=by
 obtain⟨fields,fl,hu,hf,ho,hti⟩:=uY hT h
 have hp:=hti.pos
 have hne: ¬ti.size=0:=by omega
 simp[Instr.fieldAt,run_underlying hu,hf,Instr.sureAddr,fieldPlace,fB hti,hne,ho]
theorem nw {P:Program} {T:gB} (hT:dK P T) {o:Oper} {σ0:St} {x:Operand} {s f:Nat} (ho:o.op= .fieldAddr s x f):kV P o σ0 (jR σ0 x o.dst (ct T σ0 s f)):=
 kF fun X p R Y h hp=>by
  unfold ct at h
  split at h
  · rename_i ob k
    split at h
    · rename_i off ti ty cs hf hl
      cases h
      refine⟨bJ.one hl,fun cx σ ι S a w hr hw hx=> ?_⟩
      have hl':=hr (.o ob,some (.box ty cs)) (by simp)
      dsimp only at hl'
      obtain⟨_,h2⟩:=(show CR σ ι w S (.pt ob k) (a.eval x) from hx)
      rcases h2 with⟨ty2,cs2,hl2,b,hi,hv⟩|hd
      · refine⟨.pointer (some ⟨b,k+off,none⟩),by simp[execOp,ho,hv,uD hT hf,kL],rfl,.inl ⟨ty2,cs2,hl2,b,hi,rfl⟩⟩
      · rw[hl'] at hd;cases hd
    · cases h
  · rename_i ob n i k
    split at h
    · rename_i off ti e es rows hf hl
      cases h
      refine⟨bJ.one hl,fun cx σ ι S a w hr hw hx=> ?_⟩
      have hl':=hr (.o ob,some (.row e es rows)) (by simp)
      dsimp only at hl'
      obtain⟨_,h2⟩:=(show CR σ ι w S (.pe ob n i k) (a.eval x) from hx)
      rcases h2 with⟨e2,es2,rows2,hl2,hn,hv⟩|hd
      · rw[hl'] at hl2;cases hl2
        obtain⟨g,off',cap,hi,hvv⟩:=hv hp
        refine⟨.pointer (some ⟨g,off'+i*es+(k+off),none⟩),by simp[execOp,ho,hvv,uD hT hf,kL];omega,rfl,.inl ⟨e,es,rows,hl',hn,fun _=>⟨g,off',cap,hi,rfl⟩⟩⟩
      · rw[hl'] at hd;cases hd
    · cases h
  · rename_i cs
    split at h
    · rename_i off ti hf
      cases h
      refine⟨bJ.nil,fun cx σ ι S a w _ hw hx=> ?_⟩
      obtain⟨ad,hv,hk⟩:=(show CR σ ι w S (.rp cs) (a.eval x) from hx)
      refine⟨.pointer (some (ad.add off)),by simp[execOp,ho,hv,uD hT hf],ad.add off,rfl,fun k d hd=> ?_⟩
      rw[List.getElem?_drop] at hd
      obtain⟨hs,u,hu,hdr⟩:=hk (off+k) d hd
      refine⟨by rw[jd];exact hs,u,by rw[add_add];exact hu,hdr⟩
    · cases h
  · cases h
def aDn (T:gB) (s f:Nat):V→Option (Prop×List (dD×Option K)×V)
 | .e (.agg cs)=>match sF T s f with
  |some (off,ti)=>if ti.kind.agg then some (off+ti.size≤cs.length,[],.e (.agg ((cs.drop off).take ti.size))) else some (off<cs.length,[],.e (.c (cs.getD off .nil)))
  |none=>none
 |_=>none
theorem aDo {P:Program} {T:gB} (hT:dK P T) {o:Oper} {σ0:St} {x:Operand} {s f:Nat} (ho:o.op= .field s x f):kV P o σ0 (jR σ0 x o.dst (aDn T s f)):=
 kF fun X p R Y h hp=>by
  unfold aDn at h
  split at h
  · rename_i cs
    split at h
    · rename_i off ti hf
      obtain⟨fields,fl,hu,hfl,hoff,hti⟩:=uY hT hf
      split at h
      · rename_i hag
        cases h
        refine⟨bJ.nil,fun cx σ ι S a w _ hw hx=> ?_⟩
        obtain⟨vs,hv,hl,hk⟩:=(show ER σ ι w S (.agg cs) (a.eval x) from hx)
        refine⟨.agg ((vs.drop off).take ti.size).toArray,?_,(vs.drop off).take ti.size,rfl,by simp[hl],fun k c u h1 h2=> ?_⟩
        · simp[execOp,ho,hv,Instr.field,run_underlying hu,hfl,asAgg,part,pW hti,hag,fB hti,hoff,List.extract_eq_take_drop]
        · rw[List.getElem?_take] at h1 h2
          split at h1
          · rename_i hlt
            rw[if_pos hlt] at h2
            rw[List.getElem?_drop] at h1 h2
            exact hk _ c u h1 h2
          · cases h1
      · rename_i hag
        cases h
        refine⟨bJ.nil,fun cx σ ι S a w _ hw hx=> ?_⟩
        obtain⟨vs,hv,hl,hk⟩:=(show ER σ ι w S (.agg cs) (a.eval x) from hx)
        have hlt:off<vs.length:=by rw[hl];exact hp
        have hag':ti.kind.agg=false:=by simpa using hag
        refine⟨vs[off],?_,?_⟩
        · simp[execOp,ho,hv,Instr.field,run_underlying hu,hfl,asAgg,part,pW hti,hag',hoff,hlt]
        · have:cs.getD off .nil=cs[off]:=by simp[hp]
          rw[this]
          exact hk off _ _ (aSn hp) (aSn hlt)
    · cases h
  · cases h
def cu (T:gB) (σ:St) (t:TypeId):V→V→Option (Prop×List (dD×Option K)×V)
 | .e (.c (.own ob n)),.e (.c (.d (.i j)))=>match T t,aS σ (.o ob) with
  |some ⟨.sl e,_,_,_⟩,some (.row e' es rows)=>match T e with
   |some ti=>if ti.size=es then some (rows.length=n∧0≤j∧j<n,[(.o ob,some (.row e' es rows))],.e (.c (.pe ob n j.toNat 0))) else none
   |none=>none
  |_,_=>none
 | .e (.c (.d (.sl rows))),.e (.c (.d (.i j)))=>match T t with
  |some ⟨.sl e,_,_,_⟩=>match T e with
   |some ti=>some ((0≤j∧j<rows.length)∧(rows.getD j.toNat []).length=ti.size,[],.e (.c (.rp (rows.getD j.toNat []))))
   |none=>none
  |_=>none
 | .e (.c (.pt ob k)),.e (.c (.d (.i j)))=>match T t,aS σ (.o ob) with
  |some ⟨.arr n e,_,_,_⟩,some (.box ty cs)=>match T e with
   |some ti=>some (0≤j∧j<n,[(.o ob,some (.box ty cs))],.e (.c (.pt ob (k+j.toNat*ti.size))))
   |none=>none
  |_,_=>none
 |_,_=>none
theorem sZ {P:Program} {w:World} {t e:TypeId} {ti:TI} (hu:P.underlying t=some (.slice e)) (he:eK P e ti) (a:Addr) (len cap:Nat) (j:Int) (h0:0≤j) (h1:j<len):
 (Instr.indexAt t (.slice (some a) len cap) (.int .i64 j)).run P w= .ok (.pointer (some (a.add (j.toNat*ti.size)))) w:=by
 simp[Instr.indexAt,run_underlying hu,asIntOf,h0,h1,fB he]
theorem nx {P:Program} {T:gB} (hT:dK P T) {o:Oper} {σ0:St} {x y:Operand} {t:TypeId} (ho:o.op= .indexAddr t x y):kV P o σ0 (pT σ0 x y o.dst (cu T σ0 t)):=
 pX fun X Y p R Z h hp=>by
  unfold cu at h
  split at h
  · rename_i ob n j
    split at h<;>try(cases h;done)
    rename_i e _ _ _ e' es rows ht hl
    split at h<;>try(cases h;done)
    rename_i ti hte
    split at h<;>try(cases h;done)
    rename_i hes
    cases h
    have hu:=(hT t _ ht).kind
    simp only[kW] at hu
    refine⟨bJ.one hl,fun cx σ ι S a w hr hw hx hy=> ?_⟩
    have hl':=hr (.o ob,some (.row e' es rows)) (by simp)
    dsimp only at hl'
    simp only[kU,ER,CR] at hy
    cases hv2:a.eval y<;>rw[hv2] at hy<;>cases hy
    obtain⟨_,h2⟩:=(show CR σ ι w S (.own ob n) (a.eval x) from hx)
    rcases h2 with⟨e2,es2,rows2,hl2,hn,hv⟩|hd
    · rw[hl'] at hl2;cases hl2
      have hv:=hv hp.1
      rcases hw.vr.objs ob _ hl' with⟨hn2,hr2⟩|⟨g,off,cap,cur,fz,hg,_⟩
      · subst hr2;have h1:=hp.1;have h3:=hp.2.2;have h4:=hp.2.1;simp at h1;omega
      · rw[hp.1] at hg
        refine⟨.pointer (some ⟨g,off+j.toNat*es+0,none⟩),?_,rfl,.inl ⟨e',es,rows,hl',hn,fun _=>⟨g,off,cap,hg,rfl⟩⟩⟩
        simp[execOp,ho,hv,hv2,hg,sZ hu (hT e ti hte) ⟨g,off,none⟩ n cap j hp.2.1 hp.2.2,kL,hes]
    · rw[hl'] at hd;cases hd
  · rename_i rows j
    split at h<;>try(cases h;done)
    rename_i e _ _ _ ht
    split at h<;>try(cases h;done)
    rename_i ti hte
    cases h
    have hu:=(hT t _ ht).kind
    simp only[kW] at hu
    refine⟨bJ.nil,fun cx σ ι S a w hr hw hx hy=> ?_⟩
    simp only[kU,ER,CR] at hx hy
    cases hv2:a.eval y<;>rw[hv2] at hy<;>cases hy
    obtain⟨⟨h0,h1⟩,hlen⟩:=hp
    have hlt:j.toNat<rows.length:=by omega
    have hrow:rows.getD j.toNat []=rows[j.toNat]:=by simp[hlt]
    obtain⟨a0,cap,es,ad,u,hv,hc,hm,he,ha,hw1,hd1⟩:=hx.sl_inv
    have ha0:=ha (by intro e;rw[e] at hlt;simp at hlt)
    subst ha0
    refine⟨.pointer (some (ad.add (j.toNat*ti.size))),?_,ad.add (j.toNat*ti.size),rfl,fun k d hd=> ?_⟩
    · simp[execOp,ho,hv,hv2,sZ hu (hT e ti hte) ad rows.length cap j h0 h1]
    · rw[hrow] at hd hlen
      have hes:es=ti.size:=by rw[← hlen];exact(he _ (List.getElem_mem hlt)).symm
      obtain⟨hs,hcell⟩:=hw1 j.toNat _ k d (aSn hlt) hd
      rw[hes] at hcell
      exact⟨by rw[jd];exact hs,_,by rw[add_add];exact hcell,hd1 j.toNat _ k d (aSn hlt) hd⟩
  · rename_i ob k j
    split at h<;>try(cases h;done)
    rename_i n e _ _ _ ty cs ht hl
    split at h<;>try(cases h;done)
    rename_i ti hte
    cases h
    have hu:=(hT t _ ht).kind
    simp only[kW] at hu
    refine⟨bJ.one hl,fun cx σ ι S a w hr hw hx hy=> ?_⟩
    have hl':=hr (.o ob,some (.box ty cs)) (by simp)
    dsimp only at hl'
    simp only[kU,ER,CR] at hy
    cases hv2:a.eval y<;>rw[hv2] at hy<;>cases hy
    obtain⟨_,h2⟩:=(show CR σ ι w S (.pt ob k) (a.eval x) from hx)
    rcases h2 with⟨ty2,cs2,hl2,b,hi,hv⟩|hd
    · refine⟨.pointer (some ⟨b,k+j.toNat*ti.size,none⟩),?_,rfl,.inl ⟨ty2,cs2,hl2,b,hi,rfl⟩⟩
      simp[execOp,ho,hv,hv2,Instr.indexAt,run_underlying hu,asIntOf,Instr.sureAddr,hp.1,hp.2,fB (hT e ti hte),kL]
    · rw[hl'] at hd;cases hd
  · cases h
set_option linter.unusedSimpArgs false
def ny (T:gB) (σ:St) (t:TypeId):V→Option (Prop×List (dD×Option K)×V)
 | .e (.c (.pt ob k))=>match T t,aS σ (.o ob) with
  |some ti,some (.box ty cs)=>if ti.kind.agg then some (k+ti.size≤cs.length,[(.o ob,some (.box ty cs))],.e (.agg ((cs.drop k).take ti.size)))
   else some (k<cs.length,[(.o ob,some (.box ty cs))],.e (.c (cs.getD k .nil)))
  |_,_=>none
 | .e (.c (.pe ob n i k))=>match T t,aS σ (.o ob) with
  |some ti,some (.row e es rows)=>if ti.kind.agg then some (rows.length=n∧i<n∧k+ti.size≤(rows.getD i []).length,[(.o ob,some (.row e es rows))],.e (.agg ((((rows.getD i []).drop k).take ti.size).map C.d)))
   else some (rows.length=n∧i<n∧k< (rows.getD i []).length,[(.o ob,some (.row e es rows))],Dv ((rows.getD i []).getD k (.i 0)))
  |_,_=>none
 | .e (.c (.rp cs))=>match T t with
  |some ti=>if ti.kind.agg then some (ti.size≤cs.length,[],.e (.agg ((cs.take ti.size).map C.d))) else some (0<cs.length,[],Dv (cs.getD 0 (.i 0)))
  |_=>none
 |_=>none
theorem vn {P:Program} {T:gB} (hT:dK P T) {o:Oper} {σ0:St} {x:Operand} {t:TypeId} (ho:o.op= .load t x):kV P o σ0 (jR σ0 x o.dst (ny T σ0 t)):=
 kF fun X p R Y h hp=>by
  unfold ny at h
  split at h
  · rename_i ob k
    split at h<;>try(cases h;done)
    rename_i ti ty cs ht hl
    have hti:=hT t ti ht
    have main: ∀(cx:Cx P) (σ:St) (ι:Nat→Value) (S:Nat→Prop) (a:Act) (w:World),bJ [(.o ob,some (.box ty cs))] σ→RW cx σ ι S a w→kU σ ι w S (.e (.c (.pt ob k))) (a.eval x)→
     ∃(b:Nat) (vs:List Value),a.eval x= .pointer (some ⟨b,k,none⟩)∧vs.length=cs.length∧(∀(j:Nat) v,vs[j]? =some v→w.cell? ⟨b,j,none⟩=some v)∧ ∀(j:Nat) c u,cs[j]? =some c→vs[j]? =some u→CR σ ι w S c u:=by
     intro cx σ ι S a w hr hw hx
     have hl':=hr (.o ob,some (.box ty cs)) (by simp)
     dsimp only at hl'
     obtain⟨_,h2⟩:=(show CR σ ι w S (.pt ob k) (a.eval x) from hx)
     rcases h2 with⟨ty2,cs2,hl2,b,hi,hv⟩|hd
     · obtain⟨b',vs,hi',hh,hsz,hc⟩:=hw.vr.objs ob _ hl'
       rw[hi] at hi'
       cases hi'
       refine⟨b,vs.toList,hv,by simpa using hsz,fun j v hj=> ?_,fun j c u h1 h2=>hc j c u h1 (by simpa using h2)⟩
       rw[cell_of_row w b j vs ty (0,0) hh];simpa using hj
     · rw[hl'] at hd;cases hd
    split at h
    · rename_i hag
      cases h
      refine⟨bJ.one hl,fun cx σ ι S a w hr hw hx=> ?_⟩
      obtain⟨b,vs,hv,hlen,hcell,hc⟩:=main cx σ ι S a w hr hw hx
      refine⟨.agg ((vs.drop k).take ti.size).toArray,?_,(vs.drop k).take ti.size,rfl,by simp[hlen],fun j c u h1 h2=> ?_⟩
      · have:=lC (w:=w) hti hag ⟨b,k,none⟩ ((vs.drop k).take ti.size) (by simp[hlen];omega) (fun j v hj=>by
         rw[kL]
         rw[List.getElem?_take] at hj
         split at hj
         · rw[List.getElem?_drop] at hj;exact hcell _ _ hj
         · cases hj)
        simp[execOp,ho,hv,Instr.loadAt,Instr.sureAddr,this]
      · rw[List.getElem?_take] at h1 h2
        split at h1
        · rename_i hlt
          rw[if_pos hlt] at h2
          rw[List.getElem?_drop] at h1 h2
          exact hc _ c u h1 h2
        · cases h1
    · rename_i hag
      have hag':ti.kind.agg=false:=by simpa using hag
      cases h
      refine⟨bJ.one hl,fun cx σ ι S a w hr hw hx=> ?_⟩
      obtain⟨b,vs,hv,hlen,hcell,hc⟩:=main cx σ ι S a w hr hw hx
      have hlt:k<vs.length:=by rw[hlen];exact hp
      refine⟨vs[k],?_,?_⟩
      · have:=rP (w:=w) hti hag' ⟨b,k,none⟩ vs[k] (hcell k _ (aSn hlt))
        simp[execOp,ho,hv,Instr.loadAt,Instr.sureAddr,this]
      · have:cs.getD k .nil=cs[k]:=by simp[hp]
        rw[this]
        exact hc k _ _ (aSn hp) (aSn hlt)
  · rename_i ob n i k
    split at h<;>try(cases h;done)
    rename_i ti e es rows ht hl
    have hti:=hT t ti ht
    have main: ∀(cx:Cx P) (σ:St) (ι:Nat→Value) (S:Nat→Prop) (a:Act) (w:World),bJ [(.o ob,some (.row e es rows))] σ→RW cx σ ι S a w→kU σ ι w S (.e (.c (.pe ob n i k))) (a.eval x)→rows.length=n→i<n→
     ∃(b off:Nat),a.eval x= .pointer (some ⟨b,off+k,none⟩)∧(∀(j:Nat) d,(rows.getD i [])[j]? =some d→ ∃u,w.cell? ⟨b,off+j,none⟩=some u∧DR w S d u):=by
     intro cx σ ι S a w hr hw hx hn hi
     have hl':=hr (.o ob,some (.row e es rows)) (by simp)
     dsimp only at hl'
     obtain⟨_,h2⟩:=(show CR σ ι w S (.pe ob n i k) (a.eval x) from hx)
     rcases h2 with⟨e2,es2,rows2,hl2,hn2,hv⟩|hd
     · rw[hl'] at hl2;cases hl2
       obtain⟨g,off,cap,hig,hvv⟩:=hv hn
       rcases hw.vr.objs ob _ hl' with⟨hn3,_⟩|⟨g',off',cap',cur,fz,hg,hh,_,_,_,_,hrows⟩
       · rw[hig] at hn3;cases hn3
       · rw[hig] at hg;cases hg
         have hlt:i<rows.length:=by omega
         have hrow:rows.getD i []=rows[i]:=by simp[hlt]
         refine⟨g,off+i*es,hvv,fun j d hd=> ?_⟩
         rw[hrow] at hd
         obtain⟨u,hu,hdr⟩:=(hrows i _ (aSn hlt)).2 j d hd
         exact⟨u,by rw[cell_of_row w g _ cur e fz hh];exact hu,hdr⟩
     · rw[hl'] at hd;cases hd
    split at h
    · rename_i hag
      cases h
      refine⟨bJ.one hl,fun cx σ ι S a w hr hw hx=> ?_⟩
      obtain⟨b,off,hv,hcell⟩:=main cx σ ι S a w hr hw hx hp.1 hp.2.1
      have hex: ∃vs:List Value,vs.length=ti.size∧(∀(j:Nat) v,vs[j]? =some v→w.cell? ⟨b,off+k+j,none⟩=some v)∧ ∀(j:Nat) d u,(((rows.getD i []).drop k).take ti.size)[j]? =some d→vs[j]? =some u→DR w S d u:=by
       refine⟨(aSp ti.size).map fun j=>(w.cell? ⟨b,off+k+j,none⟩).getD undef,by simp,fun j v hj=> ?_,fun j d u h1 h2=> ?_⟩
       · have hjl:j<ti.size:=by have:=(aSm.1 hj).1;simpa using this
         simp[hjl] at hj
         have hlt:k+j< (rows.getD i []).length:=by omega
         obtain⟨u,hu,_⟩:=hcell (k+j) _ (aSn hlt)
         rw[← Nat.add_assoc] at hu
         rw[hu] at hj ⊢
         simpa using hj
       · have hjl:j<ti.size:=by have:=(aSm.1 h2).1;simpa using this
         rw[List.getElem?_take,if_pos hjl,List.getElem?_drop] at h1
         obtain⟨u',hu,hdr⟩:=hcell (k+j) d h1
         rw[← Nat.add_assoc] at hu
         simp[hjl,hu] at h2
         subst h2;exact hdr
      obtain⟨vs,hvl,hvc,hvd⟩:=hex
      refine⟨.agg vs.toArray,?_,vs,rfl,by rw[List.length_map,aSk,aSr,hvl];omega,fun j c u h1 h2=> ?_⟩
      · have:=lC (w:=w) hti hag ⟨b,off+k,none⟩ vs hvl (fun j v hj=>by rw[kL];exact hvc j v hj)
        simp[execOp,ho,hv,Instr.loadAt,Instr.sureAddr,this]
      · rw[List.getElem?_map] at h1
        cases hq: (((rows.getD i []).drop k).take ti.size)[j]? with
        |none=>rw[hq] at h1;cases h1
        |some d=>rw[hq] at h1;cases h1;exact hvd j d u hq h2
    · rename_i hag
      have hag':ti.kind.agg=false:=by simpa using hag
      cases h
      refine⟨bJ.one hl,fun cx σ ι S a w hr hw hx=> ?_⟩
      obtain⟨b,off,hv,hcell⟩:=main cx σ ι S a w hr hw hx hp.1 hp.2.1
      have hlt:=hp.2.2
      obtain⟨u,hu,hdr⟩:=hcell k _ (aSn hlt)
      refine⟨u,?_,?_⟩
      · have:=rP (w:=w) hti hag' ⟨b,off+k,none⟩ u hu
        simp[execOp,ho,hv,Instr.loadAt,Instr.sureAddr,this]
      · have: (rows.getD i []).getD k (.i 0)=(rows.getD i [])[k]:=by
         rw[aSl,aSn hlt];rfl
        simp only[Dv,kU,ER,CR]
        rw[this];exact hdr
  · rename_i cs
    split at h<;>try(cases h;done)
    rename_i ti ht
    have hti:=hT t ti ht
    split at h
    · rename_i hag
      cases h
      refine⟨bJ.nil,fun cx σ ι S a w hr hw hx=> ?_⟩
      obtain⟨ad,hv,hk⟩:=(show CR σ ι w S (.rp cs) (a.eval x) from hx)
      have hex: ∃vs:List Value,vs.length=ti.size∧(∀(j:Nat) v,vs[j]? =some v→w.cell? (ad.add j)=some v)∧ ∀(j:Nat) d u,(cs.take ti.size)[j]? =some d→vs[j]? =some u→DR w S d u:=by
       refine⟨(aSp ti.size).map fun j=>(w.cell? (ad.add j)).getD undef,by simp,fun j v hj=> ?_,fun j d u h1 h2=> ?_⟩
       · have hjl:j<ti.size:=by have:=(aSm.1 hj).1;simpa using this
         simp[hjl] at hj
         have hlt:j<cs.length:=by omega
         obtain⟨_,u,hu,_⟩:=hk j _ (aSn hlt)
         rw[hu] at hj ⊢
         simpa using hj
       · have hjl:j<ti.size:=by have:=(aSm.1 h2).1;simpa using this
         rw[List.getElem?_take,if_pos hjl] at h1
         obtain⟨_,u',hu,hdr⟩:=hk j d h1
         simp[hjl,hu] at h2
         subst h2;exact hdr
      obtain⟨vs,hvl,hvc,hvd⟩:=hex
      refine⟨.agg vs.toArray,?_,vs,rfl,by simp[hvl];omega,fun j c u h1 h2=> ?_⟩
      · have:=lC (w:=w) hti hag ad vs hvl hvc
        simp[execOp,ho,hv,Instr.loadAt,Instr.sureAddr,this]
      · rw[List.getElem?_map] at h1
        cases hq: (cs.take ti.size)[j]? with
        |none=>rw[hq] at h1;cases h1
        |some d=>rw[hq] at h1;cases h1;exact hvd j d u hq h2
    · rename_i hag
      have hag':ti.kind.agg=false:=by simpa using hag
      cases h
      refine⟨bJ.nil,fun cx σ ι S a w hr hw hx=> ?_⟩
      obtain⟨ad,hv,hk⟩:=(show CR σ ι w S (.rp cs) (a.eval x) from hx)
      obtain⟨_,u,hu,hdr⟩:=hk 0 _ (aSn hp)
      have ha0:ad.add 0=ad:=by simp[Addr.add]
      rw[ha0] at hu
      refine⟨u,?_,?_⟩
      · have:=rP (w:=w) hti hag' ad u hu
        simp[execOp,ho,hv,Instr.loadAt,Instr.sureAddr,this]
      · have:cs.getD 0 (.i 0)=cs[0]:=by
         rw[aSl,aSn hp];rfl
        simp only[Dv,kU,ER,CR]
        rw[this];exact hdr
  · cases h
def aGb (σ:St) (c x y:Operand) (d:Option Tmp):tp:=
 match ev σ c,d with
 |some (.e (.c (.d (.b b))),R),some d=>match(if b then ev σ x else ev σ y) with
  |some (Y,R')=>some (True,R++R',[(.t d,.v Y)])
  |none=>none
 |_,_=>none
theorem vo {P:Program} {o:Oper} {σ0:St} {c x y:Operand} (ho:o.op= .pick c x y):kV P o σ0 (aGb σ0 c x y o.dst):=by
 intro p R W h hp
 unfold aGb at h
 split at h
 · rename_i b Rc d hc hd
   split at h
   · rename_i Y R' hy
     cases h
     cases b with
     |true=>
      have hy:ev σ0 x=some (Y,R'):=hy
      refine⟨mT hd fun cx σ ι S a w hr hw=>⟨a.eval x,?_,dA hy hr.right hw⟩,(cZ hc).append (cZ hy)⟩
      have hcv:=dA hc hr.left hw
      simp only[kU,ER,CR] at hcv
      cases hv:a.eval c<;>rw[hv] at hcv<;>cases hcv
      simp[execOp,ho,hv,asBool]
     |false=>
      have hy:ev σ0 y=some (Y,R'):=hy
      refine⟨mT hd fun cx σ ι S a w hr hw=>⟨a.eval y,?_,dA hy hr.right hw⟩,(cZ hc).append (cZ hy)⟩
      have hcv:=dA hc hr.left hw
      simp only[kU,ER,CR] at hcv
      cases hv:a.eval c<;>rw[hv] at hcv<;>cases hcv
      simp[execOp,ho,hv,asBool]
   · cases h
 · cases h
set_option linter.unusedSimpArgs false
def uZ (σ:St) (l:dD):Bool:=(aS σ l).isNone
def iI (σ:St) (d:Nat):Nat:=if uZ σ (.o d) then d else if uZ σ (.o (d+1000)) then d+1000 else d+2000
theorem oE {σ:St} {l:dD} (h:uZ σ l=true):aS σ l=none:=by simpa[uZ] using h
theorem em {P:Program} {o:Oper} {d id:Nat} {R:List (dD×Option K)} {k:K} {X:V} (hd:o.dst=some d) (habs: (dD.o id,none)∈R)
 (h: ∀(cx:Cx P) (σ:St) (ι:Nat→Value) (S:Nat→Prop) (a:Act) (w:World),bJ R σ→RW cx σ ι S a w→ ∃v p w',(execOp a.eval o).run P w= .ok (.value v) w'∧aG6 σ ι S w id none k p w'∧
  kU (oO σ (.o id) k) (fun o=>if o=id then p else ι o) w' S X v):wG P o R [(.o id,k),(.t d,.v X)]:=by
 intro cx σ ι S a w hr hw hb next Q hn
 obtain⟨v,p,w',he,ht,hx⟩:=h cx σ ι S a w hr hw
 unfold Oper.wp
 rw[he]
 simp only[Oper.upon,hd]
 exact hn _ S _ w' ((hw.turn ht).put (hb d hd) hx)
theorem CR.one {σ:St} {ι:Nat→Value} {w:World} {S:Nat→Prop} {c:C} {v:Value} (h:CR σ ι w S c v):v.oneCell'=true:=by
 cases c with
 |d x=>exact DR.oneCell h
 |nil=>have h:v= .slice none 0 0:=h;rw[h];rfl
 |own o n=>exact h.1
 |pt o k=>exact h.1
 |pe o n i k=>exact h.1
 |rp cs=>obtain⟨ad,hv,_⟩:=h;rw[hv];rfl
 |z o Q=>exact h.1
def cellsOf:V→Option (List C)
 | .e (.c c)=>some [c]
 | .e (.agg cs)=>some cs
 |_=>none
theorem lL {σ:St} {ι:Nat→Value} {w:World} {S:Nat→Prop} {X:V} {cs:List C} {v:Value} (h:cellsOf X=some cs) (hx:kU σ ι w S X v):
 ∃vs:List Value,v.cells=vs.toArray∧vs.length=cs.length∧ ∀(k:Nat) c u,cs[k]? =some c→vs[k]? =some u→CR σ ι w S c u:=by
 unfold cellsOf at h
 split at h
 · rename_i c
   cases h
   have h1:=CR.one (show CR σ ι w S c v from hx)
   refine⟨[v],?_,rfl,fun k c' u h2 h3=> ?_⟩
   · cases v<;>first|rfl|(simp[Value.oneCell'] at h1)
   · cases k with
     |zero=>simp at h2 h3;subst h2;subst h3;exact hx
     |succ k=>simp at h2
 · rename_i cs'
   cases h
   obtain⟨vs,hv,hl,hk⟩:=(show ER σ ι w S (.agg cs) v from hx)
   exact⟨vs,by rw[hv];rfl,hl,hk⟩
 · cases h
theorem wI {σ:St} {ι ν:Nat→Value} {S:Nat→Prop} {w w0:World} {id:Nat} {k:K} {p:Value} {o:Obj} (hw:w0.heap=w.heap∧w0.os=w.os∧w0.tape=w.tape∧w0.output=w.output) (hno:aS σ (.o id)=none)
 (hp: ∀b,wF p b→b=w.heap.size) (hor:pR σ ι S w (oO σ (.o id) k) (fun o=>if o=id then p else ι o) S (w0.alloc o)→OR (oO σ (.o id) k) (fun o=>if o=id then p else ι o) (w0.alloc o) S p k)
 (hsz: ∀b,S b→b<w.heap.size):aG6 σ ι S w id none k p (w0.alloc o)∧pR σ ι S w (oO σ (.o id) k) (fun o=>if o=id then p else ι o) S (w0.alloc o):=by
 obtain⟨hh,ho,ht,hu⟩:=hw
 have hold: ∀b,b<w.heap.size→(w0.alloc o).heap[b]? =w.heap[b]?:=fun b hb=>by rw[heap_alloc_old w0 o b (by rw[hh];exact hb),hh]
 have st:pR σ ι S w (oO σ (.o id) k) (fun o=>if o=id then p else ι o) S (w0.alloc o):=by
  refine⟨fun _ h=>h,fun b hb=>hold b (hsz b hb),fun o' k0 hk=> ?_⟩
  by_cases e:o'=id
  · subst e;rw[hno] at hk;cases hk
  · refine⟨k0,by rw[cI _ _ (by simpa using fun h=>e h.symm)];exact hk,?_⟩
    rw[if_neg e];exact lZ.refl' _ _
 exact⟨⟨ho,ht,hu,by simp[hh],fun b hb _=>hold b hb,(fun b hb=>by cases hb),.inl hno,(fun b hb=> .inr (by rw[hp b hb];exact aSo _)),hor st⟩,st⟩
def aOt (σ:St) (elem:TypeId) (x:Operand) (d:Option Tmp):tp:=
 match ev σ x,d with
 |some (X,R),some d=>match cellsOf X with
  |some cs=>if uZ σ (.o (iI σ d)) then some (True,R++[(.o (iI σ d),none)],[(.o (iI σ d),.box elem cs),(.t d,.v (.e (.c (.pt (iI σ d) 0))))]) else none
  |none=>none
 |_,_=>none
theorem aJn {P:Program} {o:Oper} {σ0:St} {elem:TypeId} {x:Operand} (ho:o.op= .box elem x):kV P o σ0 (aOt σ0 elem x o.dst):=by
 intro p R W h hp
 unfold aOt at h
 split at h<;>try(cases h;done)
 rename_i X Rx d hx hd
 split at h<;>try(cases h;done)
 rename_i cs hcs
 split at h<;>try(cases h;done)
 rename_i habs
 cases h
 refine⟨em hd (by simp) fun cx σ ι S a w hr hw=> ?_,(cZ hx).append (bJ.one (oE habs))⟩
 have hno:=hr.right (.o (iI σ0 d),none) (by simp)
 dsimp only at hno
 have hX:=dA hx hr.left hw
 obtain⟨vs,hv,hl,hk⟩:=lL hcs hX
 obtain⟨ht,st⟩:=wI (ν:=gZ a) (w:=w) (w0:=w) (σ:=σ) (ι:=ι) (S:=S) (id:=iI σ0 d) (k:= .box elem cs) (p:= .pointer (some ⟨w.heap.size,0,none⟩)) (o:= .cells vs.toArray elem) ⟨rfl,rfl,rfl,rfl⟩ hno
  (fun b hb=>by simp[wF] at hb;exact hb.symm)
  (fun st=>⟨w.heap.size,vs.toArray,rfl,heap_alloc_new w _,by simpa using hl,fun k c u h1 h2=>CR.step st (hk k c u h1 (by simpa using h2))⟩) hw.vr.sz
 refine⟨_,_,_,?_,ht,rfl,.inl ⟨elem,cs,cQ _ _ _,w.heap.size,by simp,rfl⟩⟩
 simp[execOp,ho,Instr.box,newVar,newRow,hv]
def aDp (T:gB) (σ:St) (elem:TypeId) (d:Option Tmp):tp:=
 match T elem,d with
 |some ti,some d=>if uZ σ (.o (iI σ d)) then some (True,[(.o (iI σ d),none)],[(.o (iI σ d),.box elem ti.zero),(.t d,.v (.e (.c (.pt (iI σ d) 0))))]) else none
 |_,_=>none
theorem aDq {P:Program} {T:gB} (hT:dK P T) {o:Oper} {σ0:St} {elem:TypeId} (ho:o.op= .alloc elem):kV P o σ0 (aDp T σ0 elem o.dst):=by
 intro p R W h hp
 unfold aDp at h
 split at h<;>try(cases h;done)
 rename_i ti d hti hd
 split at h<;>try(cases h;done)
 rename_i habs
 cases h
 have hok:=hT elem ti hti
 refine⟨em hd (by simp) fun cx σ ι S a w hr hw=> ?_,bJ.one (oE habs)⟩
 have hno:=hr (.o (iI σ0 d),none) (by simp)
 dsimp only at hno
 obtain⟨z,hz,hzc⟩:=aG7 (w:=w) hok
 obtain⟨ht,st⟩:=wI (ν:=gZ a) (w:=w) (w0:=w) (σ:=σ) (ι:=ι) (S:=S) (id:=iI σ0 d) (k:= .box elem ti.zero) (p:= .pointer (some ⟨w.heap.size,0,none⟩)) (o:= .cells z.cells elem) ⟨rfl,rfl,rfl,rfl⟩ hno
  (fun b hb=>by simp[wF] at hb;exact hb.symm)
  (fun st=>⟨w.heap.size,z.cells,rfl,heap_alloc_new w _,by rw[← Array.length_toList,hzc];simp,fun k c u h1 h2=>by
   rw[← Array.getElem?_toList,hzc,List.getElem?_map,h1] at h2
   cases h2
   exact sE (aSu.1 hok.zok c (List.mem_of_getElem? h1))⟩) hw.vr.sz
 refine⟨_,_,_,?_,ht,rfl,.inl ⟨elem,ti.zero,cQ _ _ _,w.heap.size,by simp,rfl⟩⟩
 simp[execOp,ho,Instr.alloc,newVar,newRow,hz]
set_option linter.unusedSimpArgs false
theorem pY {σ:St} {ι ν:Nat→Value} {S:Nat→Prop} {w w':World} (h:VR σ ι ν S w) {id:Nat} {old:Option Nat} {k:K} {p:Value}
 (block: ∀b,b<w.heap.size→some b≠old→w'.heap[b]? =w.heap[b]?) (mine: ∀b,old=some b→jY σ ι id b) (evo:aS σ (.o id)=none∨ ∃k0,aS σ (.o id)=some k0∧lZ (ι id) p k0 k):
 pR σ ι S w (oO σ (.o id) k) (fun o=>if o=id then p else ι o) S w':=by
 refine⟨fun _ h=>h,fun b hb=>block b (h.sz b hb) (fun e=>h.mutS id b (mine b e.symm) hb),fun o k0 hk=> ?_⟩
 by_cases e:o=id
 · subst e
   refine⟨k,cQ _ _ _,?_⟩
   rcases evo with hn|⟨k1,hk1,hev⟩
   · rw[hn] at hk;cases hk
   · rw[hk1] at hk;cases hk;rw[if_pos rfl];exact hev
 · refine⟨k0,by rw[cI _ _ (by simpa using fun h=>e h.symm)];exact hk,?_⟩
   rw[if_neg e];exact lZ.refl' _ _
def cX {α:Type} (cs:List α) (k:Nat) (vs:List α):List α:=cs.take k++vs++cs.drop (k+vs.length)
theorem eU {α:Type} {cs vs:List α} {k:Nat} (h:k+vs.length≤cs.length): (cX cs k vs).length=cs.length:=by
 simp[cX];omega
theorem hO {α:Type} {cs vs:List α} {k:Nat} (h:k+vs.length≤cs.length) (j:Nat):
 (cX cs k vs)[j]? =if j<k then cs[j]? else if j<k+vs.length then vs[j - k]? else cs[j]?:=by
 have hk: (cs.take k).length=k:=by simp;omega
 unfold cX
 by_cases h1:j<k
 · rw[if_pos h1,List.append_assoc,List.getElem?_append_left (by rw[hk];exact h1),List.getElem?_take,if_pos h1]
 · rw[if_neg h1]
   by_cases h2:j<k+vs.length
   · rw[if_pos h2,List.append_assoc,List.getElem?_append_right (by rw[hk];omega),hk,List.getElem?_append_left (by omega)]
   · rw[if_neg h2,List.getElem?_append_right (by simp;omega),List.getElem?_drop]
     congr 1
     simp;omega
theorem nz {α β:Type} (r:α→β→Prop) {cs vs:List α} {us ws:List β} {k:Nat} (hl:us.length=cs.length) (hv:ws.length=vs.length) (hk:k+vs.length≤cs.length)
 (h1: ∀(j:Nat) c u,cs[j]? =some c→us[j]? =some u→r c u) (h2: ∀(j:Nat) c u,vs[j]? =some c→ws[j]? =some u→r c u):
 ∀(j:Nat) c u,(cX cs k vs)[j]? =some c→(cX us k ws)[j]? =some u→r c u:=by
 intro j c u hc hu
 rw[hO hk] at hc
 rw[hO (by omega)] at hu
 rw[hv] at hu
 split at hc
 · rename_i h;rw[if_pos h] at hu;exact h1 j c u hc hu
 · rename_i h
   rw[if_neg h] at hu
   split at hc
   · rename_i h';rw[if_pos h'] at hu;exact h2 _ c u hc hu
   · rename_i h';rw[if_neg h'] at hu;exact h1 j c u hc hu
def toD:C→Option D
 | .d x=>some x
 | .nil=>some (.sl [])
 |_=>none
def je:List C→Option (List D)
 | []=>some []
 |c::cs=>match toD c,je cs with
  |some x,some xs=>some (x::xs)
  |_,_=>none
theorem vQ {σ:St} {ι:Nat→Value} {w:World} {S:Nat→Prop} {c:C} {x:D} {v:Value} (h:toD c=some x) (hc:CR σ ι w S c v):DR w S x v:=by
 cases c with
 |d y=>cases h;exact hc
 |nil=>
  cases h
  have hc:v= .slice none 0 0:=hc
  subst hc
  exact .sl [] none 0 0 ⟨0,0,none⟩ (fun _ _=>undef) (by simp) (by simp[maxLen]) (by simp) (by simp) (by simp) (by simp)
 |_=>cases h
theorem oF: ∀{cs:List C} {xs:List D},je cs=some xs→xs.length=cs.length
 | [],xs,h=>by cases h;rfl
 |c::cs,xs,h=>by
  simp only[je] at h
  split at h<;>try(cases h;done)
  rename_i x ys h1 h2
  cases h
  simp[oF h2]
theorem vR: ∀{cs:List C} {xs:List D},je cs=some xs→ ∀(k:Nat) x,xs[k]? =some x→ ∃c,cs[k]? =some c∧toD c=some x
 | [],xs,h,k,x,hx=>by cases h;simp at hx
 |c::cs,xs,h,k,x,hx=>by
  simp only[je] at h
  split at h<;>try(cases h;done)
  rename_i y ys h1 h2
  cases h
  cases k with
  |zero=>simp at hx;subst hx;exact⟨c,rfl,h1⟩
  |succ k=>simpa using vR h2 k x (by simpa using hx)
theorem lU {P:Program} (g o:Nat) (t:TypeId) (fz:Nat×Nat): ∀(vs:List Value) (i:Nat) (cur:Array Value) (w:World),w.heap[g]? =some (.cells cur t fz)→aJi fz cur.size→o+i+vs.length≤cur.size→(∀v∈vs,v.oneCell'=true)→
 (storeCells ⟨g,o,none⟩ vs i).run P w= .ok () (w.setRow g (cX cur.toList (o+i) vs).toArray)
 | [],i,cur,w,hg,hfz,_,_=>by
  simp only[storeCells,cX,List.append_nil,aSh,Nat.add_zero,List.take_append_drop,Array.toArray_toList]
  rw[setRow_self w g cur t fz hg]
  rfl
 |v::rest,i,cur,w,hg,hfz,hl,h1=>by
  have hi:o+i<cur.size:=by simp at hl;omega
  have hadd: (⟨g,o,none⟩:Addr).add i=⟨g,o+i,none⟩:=by unfold Addr.add;split<;>simp_all
  have hcell:w.cell? ⟨g,o+i,none⟩=some cur[o+i]:=by simp[World.cell?,hg,hi]
  have hfro:w.frozen? ⟨g,o+i,none⟩=false:=by
   obtain⟨lo,hi'⟩:=fz
   simp only[World.frozen?,hg]
   rcases hfz with h|h
   · cases h;simp
   · simp only at h
     rw[Bool.and_eq_false_iff]
     left;rw[decide_eq_false_iff_not];omega
  have hst: (store ((⟨g,o,none⟩:Addr).add i) v).run P w= .ok () (w.setRow g (cur.setIfInBounds (o+i) v)):=by
   rw[hadd,run_store P w _ v _ (h1 v (by simp)),hcell]
   simp[hfro,setCell_eq_setRow w g (o+i) cur t fz v hg]
  have ih:=lU (P:=P) g o t fz rest (i+1) (cur.setIfInBounds (o+i) v) (w.setRow g (cur.setIfInBounds (o+i) v)) (setRow_heap w g cur _ t _ hg) (by simpa using hfz) (by simp at hl ⊢; omega) (fun x hx=>h1 x (by simp[hx]))
  simp only[storeCells,Sem.run_bind,hst,Result.andThen_ok,ih,setRow_setRow]
  congr 3
  rw[Array.toList_setIfInBounds]
  apply List.ext_getElem?
  intro j
  have hlen:cur.toList.length=cur.size:=Array.length_toList
  have hl':o+i+(rest.length+1)≤cur.size:=by simpa using hl
  rw[hO (by rw[List.length_set,hlen];omega),hO (by rw[hlen,aSi];omega),List.getElem?_set,aSi]
  by_cases c1:j<o+i
  · rw[if_pos (by omega),if_neg (by omega),if_pos (by omega)]
  · by_cases c2:j=o+i
    · subst c2
      rw[if_pos (by omega),if_pos rfl,if_pos (by omega),if_neg (by omega),if_pos (by omega)]
      simp
    · by_cases c3:j<o+i+(rest.length+1)
      · rw[if_neg (by omega),if_pos (by omega),if_neg (by omega),if_pos (by omega),show j - (o+i)=(j - (o+(i+1)))+1 by omega,List.getElem?_cons_succ]
      · rw[if_neg (by omega),if_neg (by omega),if_neg (by omega),if_neg (by omega),if_neg (by omega)]
theorem pZ {P:Program} {w:World} {t ty:TypeId} {ti:TI} (hti:eK P t ti) (b off:Nat) (cur:Array Value) {fz:Nat×Nat} (hfz:aJi fz cur.size) (hg:w.heap[b]? =some (.cells cur ty fz)) (v:Value) (vs:List Value) (hv:v.cells=vs.toArray)
 (hl:vs.length=ti.size) (hfit:off+vs.length≤cur.size) (h1: ∀u∈vs,u.oneCell'=true):
 (storeVar t ⟨b,off,none⟩ v).run P w= .ok () (w.setRow b (cX cur.toList off vs).toArray):=by
 have:=lU (P:=P) b off ty fz vs 0 cur w hg hfz (by simpa using hfit) h1
 simp only[Nat.add_zero] at this
 simp[storeVar,fB hti,hv,hl,this]
theorem aA0 {P:Program} {o:Oper} {id:Nat} {R:List (dD×Option K)} {k:K} (hd:o.dst=none)
 (h: ∀(cx:Cx P) (σ:St) (ι:Nat→Value) (S:Nat→Prop) (a:Act) (w:World),bJ R σ→RW cx σ ι S a w→ ∃old p w',(execOp a.eval o).run P w= .ok .skip w'∧aG6 σ ι S w id old k p w'):
 wG P o R [(.o id,k)]:=by
 intro cx σ ι S a w hr hw hb next Q hn
 obtain⟨old,p,w',he,ht⟩:=h cx σ ι S a w hr hw
 unfold Oper.wp
 rw[he]
 simp only[Oper.upon,hd,aAx]
 exact hn _ S _ w' (hw.turn ht)
def aDr (T:gB) (σ:St) (t:TypeId) (x y:Operand) (d:Option Tmp):tp:=
 match ev σ x,ev σ y,T t,d with
 |some (.e (.c (.pt ob k)),R),some (X,R2),some ti,none=>match cellsOf X,aS σ (.o ob) with
  |some vs,some (.box ty cs)=>some (vs.length=ti.size∧k+vs.length≤cs.length,R++R2++[(.o ob,some (.box ty cs))],[(.o ob,.box ty (cX cs k vs))])
  |_,_=>none
 |some (.e (.c (.pe ob n i k)),R),some (X,R2),some ti,none=>match(cellsOf X).bind je,aS σ (.o ob) with
  |some vs,some (.row e es rows)=>some (rows.length=n∧i<n∧vs.length=ti.size∧k+vs.length≤(rows.getD i []).length,R++R2++[(.o ob,some (.row e es rows))],[(.o ob,.row e es (rows.set i (cX (rows.getD i []) k vs)))])
  |_,_=>none
 |_,_,_,_=>none
theorem aDs {P:Program} {T:gB} (hT:dK P T) {o:Oper} {σ0:St} {t:TypeId} {x y:Operand} (ho:o.op= .store t x y):kV P o σ0 (aDr T σ0 t x y o.dst):=by
 intro p R W h hp
 unfold aDr at h
 split at h
 · rename_i ob k Rx X Ry ti hx hy hti hd
   split at h<;>try(cases h;done)
   rename_i vs ty cs hvs hl
   cases h
   have hok:=hT t ti hti
   refine⟨aA0 hd fun cx σ ι S a w hr hw=> ?_,((cZ hx).append (cZ hy)).append (bJ.one hl)⟩
   have hl':=hr.right (.o ob,some (.box ty cs)) (by simp)
   dsimp only at hl'
   have hX:=dA hx hr.left.left hw
   have hY:=dA hy hr.left.right hw
   obtain⟨us,hu,hul,huk⟩:=lL hvs hY
   obtain⟨b,cur,hi,hh,hsz,hc⟩:=hw.vr.objs ob _ hl'
   obtain⟨_,h2⟩:=(show CR σ ι w S (.pt ob k) (a.eval x) from hX)
   rcases h2 with⟨ty2,cs2,hl2,b',hi',hv⟩|hdd
   · rw[hi] at hi';cases hi'
     have hone: ∀u∈us,u.oneCell'=true:=fun u hu'=>by
      obtain⟨j,hj⟩:=List.mem_iff_getElem?.1 hu'
      have hlt:j<vs.length:=by rw[← hul];exact(aSm.1 hj).1
      exact CR.one (huk j _ u (aSn hlt) hj)
     have hrun:=pZ (P:=P) hok b k cur (.inl rfl) hh (a.eval y) us hu (by rw[hul];exact hp.1) (by rw[hul,hsz];exact hp.2) hone
     have hmine: ∀b',some b=some b'→jY σ ι ob b':=fun b' e=>by cases e;exact⟨⟨_,hl',trivial⟩,by rw[hi];rfl⟩
     have hblock: ∀b',b'<w.heap.size→some b'≠some b→(w.setRow b (cX cur.toList k us).toArray).heap[b']? =w.heap[b']?:=fun b' _ hne=>setRow_other w b b' _ (fun e=>hne (by rw[e]))
     have hevo:aS σ (.o ob)=none∨ ∃k0,aS σ (.o ob)=some k0∧lZ (ι ob) (ι ob) k0 (.box ty (cX cs k vs)):= .inr ⟨_,hl',rfl⟩
     have st:=pY hw.vr (p:=ι ob) hblock hmine hevo
     refine⟨some b,ι ob,w.setRow b (cX cur.toList k us).toArray,by simp[execOp,ho,hv,Instr.storeAt,Instr.sureAddr,hrun],⟨rfl,rfl,rfl,by simp,hblock,hmine,hevo,fun b' hb=> .inl (by rw[hi] at hb;exact congrArg some hb.symm),?_⟩⟩
     refine⟨b,(cX cur.toList k us).toArray,hi,setRow_heap w b cur _ ty _ hh,?_,?_⟩
     · rw[List.size_toArray,eU (by have h9:cur.toList.length=cur.size:=Array.length_toList;have:=hp.2;omega),eU hp.2];exact(Array.length_toList (xs:=cur)).trans hsz
     · intro j c u h1 h2
       have h2': (cX cur.toList k us)[j]? =some u:=by simpa using h2
       exact nz (fun c u=>CR (oO σ (.o ob) (.box ty (cX cs k vs))) (fun o=>if o=ob then ι ob else ι o) (w.setRow b (cX cur.toList k us).toArray) S c u) (by simpa using hsz) hul hp.2
        (fun j c u h1 h2=>CR.step st (hc j c u h1 (by simpa using h2))) (fun j c u h1 h2=>CR.step st (huk j c u h1 h2)) j c u h1 h2'
   · rw[hl'] at hdd;cases hdd
 · rename_i ob n i k Rx X Ry ti hx hy hti hd
   split at h<;>try(cases h;done)
   rename_i vs e es rows hvs hl
   cases h
   have hok:=hT t ti hti
   obtain⟨h1,h2,h3,h4⟩:=hp
   cases hcs:cellsOf X with
   |none=>rw[hcs] at hvs;cases hvs
   |some ccs=>
   rw[hcs] at hvs
   have hvs:je ccs=some vs:=hvs
   refine⟨aA0 hd fun cx σ ι S a w hr hw=> ?_,((cZ hx).append (cZ hy)).append (bJ.one hl)⟩
   have hl':=hr.right (.o ob,some (.row e es rows)) (by simp)
   dsimp only at hl'
   have hX:=dA hx hr.left.left hw
   have hY:=dA hy hr.left.right hw
   obtain⟨us,hu,hul,huk⟩:=lL hcs hY
   have hvl:=oF hvs
   have hdr: ∀(j:Nat) d u,vs[j]? =some d→us[j]? =some u→DR w S d u:=fun j d u hj hu'=>by
    obtain⟨c,hc,htd⟩:=vR hvs j d hj
    exact vQ htd (huk j c u hc hu')
   obtain⟨_,hpe⟩:=(show CR σ ι w S (.pe ob n i k) (a.eval x) from hX)
   rcases hpe with⟨e2,es2,rows2,hl2,hn,hv⟩|hdd
   · rw[hl'] at hl2;cases hl2
     obtain⟨g,off,cap,hig,hvv⟩:=hv h1
     rcases hw.vr.objs ob _ hl' with⟨hn3,_⟩|⟨g',off',cap',cur,fz,hg,hh,hfz,hc1,hc2,hc3,hrows⟩
     · rw[hig] at hn3;cases hn3
     · have hg':=hg
       rw[hig] at hg;cases hg
       have hlt:i<rows.length:=by omega
       have hrow:rows.getD i []=rows[i]:=by simp[hlt]
       rw[hrow] at h4
       have hri:=hrows i _ (aSn hlt)
       have hone: ∀u∈us,u.oneCell'=true:=fun u hu'=>by
        obtain⟨j,hj⟩:=List.mem_iff_getElem?.1 hu'
        have hlt:j<ccs.length:=by rw[← hul];exact(aSm.1 hj).1
        exact CR.one (huk j _ u (aSn hlt) hj)
       have hin:i*es+es≤cap*es:=by
        have: (i+1)*es≤cap*es:=Nat.mul_le_mul_right _ (by omega)
        rw[aSt,Nat.one_mul] at this;exact this
       have hfit:off+i*es+k+us.length≤cur.size:=by rw[hul,← hvl];rw[hri.1] at h4;omega
       have hrun:=pZ (P:=P) hok g (off+i*es+k) cur hfz hh (a.eval y) us hu (by rw[hul,← hvl];exact h3) hfit hone
       have hmine: ∀b',some g=some b'→jY σ ι ob b':=fun b' e=>by cases e;exact⟨⟨_,hl',trivial⟩,by rw[hig];rfl⟩
       have hblock: ∀b',b'<w.heap.size→some b'≠some g→(w.setRow g (cX cur.toList (off+i*es+k) us).toArray).heap[b']? =w.heap[b']?:=fun b' _ hne=>setRow_other w g b' _ (fun e=>hne (by rw[e]))
       have hevo:aS σ (.o ob)=none∨ ∃k0,aS σ (.o ob)=some k0∧lZ (ι ob) (ι ob) k0 (.row e es (rows.set i (cX (rows.getD i []) k vs))):= .inr ⟨_,hl',rfl,by simp,fun _=>rfl⟩
       have st:=pY hw.vr (p:=ι ob) hblock hmine hevo
       refine⟨some g,ι ob,w.setRow g (cX cur.toList (off+i*es+k) us).toArray,by simp[execOp,ho,hvv,Instr.storeAt,Instr.sureAddr,hrun],⟨rfl,rfl,rfl,by simp,hblock,hmine,hevo,fun b' hb=> .inl (by rw[hig] at hb;exact congrArg some hb.symm),?_⟩⟩
       · refine .inr ⟨g,off,cap,(cX cur.toList (off+i*es+k) us).toArray,fz,by rw[hg'];simp,setRow_heap w g cur _ e _ hh,by rw[List.size_toArray,eU (by have h9:cur.toList.length=cur.size:=Array.length_toList;omega),Array.length_toList];exact hfz,by simpa using hc1,hc2,?_,fun i2 r2 hr2=> ?_⟩
         · rw[List.size_toArray,eU (by have h9:cur.toList.length=cur.size:=Array.length_toList;omega)];exact(Array.length_toList (xs:=cur))▸hc3
         · rw[List.getElem?_set] at hr2
           have get: ∀j,(cX cur.toList (off+i*es+k) us).toArray[j]? =if j<off+i*es+k then cur[j]? else if j<off+i*es+k+us.length then us[j - (off+i*es+k)]? else cur[j]?:=fun j=>by
            rw[← Array.getElem?_toList,List.toList_toArray,hO (by have h9:cur.toList.length=cur.size:=Array.length_toList;omega)]
            simp
           by_cases hii:i=i2
           · subst hii
             simp[hlt] at hr2
             have hr2:cX rows[i] k vs=r2:=by rw[← hr2]
             subst hr2
             refine⟨by rw[eU h4];exact hri.1,fun j d hd=> ?_⟩
             rw[hO h4] at hd
             rw[get]
             split at hd
             · rename_i hjk
               obtain⟨u,hu1,hu2⟩:=hri.2 j d hd
               exact⟨u,by rw[if_pos (by omega)];exact hu1,DR.mono st.sub st.keep hu2⟩
             · rename_i hjk
               split at hd
               · rename_i hjk2
                 have hjl:j - k<us.length:=by omega
                 refine⟨us[j - k],?_,DR.mono st.sub st.keep (hdr _ d _ hd (aSn hjl))⟩
                 rw[if_neg (by omega),if_pos (by omega),show off+i*es+j - (off+i*es+k)=j - k by omega]
                 exact aSn hjl
               · rename_i hjk2
                 obtain⟨u,hu1,hu2⟩:=hri.2 j d hd
                 exact⟨u,by rw[if_neg (by omega),if_neg (by omega)];exact hu1,DR.mono st.sub st.keep hu2⟩
           · rw[if_neg hii] at hr2
             have hr3:=hrows i2 r2 hr2
             refine⟨hr3.1,fun j d hd=> ?_⟩
             obtain⟨u,hu1,hu2⟩:=hr3.2 j d hd
             refine⟨u,?_,DR.mono st.sub st.keep hu2⟩
             rw[get]
             have hjes:j<es:=by rw[← hr3.1];exact(aSm.1 hd).1
             rw[hri.1] at h4
             rcases Nat.lt_or_gt_of_ne hii with hlt2|hgt2
             · have: (i+1)*es≤i2*es:=Nat.mul_le_mul_right _ hlt2
               rw[aSt,Nat.one_mul] at this
               rw[if_neg (by omega),if_neg (by omega)];exact hu1
             · have: (i2+1)*es≤i*es:=Nat.mul_le_mul_right _ hgt2
               rw[aSt,Nat.one_mul] at this
               rw[if_pos (by omega)];exact hu1
   · rw[hl'] at hdd;cases hdd
 · cases h
set_option linter.unusedSimpArgs false
def evs (σ:St):List (Nat×Operand)→Option (List (Nat×V)×List (dD×Option K))
 | []=>some ([],[])
 |(i,x)::r=>match ev σ x,evs σ r with
  |some (X,R),some (Xs,R')=>some ((i,X)::Xs,R++R')
  |_,_=>none
theorem jf {σ:St}: ∀{ps:List (Nat×Operand)} {Xs:List (Nat×V)} {R:List (dD×Option K)},evs σ ps=some (Xs,R)→bJ R σ
 | [],Xs,R,h=>by cases h;exact bJ.nil
 |(i,x)::r,Xs,R,h=>by
  simp only[evs] at h
  split at h<;>try(cases h;done)
  rename_i X R1 Ys R2 h1 h2
  cases h
  exact(cZ h1).append (jf h2)
def yg (σ:St) (ι:Nat→Value) (w:World) (S:Nat→Prop):List (Nat×V)→List (Nat×Value)→Prop
 | [],[]=>True
 |(i,X)::r,(j,v)::r'=>i=j∧kU σ ι w S X v∧yg σ ι w S r r'
 |_,_=>False
theorem jg {σ0:St} {P:Program} {cx:Cx P} {σ:St} {ι:Nat→Value} {S:Nat→Prop} {a:Act} {w:World} (hw:RW cx σ ι S a w):
 ∀{ps:List (Nat×Operand)} {Xs:List (Nat×V)} {R:List (dD×Option K)},evs σ0 ps=some (Xs,R)→bJ R σ→yg σ ι w S Xs (ps.map fun x=>(x.1,a.eval x.2))
 | [],Xs,R,h,_=>by cases h;trivial
 |(i,x)::r,Xs,R,h,hr=>by
  simp only[evs] at h
  split at h<;>try(cases h;done)
  rename_i X R1 Ys R2 h1 h2
  cases h
  exact⟨rfl,dA h1 hr.left hw,jg hw h2 hr.right⟩
def uE:List C→Nat→List C→List C
 | [],_,_=>[]
 |c::cs,n+1,vs=>c::uE cs n vs
 |c::cs,0,[]=>c::cs
 |_::cs,0,v::vs=>v::uE cs 0 vs
theorem cw: ∀{cs:List C} {k:Nat} {vs:List C},k+vs.length≤cs.length→uE cs k vs=cX cs k vs
 | [],k,vs,h=>by
  obtain rfl:vs=[]:=by simp at h;exact h.2
  simp[uE,cX]
 |c::cs,n+1,vs,h=>by
  have:=cw (cs:=cs) (k:=n) (vs:=vs) (by simp at h;omega)
  simp[uE,this,cX,Nat.add_right_comm]
 |c::cs,0,[],h=>by simp[uE,cX]
 |c::cs,0,v::vs,h=>by
  have:=cw (cs:=cs) (k:=0) (vs:=vs) (by simp at h ⊢; omega)
  simp[uE,this,cX]
def aGc (T:gB) (t:TypeId):List C→List (Nat×V)→Option (Prop×List C)
 |cs,[]=>some (True,cs)
 |cs,(i,X)::rest=>match sF T t i,cellsOf X with
  |some (off,ti),some vs=>match aGc T t (uE cs off vs) rest with
   |some (p,r)=>some ((vs.length=ti.size∧off+vs.length≤cs.length)∧p,r)
   |none=>none
  |_,_=>none
def en (T:gB):List (Nat×TypeId)→Option (List (Nat×Nat))
 | []=>some []
 |(off,t)::r=>match T t,en T r with
  |some ti,some ps=>some ((off,ti.size)::ps)
  |_,_=>none
theorem yS {P:Program} {T:gB} (hT:dK P T): ∀(fs:List Field) (ps:List (Nat×Nat)),en T (fs.map fun f=>(f.offset,f.type))=some ps→
 fs.mapM (fun f=>(P.info? f.type).map fun i=>(f.offset,i.size))=some ps∧ ∀(i:Nat) f,fs[i]? =some f→ ∃ti,T f.type=some ti∧ps[i]? =some (f.offset,ti.size)
 | [],ps,h=>by cases h;exact⟨rfl,by simp⟩
 |f::fs,ps,h=>by
  simp only[List.map_cons,en] at h
  split at h<;>try(cases h;done)
  rename_i ti ps' h1 h2
  cases h
  obtain⟨g1,g2⟩:=yS hT fs ps' h2
  obtain⟨i,z,hi,hs,_⟩:=(hT _ _ h1).info
  refine⟨by simp[hi,g1,hs],fun j f' hj=> ?_⟩
  cases j with
  |zero=>simp at hj;subst hj;exact⟨ti,h1,rfl⟩
  |succ j=>simpa using g2 j f' (by simpa using hj)
theorem aJo (off:Nat) (vs:List Value) (cells:Array Value) (h:off+vs.length≤cells.size):
 (vs.toArray.zipIdx.foldl (fun cs (x:Value×Nat)=>cs.setIfInBounds (off+x.2) x.1) cells)=(cX cells.toList off vs).toArray:=by
 rw[← Array.foldl_toList,Array.toList_zipIdx]
 obtain⟨h1,h2⟩:=Go.Great.foldl_set off vs 0 cells
 apply Array.ext_getElem?
 intro k
 have h9:cells.toList.length=cells.size:=Array.length_toList
 have e9: (cX cells.toList off vs).toArray[k]? =(cX cells.toList off vs)[k]?:=by simp
 rw[h2 k,e9,hO (by omega)]
 simp only[Nat.add_zero]
 by_cases e1:k<off
 · rw[if_neg (by omega),if_pos e1];simp
 · rw[if_neg e1]
   by_cases e2:k<off+vs.length
   · rw[if_pos ⟨by omega,e2,by omega⟩,if_pos e2]
   · rw[if_neg (by omega),if_neg e2];simp
theorem lk {P:Program} {T:gB} (hT:dK P T) {t:TypeId} {fields:Array Field} (hu:P.underlying t=some (.struct fields)) {ps:List (Nat×Nat)}
 (hps: ∀(i:Nat) f,fields.toList[i]? =some f→ ∃ti,T f.type=some ti∧ps[i]? =some (f.offset,ti.size)) {σ:St} {ι:Nat→Value} {w:World} {S:Nat→Prop}:
 ∀(Xs:List (Nat×V)) (vals:List (Nat×Value)) (cs:List C) (cells:Array Value) (p:Prop) (r:List C),yg σ ι w S Xs vals→cells.size=cs.length→
  (∀(j:Nat) c u,cs[j]? =some c→cells[j]? =some u→CR σ ι w S c u)→aGc T t cs Xs=some (p,r)→p→
  ∃rc:List Value,Instr.fill (ps.toArray[·]?) cells vals=some rc.toArray∧rc.length=r.length∧ ∀(j:Nat) c u,r[j]? =some c→rc[j]? =some u→CR σ ι w S c u
 | [],[],cs,cells,p,r,_,hsz,hc,h,_=>by
  cases h
  exact⟨cells.toList,by simp[Instr.fill],by simpa using hsz,fun j c u h1 h2=>hc j c u h1 (by simpa using h2)⟩
 |(i,X)::Xs,(j,v)::vals,cs,cells,p,r,hp,hsz,hc,h,hpp=>by
  obtain⟨rfl,hX,hp⟩:=hp
  simp only[aGc] at h
  split at h<;>try(cases h;done)
  rename_i off ti vs hf hvs
  split at h<;>try(cases h;done)
  rename_i p' r' hrest
  cases h
  obtain⟨⟨h1,h2⟩,hp'⟩:=hpp
  rw[cw h2] at hrest
  obtain⟨us,hu',hul,huk⟩:=lL hvs hX
  obtain⟨fields',fl,hu2,hfl,hoff,hti⟩:=uY hT hf
  rw[hu] at hu2;cases hu2
  obtain⟨ti',hti',hpl⟩:=hps i fl (by simpa using hfl)
  have hsize:ti'.size=ti.size:=by
   obtain⟨i1,z1,q1,q2,_⟩:=(hT _ _ hti').info
   obtain⟨i2,z2,q3,q4,_⟩:=hti.info
   rw[q1] at q3;cases q3
   rw[← q2,← q4]
  rw[hoff,hsize] at hpl
  have hfold:=aJo off us cells (by rw[hul,hsz];exact h2)
  have h9:cells.toList.length=cells.size:=Array.length_toList
  obtain⟨rc,g1,g2,g3⟩:=lk hT hu hps Xs vals (cX cs off vs) (cX cells.toList off us).toArray p' r hp
   (by rw[List.size_toArray,eU (by omega),eU h2];omega)
   (fun j c u hcj huj=>nz (CR σ ι w S) (by omega) hul h2 (fun j c u h1 h2=>hc j c u h1 (by simpa using h2)) huk j c u hcj (by simpa using huj)) hrest hp'
  refine⟨rc,?_,g2,g3⟩
  unfold Instr.fill
  have hpl':ps.toArray[i]? =some (off,ti.size):=by simpa using hpl
  simp only[hpl',hu']
  rw[if_neg (by simp[hul,h1];omega),← g1,← hfold]
 | [],_::_,_,_,_,_,hp,_,_,_,_=>hp.elim
 |_::_,[],_,_,_,_,hp,_,_,_,_=>hp.elim
def aDt (T:gB) (σ:St) (t:TypeId) (parts:List (Nat×Operand)) (d:Option Tmp):tp:=
 match T t,evs σ parts,d with
 |some ⟨.st fs,sz,by',zero⟩,some (Xs,R),some d=>match en T fs,aGc T t zero Xs with
  |some _,some (p,r)=>some (p,R,[(.t d,.v (.e (.agg r)))])
  |_,_=>none
 |_,_,_=>none
theorem aDu {P:Program} {T:gB} (hT:dK P T) {o:Oper} {σ0:St} {t:TypeId} {parts:Array (Nat×Operand)} (ho:o.op= .build t parts):kV P o σ0 (aDt T σ0 t parts.toList o.dst):=by
 intro p R W h hp
 unfold aDt at h
 split at h<;>try(cases h;done)
 rename_i fs sz by' zero Xs Rx d ht hxs hd
 split at h<;>try(cases h;done)
 rename_i places p' r hpl hfill
 cases h
 have hok:=hT t _ ht
 obtain⟨fields,hu,hfs⟩:=hok.kind
 rw[← hfs] at hpl
 obtain⟨hm,hps⟩:=yS hT fields.toList places hpl
 refine⟨mT hd fun cx σ ι S a w hr hw=> ?_,jf hxs⟩
 obtain⟨i,z,hi,_,_,hz,hzc⟩:=hok.info
 obtain⟨rc,g1,g2,g3⟩:=lk (σ:=σ) (ι:=ι) (w:=w) (S:=S) hT hu hps Xs (parts.toList.map fun x=>(x.1,a.eval x.2)) zero z.cells p r (jg hw hxs hr)
  (by rw[← Array.length_toList,hzc];simp)
  (fun j c u h1 h2=>by
   rw[← Array.getElem?_toList,hzc,List.getElem?_map,h1] at h2
   cases h2
   exact sE (aSu.1 hok.zok c (List.mem_of_getElem? h1))) hfill hp
 have hb:P.built t (parts.map fun x=>(x.1,a.eval x.2)).toList=some rc.toArray:=by
  unfold Program.built
  simp only[hi,hu,hz,hm]
  rw[Array.toList_map]
  exact g1
 refine⟨.agg rc.toArray,?_,rc,rfl,g2,g3⟩
 have hrun:=run_build (P:=P) w t (parts.map fun x=>(x.1,a.eval x.2)) rc.toArray hb
 simp[execOp,ho]
 rw[hrun];rfl
def jh:List (Nat×V)→Option (List (List D))
 | []=>some []
 |(i,X)::r=>match(cellsOf X).bind je,jh r with
  |some ds,some rs=>some (ds::rs)
  |_,_=>none
def aq:Nat→List (Nat×Operand)→Bool
 |_,[]=>true
 |k,(i,_)::r=>i==k&&aq (k+1) r
def yT (T:gB) (σ:St) (t:TypeId) (len:Nat) (parts:List (Nat×Operand)) (d:Option Tmp):tp:=
 match T t,evs σ parts,d with
 |some ⟨.sl e,_,_,_⟩,some (Xs,R),some d=>match T e,jh Xs with
  |some ti,some rows=>if uZ σ (.o (iI σ d))&&aq 0 parts&&(len==parts.length) then
   some ((∀r∈rows,r.length=ti.size)∧rows.length*ti.size≤2 ^ 24,R++[(.o (iI σ d),none)],[(.o (iI σ d),.row e ti.size rows),(.t d,.v (.e (.c (.own (iI σ d) rows.length))))]) else none
  |_,_=>none
 |_,_,_=>none
theorem bu: ∀{Xs:List (Nat×V)} {rows:List (List D)},jh Xs=some rows→rows.length=Xs.length
 | [],rows,h=>by cases h;rfl
 |(i,X)::r,rows,h=>by
  simp only[jh] at h
  split at h<;>try(cases h;done)
  rename_i ds rs h1 h2
  cases h
  simp[bu h2]
theorem oa {σ:St}: ∀{ps:List (Nat×Operand)} {Xs:List (Nat×V)} {R:List (dD×Option K)},evs σ ps=some (Xs,R)→Xs.length=ps.length
 | [],Xs,R,h=>by cases h;rfl
 |(i,x)::r,Xs,R,h=>by
  simp only[evs] at h
  split at h<;>try(cases h;done)
  rename_i X R1 Ys R2 h1 h2
  cases h
  simp[oa h2]
theorem vp: ∀(k:Nat) (ps:List (Nat×Operand)) (f:Operand→Value),aq k ps=true→ps.map (fun x=>(x.1,f x.2))=((ps.map fun x=>f x.2).zipIdx k).map fun x=>(x.2,x.1)
 |k,[],f,_=>rfl
 |k,(i,x)::r,f,h=>by
  simp only[aq,aSg,beq_iff_eq] at h
  obtain⟨rfl,h⟩:=h
  simp[vp (i+1) r f h]
theorem ep {σ:St} {ι:Nat→Value} {w:World} {S:Nat→Prop}: ∀{Xs:List (Nat×V)} {vals:List (Nat×Value)} {rows:List (List D)},yg σ ι w S Xs vals→jh Xs=some rows→
 ∀(i:Nat) r,rows[i]? =some r→ ∃j v,vals[i]? =some (j,v)∧v.cells.size=r.length∧ ∀(k:Nat) d,r[k]? =some d→ ∃u,v.cells[k]? =some u∧DR w S d u
 | [],[],rows,_,h,i,r,hr=>by cases h;simp at hr
 |(i0,X)::Xs,(j0,v)::vals,rows,hp,h,i,r,hr=>by
  obtain⟨rfl,hX,hp⟩:=hp
  simp only[jh] at h
  split at h<;>try(cases h;done)
  rename_i ds rs h1 h2
  cases h
  cases i with
  |zero=>
   simp at hr;subst hr
   cases hcs:cellsOf X with
   |none=>rw[hcs] at h1;cases h1
   |some cs=>
    rw[hcs] at h1
    have h1:je cs=some ds:=h1
    obtain⟨us,hu,hul,huk⟩:=lL hcs hX
    refine⟨i0,v,rfl,by rw[hu];simp[hul,oF h1],fun k d hd=> ?_⟩
    obtain⟨c,hc,htd⟩:=vR h1 k d hd
    have hlt:k<us.length:=by rw[hul];exact(aSm.1 hc).1
    exact⟨us[k],by rw[hu];simp[hlt],vQ htd (huk k c _ hc (aSn hlt))⟩
  |succ i=>
   obtain⟨j,v',g1,g2,g3⟩:=ep hp h2 i r (by simpa using hr)
   exact⟨j,v',by simpa using g1,g2,g3⟩
 | [],_::_,_,hp,_,_,_,_=>hp.elim
 |_::_,[],_,hp,_,_,_,_=>hp.elim
theorem aA1 {w:World} {S:Nat→Prop} {es:Nat} (hes:0<es) {rows:List (List D)} {vs:List Value} (hl:vs.length=rows.length) (hlen: ∀r∈rows,r.length=es)
 (h: ∀(i:Nat) r,rows[i]? =some r→ ∃v,vs[i]? =some v∧v.cells.size=r.length∧ ∀(k:Nat) d,r[k]? =some d→ ∃u,v.cells[k]? =some u∧DR w S d u):
 ∀(i:Nat) r,rows[i]? =some r→r.length=es∧ ∀(k:Nat) d,r[k]? =some d→ ∃u,(vs.flatMap fun v=>v.cells.toList).toArray[0+i*es+k]? =some u∧DR w S d u:=by
 have hall: ∀v∈vs,v.cells.size=es:=by
  intro v hv
  obtain⟨i,hi⟩:=List.mem_iff_getElem?.1 hv
  have hlt:i<rows.length:=by rw[← hl];exact(aSm.1 hi).1
  obtain⟨v',h1,h2,_⟩:=h i _ (aSn hlt)
  rw[hi] at h1;cases h1
  rw[h2];exact hlen _ (List.getElem_mem hlt)
 intro i r hr
 have hre:=hlen r (List.mem_of_getElem? hr)
 refine⟨hre,fun k d hd=> ?_⟩
 obtain⟨v,h1,h2,h3⟩:=h i r hr
 obtain⟨u,hu,hdr⟩:=h3 k d hd
 refine⟨u,?_,hdr⟩
 have hk:k<es:=by rw[← hre];exact(aSm.1 hd).1
 rw[List.getElem?_toArray,Go.Great.flat_get hes vs hall]
 have e1: (0+i*es+k) / es=i:=by
  rw[Nat.zero_add,Nat.mul_comm,Nat.mul_add_div hes,Nat.div_eq_of_lt hk];rfl
 have e2: (0+i*es+k) % es=k:=by
  rw[Nat.zero_add,Nat.mul_comm,Nat.mul_add_mod,Nat.mod_eq_of_lt hk]
 rw[e1,e2,h1];exact hu
theorem mv {P:Program} {T:gB} (hT:dK P T) {o:Oper} {σ0:St} {t:TypeId} {len:Nat} {parts:Array (Nat×Operand)} (ho:o.op= .buildSlice t len parts):kV P o σ0 (yT T σ0 t len parts.toList o.dst):=by
 intro p R W h hp
 unfold yT at h
 split at h<;>try(cases h;done)
 rename_i e _ _ _ Xs Rx d ht hxs hd
 split at h<;>try(cases h;done)
 rename_i ti rows hte hrows
 split at h<;>try(cases h;done)
 rename_i hcond
 simp only[aSg,beq_iff_eq] at hcond
 obtain⟨⟨habs,hdense⟩,hlen⟩:=hcond
 cases h
 obtain⟨hp1,hp2⟩:=hp
 have hu:=(hT t _ ht).kind
 simp only[kW] at hu
 have hok:=hT e ti hte
 refine⟨em hd (by simp) fun cx σ ι S a w hr hw=> ?_,(jf hxs).append (bJ.one (oE habs))⟩
 have hno:=hr.right (.o (iI σ0 d),none) (by simp)
 dsimp only at hno
 have hpairs:=jg hw hxs hr.left
 have hrl:=bu hrows
 have hxl:=oa hxs
 have hrs:=ep hpairs hrows
 obtain⟨vs,hvs⟩: ∃vs:List Value,vs=parts.toList.map fun x=>a.eval x.2:=⟨_,rfl⟩
 have hvl:vs.length=rows.length:=by rw[hvs];simp;simp at hxl;omega
 have hcells: ∀(i:Nat) r,rows[i]? =some r→ ∃v,vs[i]? =some v∧v.cells.size=r.length∧ ∀(k:Nat) d,r[k]? =some d→ ∃u,v.cells[k]? =some u∧DR w S d u:=by
  intro i r hri
  obtain⟨j,v,g1,g2,g3⟩:=hrs i r hri
  refine⟨v,?_,g2,g3⟩
  rw[hvs]
  rw[List.getElem?_map] at g1 ⊢
  cases hq:parts.toList[i]? with
  |none=>rw[hq] at g1;cases g1
  |some x=>rw[hq] at g1;cases g1;rfl
 have hall: ∀v∈vs,v.cells.size=ti.size:=by
  intro v hv
  obtain⟨i,hi⟩:=List.mem_iff_getElem?.1 hv
  have hlt:i<rows.length:=by rw[← hvl];exact(aSm.1 hi).1
  obtain⟨v',h1,h2,_⟩:=hcells i _ (aSn hlt)
  rw[hi] at h1;cases h1
  rw[h2];exact hp1 _ (List.getElem_mem hlt)
 obtain⟨cells,hcl⟩: ∃cells:Array Value,cells=(vs.flatMap fun v=>v.cells.toList).toArray:=⟨_,rfl⟩
 have hcsz:cells.size=rows.length*ti.size:=by
  rw[hcl,List.size_toArray,← hvl]
  clear hvs hcells hcl hvl
  induction vs with
  |nil=>simp
  |cons v vs ih=>
   rw[List.flatMap_cons,aSe,ih (fun v hv=>hall v (List.mem_cons_of_mem _ hv)),Array.length_toList,hall v (List.mem_cons_self ..),aSi,aSt,Nat.one_mul,Nat.add_comm]
 have hlen':len=rows.length:=by simp at hxl;rw[hlen];simp;omega
 have hrun: (Instr.buildSlice t len (parts.map fun x=>(x.1,a.eval x.2))).run P w= .ok (.slice (some ⟨w.heap.size,0,none⟩) len len) (w.alloc (.cells cells e)):=by
  obtain⟨i,z,hi,hs,_,hz,_⟩:=hok.info
  have hparts: (parts.map fun x=>(x.1,a.eval x.2)).toList=(vs.zipIdx 0).map fun x=>(x.2,x.1):=by
   rw[Array.toList_map,hvs];exact vp 0 parts.toList a.eval hdense
  by_cases h0:len*ti.size=0
  · have hrz:rows.length=0:=by
     rcases Nat.mul_eq_zero.1 h0 with h|h
     · omega
     · have:=hok.pos;omega
    have hvs0:vs=[]:=List.eq_nil_of_length_eq_zero (by omega)
    have hc0:cells= #[]:=by rw[hcl,hvs0];rfl
    rw[hvs0] at hparts
    simp only[List.zipIdx_nil,List.map_nil] at hparts
    simp only[Instr.buildSlice,Sem.run_bind,run_underlying hu,Result.andThen_ok,fB hok]
    rw[if_neg (by omega)]
    rw[Array.toList_map] at hparts
    simp[h0,hparts,Instr.fill,newRow,hc0,Array.range_zero']
  · refine run_buildSlice w t e len _ cells i z hu hi hz (by rw[hs,hlen'];omega) (by rw[hs];exact h0) ?_
    rw[hs,hparts,hcl]
    exact Go.Great.fill_whole hok.pos vs _ hall (by rw[Array.size_map,Array.size_range,hvl,hlen'])
 obtain⟨htt,st⟩:=wI (ν:=gZ a) (w:=w) (w0:=w) (σ:=σ) (ι:=ι) (S:=S) (id:=iI σ0 d) (k:= .row e ti.size rows) (p:= .slice (some ⟨w.heap.size,0,none⟩) len len) (o:= .cells cells e) ⟨rfl,rfl,rfl,rfl⟩ hno
  (fun b hb=>by simp[wF] at hb;exact hb.symm)
  (fun st=> .inr ⟨w.heap.size,0,len,cells,(0,0),by rw[hlen'],heap_alloc_new w _,.inl rfl,by omega,by
   have:=hp2;have h2:=hok.pos
   have h3:len≤len*ti.size:=Nat.le_mul_of_pos_right _ h2
   simp only[maxLen];rw[hlen'] at h3 ⊢; omega,by rw[hcsz,hlen'];omega,by
   intro i r hri
   have hflat:=aA1 (w:=w.alloc (.cells cells e)) (S:=S) hok.pos hvl hp1 (fun i r hri=>by
    obtain⟨v,g1,g2,g3⟩:=hcells i r hri
    exact⟨v,g1,g2,fun k d hd=>by obtain⟨u,hu1,hu2⟩:=g3 k d hd;exact⟨u,hu1,DR.mono st.sub st.keep hu2⟩⟩) i r hri
   rw[← hcl] at hflat
   exact hflat⟩) hw.vr.sz
 refine⟨.slice (some ⟨w.heap.size,0,none⟩) len len,_,_,?_,htt,rfl,.inl ⟨e,ti.size,rows,cQ _ _ _,aSo _,fun _=>by simp⟩⟩
 simp[execOp,ho]
 rw[hrun];rfl
set_option linter.unusedSimpArgs false
def qO (T:gB) (σ:St) (t2:TypeId):V→Option (Prop×List (List D)×List (dD×Option K))
 | .e (.c (.d (.sl rows)))=>match T t2 with
  |some ⟨.sl _,_,_,_⟩=>some (True,rows,[])
  |_=>none
 | .e (.c .nil)=>match T t2 with
  |some ⟨.sl _,_,_,_⟩=>some (True,[],[])
  |_=>none
 | .e (.c (.own ob n))=>match T t2,aS σ (.o ob) with
  |some ⟨.sl _,_,_,_⟩,some (.row e es rows)=>some (rows.length=n,rows,[(.o ob,some (.row e es rows))])
  |_,_=>none
 | .e (.c (.d (.s l)))=>match T t2 with
  |some ⟨.str,_,_,_⟩=>some (True,l.map fun b=>[.u b.toNat],[])
  |_=>none
 |_=>none
structure er (P:Program) (w:World) (S:Nat→Prop) (es:Nat) (rows:List (List D)) (vx:Value) (news:List Value):Prop where
 len: (Builtin.lenOf vx).run P w= .ok rows.length w
 len': ∀w1,(Builtin.lenOf vx).run P w1= .ok rows.length w1
 pre: ∀w1 m,w1.heap=w.heap→m≤rows.length→(Builtin.firstCells es m vx).run P w1= .ok (news.take (m*es)).toArray w1
 size:news.length=rows.length*es
 one: ∀u∈news,u.oneCell'=true
 rel: ∀(i:Nat) r,rows[i]? =some r→ ∀(k:Nat) d,r[k]? =some d→ ∃u,news[i*es+k]? =some u∧DR w S d u
theorem er.first {P:Program} {w:World} {S:Nat→Prop} {es:Nat} {rows:List (List D)} {vx:Value} {news:List Value} (h:er P w S es rows vx news): ∀w1,w1.heap=w.heap→(Builtin.firstCells es rows.length vx).run P w1= .ok news.toArray w1:=fun w1 h1=>by
 have:=h.pre w1 rows.length h1 (aSo _)
 rwa [← h.size,aSv] at this
theorem tC {w w1:World} (h:w1.heap=w.heap) (a:Addr):w1.cell? a=w.cell? a:=by simp[World.cell?,h]
theorem kG {i n es k:Nat} (hi:i<n) (hk:k<es):i*es+k<n*es:=by
 have: (i+1)*es≤n*es:=Nat.mul_le_mul_right _ hi
 rw[aSt,Nat.one_mul] at this;omega
theorem ar {P:Program} {T:gB} (hT:dK P T) {σ0:St} {t2:TypeId} {X:V} {p:Prop} {rows:List (List D)} {R:List (dD×Option K)} (h:qO T σ0 t2 X=some (p,rows,R)) (hp:p) {es:Nat} (hes:0<es) (hlen: ∀r∈rows,r.length=es)
 {cx:Cx P} {σ:St} {ι:Nat→Value} {S:Nat→Prop} {a:Act} {w:World} (hr:bJ R σ) (hw:RW cx σ ι S a w) {vx:Value} (hX:kU σ ι w S X vx): ∃news,er P w S es rows vx news:=by
 unfold qO at h
 split at h
 · split at h<;>try(cases h;done)
   cases h
   obtain⟨a0,cap,es',ad,u,hv,hc,hm,he,ha,hw1,hd1⟩:=(show DR w S (.sl rows) vx from hX).sl_inv
   by_cases hrz:rows=[]
   · subst hrz
     refine⟨[],⟨by rw[hv];simp[Builtin.lenOf],fun w1=>by rw[hv];simp[Builtin.lenOf],fun w1 m h1 hm=> ?_,by simp,by simp,by simp⟩⟩
     rw[hv]
     obtain rfl:m=0:=by simpa using hm
     cases a0<;>simp[Builtin.firstCells,loadCells,loadCellsFrom]
   · have ha0:=ha hrz
     subst ha0
     have hee:es'=es:=by
      obtain⟨r,hrm⟩:=List.exists_mem_of_ne_nil _ hrz
      rw[← he r hrm];exact hlen r hrm
     subst hee
     have hcell: ∀(j:Nat),j<rows.length*es'→w.cell? (ad.add j)=some (u (j / es') (j % es'))∧(u (j / es') (j % es')).oneCell'=true:=by
      intro j hj
      have h1:j / es'<rows.length:=(Nat.div_lt_iff_lt_mul hes).2 hj
      have h2:j % es'<es':=Nat.mod_lt _ hes
      have hrl:=he _ (List.getElem_mem h1)
      have h3:j % es'< (rows[j / es']).length:=by rw[hrl];exact h2
      obtain⟨_,hc⟩:=hw1 (j / es') _ (j % es') _ (aSn h1) (aSn h3)
      rw[Nat.div_add_mod'] at hc
      exact⟨hc,DR.oneCell (hd1 (j / es') _ (j % es') _ (aSn h1) (aSn h3))⟩
     refine⟨(aSp (rows.length*es')).map fun j=>u (j / es') (j % es'),⟨by rw[hv];simp[Builtin.lenOf],fun w1=>by rw[hv];simp[Builtin.lenOf],fun w1 m h1 hm=> ?_,by simp,?_,fun i r hri k d hk=> ?_⟩⟩
     · rw[hv]
       have hle:m*es'≤rows.length*es':=Nat.mul_le_mul_right _ hm
       refine run_firstCells_some (P:=P) w1 es' m ad rows.length cap _ (by rw[aSk,List.length_map,List.length_range];omega) (fun j v hj=> ?_)
       have hjl:j<m*es':=by have:=(aSm.1 hj).1;rw[aSk,List.length_map,List.length_range] at this;omega
       rw[List.getElem?_take,if_pos hjl] at hj
       have hjl:j<rows.length*es':=by omega
       simp[hjl] at hj
       rw[tC h1,(hcell j hjl).1,hj]
     · intro v hv2
       simp only[aSq,List.mem_range] at hv2
       obtain⟨j,hj,rfl⟩:=hv2
       exact(hcell j hj).2
     · have hil:i<rows.length:=(aSm.1 hri).1
       have hkl:k<es':=by rw[← hlen r (List.mem_of_getElem? hri)];exact(aSm.1 hk).1
       refine⟨u i k,?_,hd1 i r k d hri hk⟩
       have e1: (i*es'+k) / es'=i:=by rw[Nat.mul_comm,Nat.mul_add_div hes,Nat.div_eq_of_lt hkl];rfl
       have e2: (i*es'+k) % es'=k:=by rw[Nat.mul_comm,Nat.mul_add_mod,Nat.mod_eq_of_lt hkl]
       simp[kG hil hkl,e1,e2]
 · split at h<;>try(cases h;done)
   cases h
   have hv:vx= .slice none 0 0:=hX
   exact⟨[],⟨by rw[hv];simp[Builtin.lenOf],fun w1=>by rw[hv];simp[Builtin.lenOf],fun w1 m h1 hm=>by(obtain rfl:m=0:=by simpa using hm);rw[hv];simp[Builtin.firstCells],by simp,by simp,by simp⟩⟩
 · rename_i ob n
   split at h<;>try(cases h;done)
   rename_i e _ _ _ e' es' _ _ hl
   cases h
   have hl':=hr (.o ob,some (.row e' es' rows)) (by simp)
   dsimp only at hl'
   obtain⟨_,h2⟩:=(show CR σ ι w S (.own ob n) vx from hX)
   rcases h2 with⟨e2,es2,rows2,hl2,hn,hv⟩|hd
   · rw[hl'] at hl2;cases hl2
     have hv1:=hv hp
     clear hv
     have hv:=hv1
     clear hv1
     rcases hw.vr.objs ob _ hl' with⟨hn2,hr2⟩|⟨g,off,cap,cur,fz,hg,hh,hfz,hc1,hc2,hc3,hrows⟩
     · subst hr2
       rw[hn2] at hv
       exact⟨[],⟨by rw[hv];simp[Builtin.lenOf],fun w1=>by rw[hv];simp[Builtin.lenOf],fun w1 m h1 hm=>by(obtain rfl:m=0:=by simpa using hm);rw[hv];simp[Builtin.firstCells],by simp,by simp,by simp⟩⟩
     · rw[hg] at hv
       by_cases hrz:rows=[]
       · subst hrz
         exact⟨[],⟨by rw[hv];simp[Builtin.lenOf],fun w1=>by rw[hv];simp[Builtin.lenOf],fun w1 m h1 hm=>by(obtain rfl:m=0:=by simpa using hm);rw[hv];simp[Builtin.firstCells,loadCells,loadCellsFrom],by simp,by simp,by simp⟩⟩
       · have hee:es'=es:=by
          obtain⟨r,hrm⟩:=List.exists_mem_of_ne_nil _ hrz
          obtain⟨i,hi⟩:=List.mem_iff_getElem?.1 hrm
          rw[← (hrows i r hi).1];exact hlen r hrm
         subst hee
         have hle:rows.length*es'≤cap*es':=Nat.mul_le_mul_right _ hc1
         have h9:cur.toList.length=cur.size:=Array.length_toList
         have hget: ∀j,j<rows.length*es'→((cur.toList.drop off).take (rows.length*es'))[j]? =cur[off+j]?:=by
          intro j hj
          rw[List.getElem?_take,if_pos hj,List.getElem?_drop];simp
         refine⟨(cur.toList.drop off).take (rows.length*es'),⟨by rw[hv];simp[Builtin.lenOf],fun w1=>by rw[hv];simp[Builtin.lenOf],fun w1 m h1 hm=> ?_,by simp;omega,?_,fun i r hri k d hk=> ?_⟩⟩
         · rw[hv]
           have hle2:m*es'≤rows.length*es':=Nat.mul_le_mul_right _ hm
           refine run_firstCells_some (P:=P) w1 es' m ⟨g,off,none⟩ rows.length cap _ (by rw[aSk,aSk,aSr];omega) (fun j v hj=> ?_)
           have hjl:j<m*es':=by have:=(aSm.1 hj).1;rw[aSk] at this;omega
           rw[List.getElem?_take,if_pos hjl] at hj
           have hjl:j<rows.length*es':=by omega
           rw[hget j hjl] at hj
           rw[tC h1,kL,cell_of_row w g _ cur e' fz hh];exact hj
         · intro v hv2
           obtain⟨j,hj⟩:=List.mem_iff_getElem?.1 hv2
           have hjl:j<rows.length*es':=by have:=(aSm.1 hj).1;simp at this;omega
           rw[hget j hjl] at hj
           have h1:j / es'<rows.length:=(Nat.div_lt_iff_lt_mul hes).2 hjl
           have h2:j % es'<es':=Nat.mod_lt _ hes
           have hrr:=hrows (j / es') _ (aSn h1)
           have h3:j % es'< (rows[j / es']).length:=by rw[hrr.1];exact h2
           obtain⟨u,hu,hdr⟩:=hrr.2 (j % es') _ (aSn h3)
           rw[Nat.add_assoc,Nat.div_add_mod'] at hu
           rw[hu] at hj;cases hj
           exact DR.oneCell hdr
         · have hil:i<rows.length:=(aSm.1 hri).1
           have hkl:k<es':=by rw[← hlen r (List.mem_of_getElem? hri)];exact(aSm.1 hk).1
           obtain⟨u,hu,hdr⟩:=(hrows i r hri).2 k d hk
           exact⟨u,by rw[hget _ (kG hil hkl),← Nat.add_assoc];exact hu,hdr⟩
   · rw[hl'] at hd;cases hd
 · rename_i l
   split at h<;>try(cases h;done)
   cases h
   have hv:vx= .string ⟨l.toArray⟩:=by
    have hX:DR w S (.s l) vx:=hX
    cases hX;rfl
   by_cases hlz:l=[]
   · subst hlz
     refine⟨[],⟨by rw[hv];simp[Builtin.lenOf];rfl,fun w1=>by rw[hv];simp[Builtin.lenOf];rfl,fun w1 m h1 hm=> ?_,by simp,by simp,by simp⟩⟩
     rw[hv]
     obtain rfl:m=0:=by simpa using hm
     simp only[Builtin.firstCells,List.map_nil,aSh]
     have: ((⟨([]:List UInt8).toArray⟩:ByteArray).extract 0 0)=⟨([]:List UInt8).toArray⟩:=by
      apply ByteArray.ext
      simp
     rw[this];simp
   · have he1:es=1:=by
      obtain⟨b,hb⟩:=List.exists_mem_of_ne_nil _ hlz
      have:=hlen [.u b.toNat] (aSq.2 ⟨b,hb,rfl⟩)
      simpa using this.symm
     subst he1
     refine⟨l.map fun b=> .int .u8 b.toNat,⟨by rw[hv];simp[Builtin.lenOf,wH],fun w1=>by rw[hv];simp[Builtin.lenOf,wH],fun w1 m h1 hm=> ?_,by simp,by simp[Value.oneCell'],fun i r hri k d hk=> ?_⟩⟩
     · rw[hv]
       simp only[Builtin.firstCells,List.length_map]
       have: ((⟨l.toArray⟩:ByteArray).extract 0 m)=⟨(l.take m).toArray⟩:=by
        apply ByteArray.ext
        simp
       rw[this];simp
     · rw[List.getElem?_map] at hri
       cases hq:l[i]? with
       |none=>rw[hq] at hri;cases hri
       |some b=>
        rw[hq] at hri;cases hri
        cases k with
        |zero=>
         simp at hk;subst hk
         exact⟨.int .u8 b.toNat,by simp[hq],.u _⟩
        |succ k=>simp at hk
 · cases h
theorem yA {P:Program} {w:World} {t t2 ty e:TypeId} {ti:TI} {d2:TypeDesc} (hu:P.underlying t=some (.slice e)) (hok:eK P e ti) (hu2:P.underlying t2=some d2) (hd2: ∀k,d2≠ .int k)
 {S:Nat→Prop} {rows:List (List D)} {vx:Value} {news:List Value} (hs:er P w S ti.size rows vx news)
 (g off sLen sCap:Nat) (cur:Array Value) (ce:TypeId) {fz:Nat×Nat} (hfz:aJi fz cur.size) (hg:w.heap[g]? =some (.cells cur ce fz)) (hroom:sLen+rows.length≤sCap) (hfit:off+sCap*ti.size≤cur.size):
 (Builtin.append_ #[t,t2] ty #[.slice (some ⟨g,off,none⟩) sLen sCap,vx]).run P w= .ok (.slice (some ⟨g,off,none⟩) (sLen+rows.length) sCap) (w.setRow g (cX cur.toList (off+sLen*ti.size) news).toArray):=by
 have hmul: (sLen+rows.length)*ti.size≤sCap*ti.size:=Nat.mul_le_mul_right _ hroom
 rw[aSt,← hs.size] at hmul
 have hst:=lU (P:=P) g (off+sLen*ti.size) ce fz news 0 cur w hg hfz (by omega) hs.one
 simp only[Nat.add_zero,cX] at hst
 have hz: (match d2 with| .int _=>true|_=>false)=false:=by cases d2<;>first|rfl|exact absurd rfl (hd2 _)
 simp[Builtin.append_,run_underlying hu,run_underlying hu2,fB hok,hs.len,hroom,hs.first w rfl,kL,hst,cX,hz]
theorem rQ {P:Program} {w:World} {t t2 ty e:TypeId} {ti:TI} {d2:TypeDesc} (hu:P.underlying t=some (.slice e)) (hok:eK P e ti) (hu2:P.underlying t2=some d2) (hd2: ∀k,d2≠ .int k)
 {S:Nat→Prop} {vx:Value} {news:List Value} (hs:er P w S ti.size [] vx news):
 (Builtin.append_ #[t,t2] ty #[.slice none 0 0,vx]).run P w= .ok (.slice none 0 0) w:=by
 have hz: (match d2 with| .int _=>true|_=>false)=false:=by cases d2<;>first|rfl|exact absurd rfl (hd2 _)
 have h1:=hs.len
 have h2:=hs.first w rfl
 simp only[aSh] at h1 h2
 simp[Builtin.append_,run_underlying hu,run_underlying hu2,fB hok,h1,h2,hz]
theorem qA {P:Program} {w:World} {t t2 ty e:TypeId} {ti:TI} {d2:TypeDesc} (hu:P.underlying t=some (.slice e)) (hok:eK P e ti) (hu2:P.underlying t2=some d2) (hd2: ∀k,d2≠ .int k)
 {S:Nat→Prop} {rows:List (List D)} {vx:Value} {news:List Value} (hs:er P w S ti.size rows vx news) (base:Option Addr) (sLen sCap:Nat) (olds:List Value)
 (hold: ∀w1,w1.heap=w.heap→(Builtin.firstCells ti.size sLen (.slice base sLen sCap)).run P w1= .ok olds.toArray w1)
 (hgrow:sCap<sLen+rows.length) (hbytes: (sLen+rows.length)*ti.bytes≤140737488355328):
 ∃cap zs,(Builtin.append_ #[t,t2] ty #[.slice base sLen sCap,vx]).run P w= .ok (.slice (some ⟨w.heap.size,0,none⟩) (sLen+rows.length) cap) (w.drew.alloc (.cells (olds++news++zs).toArray e))∧sLen+rows.length≤cap∧cap≤maxLen∧
  zs.length=(cap - (sLen+rows.length))*ti.size:=by
 have hz: (match d2 with| .int _=>true|_=>false)=false:=by cases d2<;>first|rfl|exact absurd rfl (hd2 _)
 obtain⟨i,z,hi,hsz,hby,hzero,hzc⟩:=hok.info
 have hb:=hok.bpos
 have hle:sLen+rows.length≤(sLen+rows.length)*ti.bytes:=Nat.le_mul_of_pos_right _ hb
 have hfit: ¬(281474976710656<Builtin.nextslicecap (sLen+rows.length) sCap*ti.bytes):=by
  have:=growslice_fits hgrow hbytes;omega
 have hcl:=grownCap_ge w (sLen+rows.length) sCap e
 have hcm:=grownCap_le_maxLen w (sLen+rows.length) sCap e (by simp only[maxLen];omega)
 have hzl:z.cells.size=ti.size:=by rw[← Array.length_toList,hzc,List.length_map,hok.zlen]
 refine⟨grownCap w (sLen+rows.length) sCap e,(Builtin.zeroCells z.cells (grownCap w (sLen+rows.length) sCap e - (sLen+rows.length))).toList,?_,hcl,hcm,?_⟩
 · have hn: ¬(sLen+rows.length≤sCap):=by omega
   have h63: ¬(9223372036854775807< ((sLen:Int)+(rows.length:Int))):=by omega
   have ho:=hold w.drew rfl
   have hf:=hs.first w.drew rfl
   simp[Builtin.append_,run_underlying hu,run_underlying hu2,fB hok,hs.len,hn,h63,typeInfo,hi,hby,hfit,hz,Question.forced,zeroValue,hzero,newRow,grownCap]
   rw[ho,Result.andThen_ok,hf,Result.andThen_ok]
   simp
   congr 2
   apply Array.toList_inj.1
   simp
 · simp[size_zeroCells,hzl]
set_option linter.unusedSimpArgs false
theorem wJ {P:Program} {T:gB} (hT:dK P T) {σ0:St} {t2:TypeId} {X:V} {p:Prop} {rows:List (List D)} {R:List (dD×Option K)} (h:qO T σ0 t2 X=some (p,rows,R)):
 ∃d2,P.underlying t2=some d2∧ ∀k,d2≠ .int k:=by
 unfold qO at h
 split at h<;>try(cases h;done)
 all_goals
  split at h<;>try(cases h;done)
  rename_i ht
  have:=(hT t2 _ ‹_›).kind
  simp only[kW] at this
  exact⟨_,this,fun k e=>by cases e⟩
theorem qP {T:gB} {σ0:St} {t2:TypeId} {X:V} {p:Prop} {rows:List (List D)} {R:List (dD×Option K)} (h:qO T σ0 t2 X=some (p,rows,R)):bJ R σ0:=by
 unfold qO at h
 split at h<;>try(cases h;done)
 all_goals
  split at h<;>try(cases h;done)
  cases h
  first|exact bJ.nil|exact bJ.one ‹_›
theorem ji {P:Program} {o:Oper} {d id:Nat} {R:List (dD×Option K)} {k:K} {X:V} (hd:o.dst=some d)
 (h: ∀(cx:Cx P) (σ:St) (ι:Nat→Value) (S:Nat→Prop) (a:Act) (w:World),bJ R σ→RW cx σ ι S a w→ ∃v old p w',(execOp a.eval o).run P w= .ok (.value v) w'∧aG6 σ ι S w id old k p w'∧
  kU (oO σ (.o id) k) (fun o=>if o=id then p else ι o) w' S X v):wG P o R [(.o id,k),(.t d,.v X)]:=by
 intro cx σ ι S a w hr hw hb next Q hn
 obtain⟨v,old,p,w',he,ht,hx⟩:=h cx σ ι S a w hr hw
 unfold Oper.wp
 rw[he]
 simp only[Oper.upon,hd]
 exact hn _ S _ w' ((hw.turn ht).put (hb d hd) hx)
def yh (T:gB) (σ:St) (t t2:TypeId) (x y:Operand) (d:Option Tmp):tp:=
 match ev σ x,ev σ y,T t,d with
 |some (.e (.c (.own ob n)),R),some (Y,R2),some ⟨.sl e,_,_,_⟩,some d=>match T e,aS σ (.o ob),qO T σ t2 Y with
  |some ti,some (.row e' es rows),some (q,news,R3)=>if e=e'∧ti.size=es then
   some (q∧rows.length=n∧(∀r∈news,r.length=es)∧(n+news.length)*ti.bytes≤140737488355328,R++R2++R3++[(.o ob,some (.row e' es rows))],
    [(.o ob,.row e es (rows++news)),(.t d,.v (.e (.c (.own ob (rows++news).length))))]) else none
  |_,_,_=>none
 |some (.e (.c .nil),R),some (Y,R2),some ⟨.sl e,_,_,_⟩,some d=>match T e,qO T σ t2 Y with
  |some ti,some (q,news,R3)=>if uZ σ (.o (iI σ d)) then
   some (q∧(∀r∈news,r.length=ti.size)∧news.length*ti.bytes≤140737488355328,R++R2++R3++[(.o (iI σ d),none)],
    [(.o (iI σ d),.row e ti.size news),(.t d,.v (.e (.c (.own (iI σ d) news.length))))]) else none
  |_,_=>none
 |_,_,_,_=>none
theorem jj {w:World} {S:Nat→Prop} {es:Nat} {rows news:List (List D)} {off:Nat} {at_:Nat→Option Value}
 (hold: ∀(i:Nat) r,rows[i]? =some r→r.length=es∧ ∀(k:Nat) d,r[k]? =some d→ ∃u,at_ (off+i*es+k)=some u∧DR w S d u)
 (hnew: ∀r∈news,r.length=es) (hn: ∀(i:Nat) r,news[i]? =some r→ ∀(k:Nat) d,r[k]? =some d→ ∃u,at_ (off+rows.length*es+(i*es+k))=some u∧DR w S d u):
 ∀(i:Nat) r,(rows++news)[i]? =some r→r.length=es∧ ∀(k:Nat) d,r[k]? =some d→ ∃u,at_ (off+i*es+k)=some u∧DR w S d u:=by
 intro i r hr
 by_cases hi:i<rows.length
 · rw[List.getElem?_append_left hi] at hr
   exact hold i r hr
 · rw[List.getElem?_append_right (by omega)] at hr
   refine⟨hnew r (List.mem_of_getElem? hr),fun k d hk=> ?_⟩
   obtain⟨u,hu,hdr⟩:=hn (i - rows.length) r hr k d hk
   refine⟨u,?_,hdr⟩
   have:off+i*es+k=off+rows.length*es+((i - rows.length)*es+k):=by
    have:i*es=rows.length*es+(i - rows.length)*es:=by rw[← aSt];congr 1;omega
    omega
   rw[this];exact hu
theorem aA2 {P:Program} {T:gB} (hT:dK P T) {o:Oper} {σ0:St} {t t2:TypeId} {x y:Operand} (ho:o.op= .call {callee:= .builtin .append,args:= #[x,y],argTypes:= #[t,t2]}):
 kV P o σ0 (yh T σ0 t t2 x y o.dst):=by
 intro p R W h hp
 unfold yh at h
 split at h
 · rename_i ob n Rx Y Ry e _ _ _ d hx hy ht hd
   split at h<;>try(cases h;done)
   rename_i ti e' es rows q news R3 hte hl hsrc
   split at h<;>try(cases h;done)
   rename_i hee
   obtain⟨rfl,rfl⟩:=hee
   cases h
   obtain⟨hq,hn,hnl,hbytes⟩:=hp
   have hu:=(hT t _ ht).kind
   simp only[kW] at hu
   have hok:=hT e ti hte
   obtain⟨d2,hu2,hd2⟩:=wJ hT hsrc
   refine⟨ji hd fun cx σ ι S a w hr hw=> ?_,(((cZ hx).append (cZ hy)).append (qP hsrc)).append (bJ.one hl)⟩
   have hl':=hr.right (.o ob,some (.row e ti.size rows)) (by simp)
   dsimp only at hl'
   have hX:=dA hx hr.left.left.left hw
   have hY:=dA hy hr.left.left.right hw
   obtain⟨nv,hs⟩:=ar hT hsrc hq hok.pos hnl hr.left.right hw hY
   obtain⟨_,h2⟩:=(show CR σ ι w S (.own ob n) (a.eval x) from hX)
   rcases h2 with⟨e2,es2,rows2,hl2,hnn,hv⟩|hdd
   case inr=>rw[hl'] at hdd;cases hdd
   rw[hl'] at hl2;cases hl2
   have hvx:=hv hn
   have hlen: (rows++news).length=n+news.length:=by rw[aSe,hn]
   rcases hw.vr.objs ob _ hl' with⟨hn2,hr2⟩|⟨g,off,cap,cur,fz,hg,hh,hfz,hc1,hc2,hc3,hrows⟩
   ·
    subst hr2
    rw[hn2] at hvx
    have hn0:n=0:=by simpa using hn.symm
    subst hn0
    by_cases hnz:news=[]
    · subst hnz
      have hrun:=rQ (w:=w) (ty:=o.type) hu hok hu2 hd2 hs
      have hblock: ∀b,b<w.heap.size→some b≠(none:Option Nat)→w.heap[b]? =w.heap[b]?:=fun _ _ _=>rfl
      refine⟨.slice none 0 0,none,.slice none 0 0,w,?_,⟨rfl,rfl,rfl,aSo _,hblock,(fun b hb=>by cases hb),.inr ⟨_,hl',rfl,by simp,fun _=>hn2.symm⟩,(fun b hb=>by simp[wF] at hb),.inl ⟨rfl,by simp⟩⟩,rfl,.inl ⟨e,ti.size,_,cQ _ _ _,by simp,fun _=>by simp⟩⟩
      simp[execOp,ho,resolve,invoke,builtin,hvx,hrun]
    · have hnpos:0<news.length:=List.length_pos_iff.2 hnz
      obtain⟨cap',zs,hrun,hle,hm,hzl⟩:=qA (w:=w) (ty:=o.type) hu hok hu2 hd2 hs none 0 0 [] (fun w1 _=>by simp[Builtin.firstCells]) (by omega) (by simpa using hbytes)
      simp only[List.nil_append,Nat.zero_add] at hrun hle hzl
      have hblock: ∀b,b<w.heap.size→some b≠(none:Option Nat)→(w.drew.alloc (.cells (nv++zs).toArray e)).heap[b]? =w.heap[b]?:=fun b hb _=>heap_alloc_old w.drew _ b hb
      have hevo:aS σ (.o ob)=none∨ ∃k0,aS σ (.o ob)=some k0∧lZ (ι ob) (.slice (some ⟨w.heap.size,0,none⟩) news.length cap') k0 (.row e ti.size ([]++news)):=
       .inr ⟨_,hl',rfl,by simp,fun hc=>by simp at hc;exact absurd hc hnz⟩
      have st:=pY hw.vr hblock (fun b hb=>by cases hb) hevo
      refine⟨.slice (some ⟨w.heap.size,0,none⟩) news.length cap',none,.slice (some ⟨w.heap.size,0,none⟩) news.length cap',w.drew.alloc (.cells (nv++zs).toArray e),?_,
       ⟨rfl,rfl,rfl,by simp,hblock,(fun b hb=>by cases hb),hevo,(fun b hb=> .inr (by simp[wF] at hb;omega)),?_⟩,rfl,.inl ⟨e,ti.size,_,cQ _ _ _,by simp,fun _=>by simp⟩⟩
      · simp[execOp,ho,resolve,invoke,builtin,hvx,hrun]
      · refine .inr ⟨w.heap.size,0,cap',(nv++zs).toArray,(0,0),by simp,heap_alloc_new w.drew _,.inl rfl,by simpa using hle,hm,?_,?_⟩
        · rw[List.size_toArray,aSe,hs.size,hzl,← aSt,Nat.add_sub_cancel' hle];omega
        · refine jj (at_:=fun j=>(nv++zs).toArray[j]?) (by simp) hnl (fun i r hi k d hk=> ?_)
          obtain⟨u,hu',hdr⟩:=hs.rel i r hi k d hk
          refine⟨u,?_,DR.mono st.sub st.keep hdr⟩
          have hlt:=(aSm.1 hu').1
          simp only[List.getElem?_toArray,aSh,Nat.zero_mul,Nat.zero_add]
          rw[List.getElem?_append_left hlt];exact hu'
   · rw[hg,hn] at hvx
     by_cases hroom:n+news.length≤cap
     · have hrun:=yA (w:=w) (ty:=o.type) hu hok hu2 hd2 hs g off n cap cur e hfz hh hroom hc3
       have hmul: (n+news.length)*ti.size≤cap*ti.size:=Nat.mul_le_mul_right _ hroom
       rw[aSt,← hs.size] at hmul
       have h9:cur.toList.length=cur.size:=Array.length_toList
       have hmine: ∀b',some g=some b'→jY σ ι ob b':=fun b' e=>by cases e;exact⟨⟨_,hl',trivial⟩,by rw[hg];rfl⟩
       have hblock: ∀b',b'<w.heap.size→some b'≠some g→(w.setRow g (cX cur.toList (off+n*ti.size) nv).toArray).heap[b']? =w.heap[b']?:=fun b' _ hne=>setRow_other w g b' _ (fun e=>hne (by rw[e]))
       have hevo:aS σ (.o ob)=none∨ ∃k0,aS σ (.o ob)=some k0∧lZ (ι ob) (.slice (some ⟨g,off,none⟩) (n+news.length) cap) k0 (.row e ti.size (rows++news)):=
        .inr ⟨_,hl',rfl,by simp,fun hc=>by rw[hg,← hlen,hc]⟩
       have st:=pY hw.vr hblock hmine hevo
       refine⟨.slice (some ⟨g,off,none⟩) (n+news.length) cap,some g,.slice (some ⟨g,off,none⟩) (n+news.length) cap,w.setRow g (cX cur.toList (off+n*ti.size) nv).toArray,?_,
        ⟨rfl,rfl,rfl,by simp,hblock,hmine,hevo,(fun b hb=> .inl (by simp[wF] at hb;rw[hb])),?_⟩,rfl,.inl ⟨e,ti.size,_,cQ _ _ _,aSo _,fun _=>by simp⟩⟩
       · simp[execOp,ho,resolve,invoke,builtin,hvx,hrun]
       · refine .inr ⟨g,off,cap,(cX cur.toList (off+n*ti.size) nv).toArray,fz,by rw[hlen],setRow_heap w g cur _ e _ hh,by rw[List.size_toArray,eU (by omega),h9];exact hfz,by rw[hlen];exact hroom,hc2,?_,?_⟩
         · rw[List.size_toArray,eU (by omega),h9];exact hc3
         · refine jj (at_:=fun j=>(cX cur.toList (off+n*ti.size) nv).toArray[j]?) (fun i r hi=> ?_) hnl (fun i r hi k d hk=> ?_)
           · obtain⟨q1,q2⟩:=hrows i r hi
             refine⟨q1,fun k d hk=> ?_⟩
             obtain⟨u,hu',hdr⟩:=q2 k d hk
             refine⟨u,?_,DR.mono st.sub st.keep hdr⟩
             have hil:i<n:=by rw[← hn];exact(aSm.1 hi).1
             have hkl:k<ti.size:=by rw[← q1];exact(aSm.1 hk).1
             have:=kG hil hkl
             simp only[List.getElem?_toArray]
             rw[hO (by omega),if_pos (by omega)]
             simpa using hu'
           · obtain⟨u,hu',hdr⟩:=hs.rel i r hi k d hk
             refine⟨u,?_,DR.mono st.sub st.keep hdr⟩
             have hlt:=(aSm.1 hu').1
             simp only[List.getElem?_toArray,hn]
             rw[hO (by omega),if_neg (by omega),if_pos (by omega),show off+n*ti.size+(i*ti.size+k) - (off+n*ti.size)=i*ti.size+k by omega]
             exact hu'
     · have hle9:n*ti.size≤cap*ti.size:=Nat.mul_le_mul_right _ (by rw[← hn];exact hc1)
       have h9:cur.toList.length=cur.size:=Array.length_toList
       obtain⟨olds,hold⟩: ∃olds,olds=(cur.toList.drop off).take (n*ti.size):=⟨_,rfl⟩
       have holdl:olds.length=n*ti.size:=by rw[hold];simp;omega
       have hget: ∀j,j<n*ti.size→olds[j]? =cur[off+j]?:=by
        intro j hj
        rw[hold,List.getElem?_take,if_pos hj,List.getElem?_drop];simp
       obtain⟨cap',zs,hrun,hle,hm,hzl⟩:=qA (w:=w) (ty:=o.type) hu hok hu2 hd2 hs (some ⟨g,off,none⟩) n cap olds (fun w1 h1=>by
        refine run_firstCells_some (P:=P) w1 ti.size n ⟨g,off,none⟩ n cap _ holdl (fun j v hj=> ?_)
        have hjl:j<n*ti.size:=by rw[← holdl];exact(aSm.1 hj).1
        rw[hget j hjl] at hj
        rw[tC h1,kL,cell_of_row w g _ cur e fz hh];exact hj) (by omega) hbytes
       have hblock: ∀b,b<w.heap.size→some b≠(none:Option Nat)→(w.drew.alloc (.cells (olds++nv++zs).toArray e)).heap[b]? =w.heap[b]?:=fun b hb _=>heap_alloc_old w.drew _ b hb
       have hnn0:news.length≠0:=by intro h0;rw[h0] at hroom;rw[hn] at hc1;omega
       have hevo:aS σ (.o ob)=none∨ ∃k0,aS σ (.o ob)=some k0∧lZ (ι ob) (.slice (some ⟨w.heap.size,0,none⟩) (n+news.length) cap') k0 (.row e ti.size (rows++news)):=
        .inr ⟨_,hl',rfl,by simp,fun hc=>by simp at hc;exact absurd (by rw[hc];rfl) hnn0⟩
       have st:=pY hw.vr hblock (fun b hb=>by cases hb) hevo
       refine⟨.slice (some ⟨w.heap.size,0,none⟩) (n+news.length) cap',none,.slice (some ⟨w.heap.size,0,none⟩) (n+news.length) cap',w.drew.alloc (.cells (olds++nv++zs).toArray e),?_,
        ⟨rfl,rfl,rfl,by simp,hblock,(fun b hb=>by cases hb),hevo,(fun b hb=> .inr (by simp[wF] at hb;omega)),?_⟩,rfl,.inl ⟨e,ti.size,_,cQ _ _ _,aSo _,fun _=>by simp⟩⟩
       · simp[execOp,ho,resolve,invoke,builtin,hvx,hrun]
       · refine .inr ⟨w.heap.size,0,cap',(olds++nv++zs).toArray,(0,0),by rw[hlen],heap_alloc_new w.drew _,.inl rfl,by rw[hlen];exact hle,hm,?_,?_⟩
         · rw[List.size_toArray,aSe,aSe,hs.size,hzl,holdl,← aSt,← aSt,Nat.add_sub_cancel' hle];omega
         · refine jj (at_:=fun j=>(olds++nv++zs).toArray[j]?) (fun i r hi=> ?_) hnl (fun i r hi k d hk=> ?_)
           · obtain⟨q1,q2⟩:=hrows i r hi
             refine⟨q1,fun k d hk=> ?_⟩
             obtain⟨u,hu',hdr⟩:=q2 k d hk
             refine⟨u,?_,DR.mono st.sub st.keep hdr⟩
             have hil:i<n:=by rw[← hn];exact(aSm.1 hi).1
             have hkl:k<ti.size:=by rw[← q1];exact(aSm.1 hk).1
             have hlt:=kG hil hkl
             simp only[List.getElem?_toArray]
             rw[List.append_assoc,List.getElem?_append_left (by rw[holdl];omega),show 0+i*ti.size+k=i*ti.size+k by omega,hget _ hlt,← Nat.add_assoc]
             exact hu'
           · obtain⟨u,hu',hdr⟩:=hs.rel i r hi k d hk
             refine⟨u,?_,DR.mono st.sub st.keep hdr⟩
             have hlt:=(aSm.1 hu').1
             simp only[List.getElem?_toArray,hn]
             rw[List.append_assoc,List.getElem?_append_right (by rw[holdl];omega),holdl,show 0+n*ti.size+(i*ti.size+k) - n*ti.size=i*ti.size+k by omega,List.getElem?_append_left hlt]
             exact hu'
 · rename_i Rx Y Ry e _ _ _ d hx hy ht hd
   split at h<;>try(cases h;done)
   rename_i ti q news R3 hte hsrc
   split at h<;>try(cases h;done)
   rename_i habs
   cases h
   obtain⟨hq,hnl,hbytes⟩:=hp
   have hu:=(hT t _ ht).kind
   simp only[kW] at hu
   have hok:=hT e ti hte
   obtain⟨d2,hu2,hd2⟩:=wJ hT hsrc
   refine⟨ji hd fun cx σ ι S a w hr hw=> ?_,(((cZ hx).append (cZ hy)).append (qP hsrc)).append (bJ.one (oE habs))⟩
   have hno:=hr.right (.o (iI σ0 d),none) (by simp)
   dsimp only at hno
   have hX:=dA hx hr.left.left.left hw
   have hY:=dA hy hr.left.left.right hw
   obtain⟨nv,hs⟩:=ar hT hsrc hq hok.pos hnl hr.left.right hw hY
   have hvx:a.eval x= .slice none 0 0:=hX
   by_cases hnz:news=[]
   · subst hnz
     have hrun:=rQ (w:=w) (ty:=o.type) hu hok hu2 hd2 hs
     refine⟨.slice none 0 0,none,.slice none 0 0,w,?_,⟨rfl,rfl,rfl,aSo _,(fun _ _ _=>rfl),(fun b hb=>by cases hb),.inl hno,(fun b hb=>by simp[wF] at hb),.inl ⟨rfl,by simp⟩⟩,rfl,.inl ⟨e,ti.size,_,cQ _ _ _,by simp,fun _=>by simp⟩⟩
     simp[execOp,ho,resolve,invoke,builtin,hvx,hrun]
   · have hnpos:0<news.length:=List.length_pos_iff.2 hnz
     obtain⟨cap',zs,hrun,hle,hm,hzl⟩:=qA (w:=w) (ty:=o.type) hu hok hu2 hd2 hs none 0 0 [] (fun w1 _=>by simp[Builtin.firstCells]) (by omega) (by simpa using hbytes)
     simp only[List.nil_append,Nat.zero_add] at hrun hle hzl
     have hblock: ∀b,b<w.heap.size→some b≠(none:Option Nat)→(w.drew.alloc (.cells (nv++zs).toArray e)).heap[b]? =w.heap[b]?:=fun b hb _=>heap_alloc_old w.drew _ b hb
     have st:=pY (k:= .row e ti.size news) (p:= .slice (some ⟨w.heap.size,0,none⟩) news.length cap') hw.vr hblock (fun b hb=>by cases hb) (.inl hno)
     refine⟨.slice (some ⟨w.heap.size,0,none⟩) news.length cap',none,.slice (some ⟨w.heap.size,0,none⟩) news.length cap',w.drew.alloc (.cells (nv++zs).toArray e),?_,
      ⟨rfl,rfl,rfl,by simp,hblock,(fun b hb=>by cases hb),.inl hno,(fun b hb=> .inr (by simp[wF] at hb;omega)),?_⟩,rfl,.inl ⟨e,ti.size,_,cQ _ _ _,by simp,fun _=>by simp⟩⟩
     · simp[execOp,ho,resolve,invoke,builtin,hvx,hrun]
     · refine .inr ⟨w.heap.size,0,cap',(nv++zs).toArray,(0,0),by simp,heap_alloc_new w.drew _,.inl rfl,by simpa using hle,hm,?_,?_⟩
       · rw[List.size_toArray,aSe,hs.size,hzl,← aSt,Nat.add_sub_cancel' hle];omega
       · intro i r hi
         refine⟨hnl r (List.mem_of_getElem? hi),fun k d hk=> ?_⟩
         obtain⟨u,hu',hdr⟩:=hs.rel i r hi k d hk
         refine⟨u,?_,DR.mono st.sub st.keep hdr⟩
         have hlt:=(aSm.1 hu').1
         simp only[List.getElem?_toArray]
         rw[show 0+i*ti.size+k=i*ti.size+k by omega,List.getElem?_append_left hlt];exact hu'
 · cases h
set_option linter.unusedSimpArgs false
theorem RW.congr {P:Program} {cx:Cx P} {σ σ':St} {ι:Nat→Value} {S:Nat→Prop} {a:Act} {w:World} (h:RW cx σ ι S a w) (he: ∀l,aS σ' l=aS σ l):RW cx σ' ι S a w:=by
 have st:pR σ ι S w σ' ι S w:=⟨fun _ h=>h,fun _ _=>rfl,fun o k hk=>⟨k,by rw[he];exact hk,lZ.refl' _ _⟩⟩
 have hm: ∀o b,jY σ' ι o b↔jY σ ι o b:=fun o b=>by unfold jY;rw[he]
 exact⟨⟨fun s x hx=>pS.step st (h.vr.slots s x (by rw[← he];exact hx)),fun o k hk=>OR.step st (fun _ _=>rfl) (h.vr.objs o k (by rw[← he];exact hk)),
  fun o b q=>h.vr.mutS o b ((hm o b).1 q),fun o o' b q q'=>h.vr.inj o o' b ((hm o b).1 q) ((hm o' b).1 q'),h.vr.sz⟩,h.size,h.defers,h.fr,fun o b q=>h.own o b ((hm o b).1 q),h.rd,
  fun o k hk=>by obtain⟨k',q1,q2⟩:=h.io o k hk;exact⟨k',by rw[he];exact q1,q2⟩⟩
abbrev lE:=List (dD×Option K)×List (dD×K)
def ItT (P:Program) (ops:Array Oper) (o:Oper) (tr:lE):Prop:=
 ∀(cx:Cx P) (σ:St) (ι:Nat→Value) (S:Nat→Prop) (a:Act) (w:World),bJ tr.1 σ→RW cx σ ι S a w→(∀d,o.dst=some d→d<cx.N)→
  ∀(next:Act→World→Prop) (Q:Exit→Act→World→Prop),(∀ι' S' a' w',RW cx (hD σ tr.2) ι' S' a' w'→next a' w')→
   if Region.wanted o (yielded ops a.tmps) then o.wp P a w next Q∨(o.asks P a w∧LetsOut Q) else next (a.put o.dst undef) w
theorem yU {P:Program} {ops:Array Oper} {o:Oper} {R:List (dD×Option K)} {W:List (dD×K)} (hg:o.guard=none) (h:wG P o R W):ItT P ops o (R,W):=by
 intro cx σ ι S a w hr hw hb next Q hn
 rw[if_pos (by simp[Region.wanted,hg])]
 exact .inl (h cx σ ι S a w hr hw hb next Q hn)
theorem oc {P:Program} {cx:Cx P} {σ:St} {ι:Nat→Value} {S:Nat→Prop} {a:Act} {w:World} (hw:RW cx σ ι S a w) {ops:Array Oper} {j s:Nat} (hs: (ops[j]?).bind (·.dst)=some s) {x:Bool} (hl:aS σ (.t s)=some (.v (B x))):
 yielded ops a.tmps j=some x:=by
 have h1:=hw.vr.slots s _ hl
 simp only[pS,kU,ER,CR] at h1
 have h2:gZ a s= .bool x:=by generalize gZ a s=v at h1;cases h1;rfl
 have h3:a.tmps[s]? =some (.bool x):=by
  unfold gZ at h2
  rw[Array.getD_eq_getD_getElem?] at h2
  cases hq:a.tmps[s]? with
  |none=>rw[hq] at h2;simp[undef] at h2
  |some v=>rw[hq] at h2;simp at h2;rw[h2]
 simp[yielded,hs,h3]
theorem aA3 {P:Program} {ops:Array Oper} {o:Oper} {R:List (dD×Option K)} {W:List (dD×K)} {j s:Nat} {x:Bool} (hg:o.guard=some (j,x)) (hs: (ops[j]?).bind (·.dst)=some s) (h:wG P o R W):ItT P ops o ((.t s,some (.v (B x)))::R,W):=by
 intro cx σ ι S a w hr hw hb next Q hn
 have hy:=oc hw hs (hr (.t s,some (.v (B x))) (by simp))
 rw[if_pos (by simp[Region.wanted,hg,hy])]
 exact .inl (h cx σ ι S a w (fun p hp=>hr p (List.mem_cons_of_mem _ hp)) hw hb next Q hn)
theorem aGd {P:Program} {ops:Array Oper} {o:Oper} {j s:Nat} {x:Bool} (hg:o.guard=some (j,x)) (hs: (ops[j]?).bind (·.dst)=some s) {W:List (dD×K)} (hW:W=match o.dst with|some d=>[(.t d,.dead)]|none=>[]):
 ItT P ops o ([(.t s,some (.v (B (!x))))],W):=by
 intro cx σ ι S a w hr hw hb next Q hn
 have hy:=oc hw hs (hr (.t s,some (.v (B (!x)))) (by simp))
 rw[if_neg (by simp[Region.wanted,hg,hy])]
 subst hW
 cases hd:o.dst with
 |none=>rw[hd] at hn;exact hn ι S a w hw
 |some d=>rw[hd] at hn;exact hn ι S _ w (hw.putDead (hb d hd) _)
def eQ:List lE→St→St
 | [],σ=>σ
 |t::r,σ=>eQ r (hD σ t.2)
def jH:List lE→St→Prop
 | [],_=>True
 |t::r,σ=>bJ t.1 σ∧jH r (hD σ t.2)
def yB (P:Program) (ops:Array Oper):List Oper→List lE→Prop
 | [],[]=>True
 |o::os,t::ts=>ItT P ops o t∧yB P ops os ts
 |_,_=>False
def aJp (N:Nat) (l:List Oper):Bool:=l.all fun o=>match o.dst with|some d=>decide (d<N)|none=>true
theorem wK {N:Nat} {l:List Oper} (h:aJp N l=true) {o:Oper} (ho:o∈l): ∀d,o.dst=some d→d<N:=by
 intro d hd
 have:=aSu.1 h o ho
 rw[hd] at this
 simpa using this
theorem wL {P:Program} {ops:Array Oper} {cx:Cx P} {Q:Exit→Act→World→Prop}: ∀(l:List Oper) (ts:List lE) (σ:St) (ι:Nat→Value) (S:Nat→Prop) (a:Act) (w:World),yB P ops l ts→jH ts σ→RW cx σ ι S a w→(∀o∈l,∀d,o.dst=some d→d<cx.N)→
 (∀ι' S' a' w',RW cx (eQ ts σ) ι' S' a' w'→Q .normal a' w')→wpList P ops Q l a w
 | [],[],σ,ι,S,a,w,_,_,hw,_,hq=>hq ι S a w hw
 |o::os,t::ts,σ,ι,S,a,w,hi,hr,hw,hf,hq=>by
  unfold wpList
  exact hi.1 cx σ ι S a w hr.1 hw (hf o (List.mem_cons_self ..)) _ Q fun ι' S' a' w' hw'=>wL os ts _ ι' S' a' w' hi.2 hr.2 hw' (fun o ho=>hf o (List.mem_cons_of_mem _ ho)) hq
 | [],_::_,_,_,_,_,_,hi,_,_,_,_=>hi.elim
 |_::_,[],_,_,_,_,_,hi,_,_,_,_=>hi.elim
def wr:List (dD×K)→dD→Option K
 | [],_=>none
 |p::r,l=>match wr r l with
  |some k=>some k
  |none=>if p.1=l then some p.2 else none
theorem kM: ∀(W:List (dD×K)) (σ:St) (l:dD),aS (hD σ W) l=match wr W l with|some k=>some k|none=>aS σ l
 | [],σ,l=>rfl
 |p::r,σ,l=>by
  unfold hD wr
  rw[kM r]
  cases wr r l with
  |some k=>rfl
  |none=>
   rw[nJ]
   by_cases h:p.1=l
   · simp[h]
   · simp[h]
theorem wM {W:List (dD×K)} {l:dD} (h:l∉W.map (·.1)):wr W l=none:=by
 induction W with
 |nil=>rfl
 |cons p r ih=>
  simp at h
  unfold wr
  rw[ih (by simpa using h.2),if_neg (fun e=>h.1 e.symm)]
theorem aLx {W:List (dD×K)} {l:dD} (h:l∈W.map (·.1)): ∃k,wr W l=some k:=by
 induction W with
 |nil=>simp at h
 |cons p r ih=>
  unfold wr
  cases hq:wr r l with
  |some k=>exact⟨k,rfl⟩
  |none=>
   simp only[List.map_cons,aSw] at h
   rcases h with h|h
   · exact⟨p.2,by rw[if_pos h.symm]⟩
   · obtain⟨k,hk⟩:=ih h;rw[hq] at hk;cases hk
def part (ts:List lE) (L:Nat→Bool) (σ:St) (l:dD):Nat→Option K
 |0=>aS σ l
 |n+1=>if L n=true then(match ts[n]? with
  |some t=>(match wr t.2 l with|some k=>some k|none=>part ts L σ l n)
  |none=>part ts L σ l n) else part ts L σ l n
theorem vA: ∀(ts us:List lE) (σ:St),eQ (ts++us) σ=eQ us (eQ ts σ)
 | [],us,σ=>rfl
 |t::ts,us,σ=>by simp only[List.cons_append,eQ];exact vA ts us _
theorem yV (ts:List lE) (σ:St) (l:dD) (L:Nat→Bool): ∀n,n≤ts.length→(∀i,i<n→L i=true)→part ts L σ l n=aS (eQ (ts.take n) σ) l
 |0,_,_=>by simp[part,eQ]
 |n+1,hn,hL=>by
  have hlt:n<ts.length:=hn
  unfold part
  rw[if_pos (hL n (by omega)),yV ts σ l L n (by omega) (fun i hi=>hL i (by omega)),aSn hlt,List.take_succ_eq_append_getElem hlt,vA]
  simp only[eQ]
  rw[kM]
theorem yW: ∀(ts:List lE) (σ:St),jH ts σ→ ∀(i:Nat) t,ts[i]? =some t→bJ t.1 (eQ (ts.take i) σ)
 |t::ts,σ,h,i,u,hu=>by
  cases i with
  |zero=>simp at hu;subst hu;exact h.1
  |succ i=>simp only[List.take_succ_cons,eQ];exact yW ts _ h.2 i u (by simpa using hu)
def aJq:dD→Nat
 | .t s=>2*s
 | .o n=>2*n+1
def iH (x:Nat):List Nat→Bool
 | []=>false
 |y::r=>Nat.beq x y||iH x r
def nX:List Nat→List Nat→Bool
 | [],_=>true
 |x::r,ys=> !iH x ys&&nX r ys
theorem gC {x:Nat}: ∀{ys:List Nat},iH x ys=true↔x∈ys
 | []=>by simp[iH]
 |y::r=>by simp[iH,gC (ys:=r),Nat.beq_eq_true_eq]
theorem rI: ∀{xs ys:List Nat},nX xs ys=true→ ∀x∈xs,x∉ys
 | [],_,_,x,hx=>by simp at hx
 |z::r,ys,h,x,hx=>by
  simp only[nX,aSg,Bool.not_eq_true'] at h
  rcases aSw.1 hx with rfl|hx
  · intro hm;rw[gC.2 hm] at h;cases h.1
  · exact rI h.2 x hx
def jS (o:Oper):List Nat:=(o.after.toList.filter (Region.binds .any)).map (·.on)
def lF:List Oper→List (List Nat)→List (List Nat)
 | [],acc=>acc
 |o::os,acc=>lF os (acc++[(jS o).flatMap fun i=>i::acc.getD i []])
abbrev bv:=List Nat×List Nat
def oG (t:lE):bv:=(t.1.map fun p=>aJq p.1,t.2.map fun p=>aJq p.1)
def nY (x y:bv):Bool:=nX x.2 y.2&&nX x.2 y.1&&nX x.1 y.2
def wN (ns:List bv) (pl:List (List Nat)):Nat→Bool
 |0=>true
 |k+1=>(match ns[k]?,pl[k]? with
  |some y,some pk=>(aSp k).all fun i=>iH i pk||(match ns[i]? with|some x=>nY x y|none=>true)
  |_,_=>true)&&wN ns pl k
def qQ:Nat→List Oper→Bool
 |_,[]=>true
 |k,o::os=>(jS o).all (fun i=>decide (i<k))&&qQ (k+1) os
def oP (l:List Oper) (ts:List lE):Bool:=qQ 0 l&&wN (ts.map oG) (lF l []) ts.length
theorem oQ: ∀(k:Nat) (l:List Oper),qQ k l=true→ ∀(j:Nat) o,l[j]? =some o→ ∀i∈jS o,i<k+j
 |k,[],h,j,o',ho,i,hi=>by simp at ho
 |k,o::os,h,j,o',ho,i,hi=>by
  simp only[qQ,aSg,aSu,decide_eq_true_eq] at h
  cases j with
  |zero=>simp at ho;subst ho;exact h.1 i hi
  |succ j=>have:=oQ (k+1) os h.2 j o' (by simpa using ho) i hi;omega
theorem wO: ∀(l:List Oper) (acc:List (List Nat)) (i:Nat),i<acc.length→(lF l acc)[i]? =acc[i]?
 | [],acc,i,h=>rfl
 |o::os,acc,i,h=>by
  rw[lF,wO os _ i (by simp;omega),List.getElem?_append_left h]
theorem eu: ∀(l:List Oper) (acc:List (List Nat)) (j:Nat) o,l[j]? =some o→(qQ acc.length l=true)→
 (lF l acc)[acc.length+j]? =some ((jS o).flatMap fun i=>i::(lF l acc).getD i [])
 | [],acc,j,o',ho,he=>by simp at ho
 |o::os,acc,j,o',ho,he=>by
  have hb:=oQ _ _ he
  simp only[qQ,aSg] at he
  rw[lF]
  cases j with
  |zero=>
   simp at ho;subst ho
   rw[wO os _ _ (by simp),Nat.add_zero,List.getElem?_append_right (aSo _)]
   simp only[Nat.sub_self,List.getElem?_cons_zero,Option.some.injEq]
   have hp: ∀i∈jS o,acc.getD i []=(lF os (acc++[(jS o).flatMap fun i=>i::acc.getD i []])).getD i []:=by
    intro i hi
    have hlt:=hb 0 o (by simp) i hi
    rw[aSl,aSl,wO os _ i (by simp;omega),List.getElem?_append_left (by omega)]
   have: ∀(l:List Nat),(∀i∈l,i∈jS o)→(l.flatMap fun i=>i::acc.getD i [])=l.flatMap fun i=>i::(lF os (acc++[(jS o).flatMap fun i=>i::acc.getD i []])).getD i []:=by
    intro l
    induction l with
    |nil=>intro _;rfl
    |cons x l ih=>
     intro h
     rw[List.flatMap_cons,List.flatMap_cons,ih (fun i hi=>h i (List.mem_cons_of_mem _ hi)),hp x (h x (List.mem_cons_self ..))]
   exact this _ (fun i hi=>hi)
  |succ j=>
   have:=eu os (acc++[(jS o).flatMap fun i=>i::acc.getD i []]) j o' (by simpa using ho) (by simpa using he.2)
   simp only[aSe,aSi,aSh,Nat.zero_add] at this
   rw[show acc.length+(j+1)=acc.length+1+j by omega]
   exact this
theorem oS {ns:List bv} {pl:List (List Nat)}: ∀{n:Nat},wN ns pl n=true→ ∀k i,k<n→i<k→ ∀x y pk,ns[i]? =some x→ns[k]? =some y→pl[k]? =some pk→i∈pk∨nY x y=true
 |n+1,h,k,i,hk,hi,x,y,pk,hx,hy,hp=>by
  simp only[wN,aSg] at h
  by_cases e:k=n
  · subst e
    have h1:=h.1
    rw[hy,hp] at h1
    have h2:=aSu.1 h1 i (List.mem_range.2 hi)
    rw[hx] at h2
    simp only[Bool.or_eq_true] at h2
    exact h2.imp gC.1 id
  · exact oS h.2 k i (by omega) hi x y pk hx hy hp
set_option linter.unusedSimpArgs false
theorem lM (ts:List lE) (L:Nat→Bool) (σ:St) (l:dD) (n:Nat):part ts L σ l (n+1)=if L n=true then(match ts[n]? with
 |some t=>(match wr t.2 l with|some k=>some k|none=>part ts L σ l n)
 |none=>part ts L σ l n) else part ts L σ l n:=rfl
theorem od {ts:List lE} {σ:St} {l:dD} {L L':Nat→Bool} {i:Nat} {t:lE} (hi:ts[i]? =some t) (hLi:L i=false) (hL': ∀j,L' j=if j=i then true else L j)
 (hlater: ∀j u,i<j→L j=true→ts[j]? =some u→wr t.2 l≠none→wr u.2 l=none):
 ∀n,part ts L' σ l n=if i<n then(match wr t.2 l with|some k=>some k|none=>part ts L σ l n) else part ts L σ l n
 |0=>by simp[part]
 |n+1=>by
  have ih:=od (σ:=σ) hi hLi hL' hlater n
  simp only[part]
  by_cases e:n=i
  · subst e
    have h1:L' n=true:=by rw[hL' n,if_pos rfl]
    simp only[h1,hLi,if_true,hi,ih,Nat.lt_irrefl,if_false,Nat.lt_succ_self,Bool.false_eq_true]
    all_goals(cases wr t.2 l<;>rfl)
  · have h1:L' n=L n:=by rw[hL' n,if_neg e]
    rw[h1,ih]
    by_cases hlt:i<n
    · have h2:i<n+1:=by omega
      simp only[hlt,h2,if_true]
      cases hn:L n with
      |false=>simp
      |true=>
       simp only[if_true]
       cases hu:ts[n]? with
       |none=>cases wr t.2 l<;>rfl
       |some u=>
        cases hw:wr t.2 l with
        |none=>rfl
        |some k=>simp[hlater n u hlt hn hu (by rw[hw];simp)]
    · have h2: ¬i<n+1:=by omega
      simp only[hlt,h2,if_false]
theorem cy {ts:List lE} {σ:St} {l:dD} {L:Nat→Bool} {i:Nat} (hLi:L i=false) (hbefore: ∀j u,j<i→L j=false→ts[j]? =some u→wr u.2 l=none)
 (hafter: ∀j u,i<j→L j=true→ts[j]? =some u→wr u.2 l=none): ∀n,part ts L σ l n=part ts (fun _=>true) σ l (min n i)
 |0=>by simp[part]
 |n+1=>by
  have ih:=cy (σ:=σ) hLi hbefore hafter n
  by_cases hlt:n<i
  · rw[show min (n+1) i=n+1 by omega]
    rw[lM,lM]
    rw[ih,show min n i=n by omega]
    simp only[if_true]
    by_cases hn:L n=true
    · rw[if_pos hn]
    · rw[if_neg hn]
      cases hu:ts[n]? with
      |none=>rfl
      |some u=>simp[hbefore n u hlt (by simpa using hn) hu]
  · rw[show min (n+1) i=min n i by omega]
    rw[lM]
    by_cases hn:L n=true
    · rw[if_pos hn]
      have hne:n≠i:=fun e=>by rw[e,hLi] at hn;cases hn
      cases hu:ts[n]? with
      |none=>exact ih
      |some u=>simp[hafter n u (by omega) hn hu];exact ih
    · rw[if_neg hn];exact ih
theorem aA4 {t u:lE} (h:nX (oG t).2 (oG u).2=true) {l:dD} (hw:wr t.2 l≠none):wr u.2 l=none:=by
 apply wM
 intro hm
 have h1:l∈t.2.map (·.1):=Decidable.byContradiction fun hc=>hw (wM hc)
 have:=rI h (aJq l) (by simp[oG];obtain⟨p,hp,rfl⟩:=aSq.1 h1;exact⟨p.1,⟨p.2,hp⟩,rfl⟩)
 exact this (by simp[oG];obtain⟨p,hp,rfl⟩:=aSq.1 hm;exact⟨p.1,⟨p.2,hp⟩,rfl⟩)
theorem aA5 {t u:lE} (h:nX (oG t).1 (oG u).2=true) {p:dD×Option K} (hp:p∈t.1):wr u.2 p.1=none:=by
 apply wM
 intro hm
 have:=rI h (aJq p.1) (by simp[oG];exact⟨p.1,⟨p.2,hp⟩,rfl⟩)
 exact this (by simp[oG];obtain⟨q,hq,he⟩:=aSq.1 hm;exact⟨p.1,⟨q.2,by rw[← he];exact hq⟩,rfl⟩)
theorem aA6 {t u:lE} (h:nX (oG t).2 (oG u).1=true) {p:dD×Option K} (hp:p∈u.1):wr t.2 p.1=none:=by
 apply wM
 intro hm
 obtain⟨q,hq,he⟩:=aSq.1 hm
 have:=rI h (aJq p.1) (by simp[oG];exact⟨p.1,⟨q.2,by rw[← he];exact hq⟩,rfl⟩)
 exact this (by simp[oG];exact⟨p.1,⟨p.2,hp⟩,rfl⟩)
theorem nP {listed:Array Bool} {j:Nat}:listed.getD j true=false↔j<listed.size∧listed.getD j false=false:=by
 rw[Array.getD_eq_getD_getElem?,Array.getD_eq_getD_getElem?]
 rcases Nat.lt_or_ge j listed.size with h|h
 · simp[h]
 · simp[Array.getElem?_eq_none h];omega
theorem ll {N i:Nat} {L L':Nat→Bool} (hi:i<N) (hLi:L i=false) (hL': ∀j,L' j=if j=i then true else L j): ((aSp N).filter fun j=> !L' j).length< ((aSp N).filter fun j=> !L j).length:=by
 induction N with
 |zero=>omega
 |succ N ih=>
  rw[List.range_succ,List.filter_append,List.filter_append,aSe,aSe]
  by_cases e:i=N
  · subst e
    have: ((aSp i).filter fun j=> !L' j).length=((aSp i).filter fun j=> !L j).length:=by
     congr 1
     apply List.filter_congr
     intro j hj
     rw[hL' j,if_neg (by have:=List.mem_range.1 hj;omega)]
    have h1:L' i=true:=by rw[hL' i,if_pos rfl]
    rw[this]
    simp[hLi,h1]
  · have:=ih (by omega)
    have h2: ([N].filter fun j=> !L' j).length=([N].filter fun j=> !L j).length:=by
     simp[List.filter_cons,hL' N,show ¬N=i by omega]
    omega
section
variable {P:Program} {ops:Array Oper} {cx:Cx P} {Q:Exit→Act→World→Prop} {ts:List lE} {σ:St}
theorem au (hlen:ts.length=ops.size) (hit: ∀(i:Nat) o t,ops[i]? =some o→ts[i]? =some t→ItT P ops o t) (hr:jH ts σ) (hok:oP ops.toList ts=true) (hf: ∀o∈ops.toList,∀d,o.dst=some d→d<cx.N)
 (hq: ∀ι' S' a' w',RW cx (eQ ts σ) ι' S' a' w'→Q .normal a' w'):
 ∀(fuel:Nat) (listed:Array Bool) (σL:St) (ι:Nat→Value) (S:Nat→Prop) (a:Act) (w:World),listed.size=ops.size→(∀l,aS σL l=part ts (fun i=>listed.getD i false) σ l ts.length)→RW cx σL ι S a w→
  (∀k o,ops[k]? =some o→listed.getD k false=true→ ∀i∈jS o,listed.getD i false=true)→((aSp ops.size).filter fun i=> !listed.getD i false).length≤fuel→wpAny P .any ops Q fuel listed a w:=by
 simp only[oP,aSg] at hok
 obtain⟨hedge,hpair⟩:=hok
 have hedge': ∀(j:Nat) o,ops[j]? =some o→ ∀i∈jS o,i<j:=fun j o ho i hi=>by
  have:=oQ 0 ops.toList hedge j o (by simpa using ho) i hi;omega
 have hpl: ∀(j:Nat) o,ops[j]? =some o→(lF ops.toList [])[j]? =some ((jS o).flatMap fun i=>i::(lF ops.toList []).getD i []):=fun j o ho=>by
  have:=eu ops.toList [] j o (by simpa using ho) hedge
  simpa using this
 have main: ∀(fuel:Nat) (listed:Array Bool) (σL:St) (ι:Nat→Value) (S:Nat→Prop) (a:Act) (w:World),listed.size=ops.size→(∀l,aS σL l=part ts (fun i=>listed.getD i false) σ l ts.length)→RW cx σL ι S a w→
  (∀k o,ops[k]? =some o→listed.getD k false=true→ ∀i∈jS o,listed.getD i false=true)→
  (Region.ready .any ops listed=[]→Q .normal a w)∧ ∀i∈Region.ready .any ops listed,∃o t,ops[i]? =some o∧ts[i]? =some t∧i<ops.size∧listed.getD i false=false∧bJ t.1 σL∧
   (∀k o,ops[k]? =some o→(listed.setIfInBounds i true).getD k false=true→ ∀i'∈jS o,(listed.setIfInBounds i true).getD i' false=true)∧(∀j,(listed.setIfInBounds i true).getD j false=if j=i then true else listed.getD j false)∧
   ∀l,aS (hD σL t.2) l=part ts (fun j=>(listed.setIfInBounds i true).getD j false) σ l ts.length:=by
  intro fuel listed σL ι S a w hsz hlook hw hcl
  have hclosed: ∀(k:Nat),∀o,ops[k]? =some o→(∀i∈jS o,listed.getD i false=true)→ ∀i∈(lF ops.toList []).getD k [],listed.getD i false=true:=by
   intro k
   induction k using Nat.strongRecOn with
   |_ k ih=>
    intro o ho hp i hi
    rw[aSl,hpl k o ho] at hi
    simp only[Option.getD_some,List.mem_flatMap] at hi
    obtain⟨i',hi',hi⟩:=hi
    rcases aSw.1 hi with rfl|hi
    · exact hp i hi'
    · have hlt:=hedge' k o ho i' hi'
      have hsz':k<ops.size:=(Array.getElem?_eq_some_iff.1 ho).1
      have ho':ops[i']? =some ops[i']:=Array.getElem?_eq_getElem (by omega)
      exact ih i' hlt _ ho' (hcl i' _ ho' (hp i' hi')) i hi
  refine⟨fun hnil=> ?_,fun i hi=> ?_⟩
  · have hall: ∀k,k<ops.size→listed.getD k false=true:=by
     intro k
     induction k using Nat.strongRecOn with
     |_ k ih=>
      intro hk
      cases hL:listed.getD k false with
      |true=>rfl
      |false=>
       have ho:ops[k]? =some ops[k]:=Array.getElem?_eq_getElem hk
       have:k∈Region.ready .any ops listed:=mem_ready.2 ⟨nP.2 ⟨by omega,hL⟩,_,ho,fun e he hb=>by
        have hm:e.on∈jS ops[k]:=aSq.2 ⟨e,List.mem_filter.2 ⟨by simpa using he,hb⟩,rfl⟩
        have:=hedge' k _ ho _ hm
        exact ih e.on this (by omega)⟩
       rw[hnil] at this;cases this
    refine hq ι S a w (hw.congr fun l=> ?_)
    rw[hlook l,yV ts σ l _ ts.length (aSo _) (fun i hi=>hall i (by omega)),aSv]
  · obtain⟨hun,o,ho,hall⟩:=mem_ready.1 hi
    obtain⟨hisz,hLi⟩:=nP.1 hun
    have hit':i<ts.length:=by omega
    have hti:ts[i]? =some ts[i]:=aSn hit'
    have hpreds: ∀i'∈jS o,listed.getD i' false=true:=by
     intro i' hi'
     obtain⟨e,he,rfl⟩:=aSq.1 hi'
     obtain⟨he1,he2⟩:=List.mem_filter.1 he
     exact hall e (by simpa using he1) he2
    have hset: ∀j,(listed.setIfInBounds i true).getD j false=if j=i then true else listed.getD j false:=by
     intro j
     rw[Array.getD_eq_getD_getElem?,Array.getD_eq_getD_getElem?]
     by_cases e:j=i
     · subst e;simp[hisz]
     · rw[if_neg e,Array.getElem?_setIfInBounds_ne (fun h=>e h.symm)]
    have later: ∀j u,i<j→listed.getD j false=true→ts[j]? =some u→nY (oG ts[i]) (oG u)=true:=by
     intro j u hij hLj hu
     have hjl:j<ts.length:=(aSm.1 hu).1
     have hoj:ops[j]? =some ops[j]:=Array.getElem?_eq_getElem (by omega)
     rcases oS hpair j i hjl hij (oG ts[i]) (oG u) _ (by simp[hti]) (by simp[hu]) (hpl j _ hoj) with h|h
     · have:=hclosed j _ hoj (hcl j _ hoj hLj) i (by rw[aSl,hpl j _ hoj];exact h)
       rw[hLi] at this;cases this
     · exact h
    have earlier: ∀j u,j<i→listed.getD j false=false→ts[j]? =some u→nY (oG u) (oG ts[i])=true:=by
     intro j u hij hLj hu
     rcases oS hpair i j hit' hij (oG u) (oG ts[i]) _ (by simp[hu]) (by simp[hti]) (hpl i _ ho) with h|h
     · have:=hclosed i _ ho hpreds j (by rw[aSl,hpl i _ ho];exact h)
       rw[hLj] at this;cases this
     · exact h
    have hreads:bJ ts[i].1 σL:=by
     intro p hp
     rw[hlook p.1,cy hLi (fun j u hj hLj hu=>by
      have:=earlier j u hj hLj hu
      simp only[nY,aSg] at this
      exact aA6 this.1.2 hp) (fun j u hj hLj hu=>by
      have:=later j u hj hLj hu
      simp only[nY,aSg] at this
      exact aA5 this.2 hp),show min ts.length i=i by omega,yV ts σ p.1 _ i (by omega) (fun _ _=>rfl)]
     exact yW ts σ hr i _ hti p hp
    refine⟨o,ts[i],ho,hti,by omega,hLi,hreads,fun k o' ho' hk i' hi'=> ?_,hset,fun l=> ?_⟩
    · rw[hset] at hk ⊢
      by_cases e:i'=i
      · rw[if_pos e]
      · rw[if_neg e]
        by_cases e2:k=i
        · subst e2;rw[ho] at ho';cases ho';exact hpreds i' hi'
        · rw[if_neg e2] at hk;exact hcl k o' ho' hk i' hi'
    · rw[kM,od hti hLi hset (fun j u hj hLj hu hne=>by
       have:=later j u hj hLj hu
       simp only[nY,aSg] at this
       exact aA4 this.1.1 hne) ts.length,if_pos hit',hlook l]
      all_goals(cases wr ts[i].2 l<;>rfl)
 intro fuel
 induction fuel with
 |zero=>
  intro listed σL ι S a w hsz hlook hw hcl hcount
  obtain⟨h1,h2⟩:=main 0 listed σL ι S a w hsz hlook hw hcl
  have hnil:Region.ready .any ops listed=[]:=by
   apply List.eq_nil_iff_forall_not_mem.2
   intro i hi
   obtain⟨o,t,ho,ht,hlt,hLi,_⟩:=h2 i hi
   have:i∈(aSp ops.size).filter fun i=> !listed.getD i false:=List.mem_filter.2 ⟨List.mem_range.2 hlt,by rw[hLi];rfl⟩
   rw[List.eq_nil_of_length_eq_zero (by omega: ((aSp ops.size).filter fun i=> !listed.getD i false).length=0)] at this
   cases this
  exact⟨hnil,h1 hnil⟩
 |succ fuel ih=>
  intro listed σL ι S a w hsz hlook hw hcl hcount
  obtain⟨h1,h2⟩:=main 0 listed σL ι S a w hsz hlook hw hcl
  refine⟨h1,fun i hi=> ?_⟩
  obtain⟨o,t,ho,ht,hlt,hLi,hreads,hcl',hset,hlook'⟩:=h2 i hi
  unfold wpOp
  rw[ho]
  refine hit i o t ho ht cx σL ι S a w hreads hw (hf o (by have:=Array.mem_of_getElem? ho;simpa using this)) _ Q fun ι' S' a' w' hw'=> ?_
  exact ih (listed.setIfInBounds i true) (hD σL t.2) ι' S' a' w' (by simpa using hsz) hlook' hw' hcl' (by
   have:=ll (N:=ops.size) (L:=fun j=>listed.getD j false) (L':=fun j=>(listed.setIfInBounds i true).getD j false) hlt hLi hset
   omega)
end
set_option linter.unusedSimpArgs false
def evI (σ:St):Option Operand→Option (Option Int×List (dD×Option K))
 |none=>some (none,[])
 |some x=>match ev σ x with
  |some (.e (.c (.d (.i n))),R)=>some (some n,R)
  |_=>none
theorem sT {σ:St} {x:Option Operand} {n:Option Int} {R:List (dD×Option K)} (h:evI σ x=some (n,R)):bJ R σ:=by
 cases x with
 |none=>cases h;exact bJ.nil
 |some x=>
  simp only[evI] at h
  split at h<;>try(cases h;done)
  rename_i m R' hx
  cases h
  exact cZ hx
theorem sU {σ0:St} {x:Option Operand} {n:Option Int} {R:List (dD×Option K)} (h:evI σ0 x=some (n,R)) {P:Program} {cx:Cx P} {σ:St} {ι:Nat→Value} {S:Nat→Prop} {a:Act} {w:World} (hr:bJ R σ) (hw:RW cx σ ι S a w):
 x.map a.eval=n.map fun n=> .int .i64 n:=by
 cases x with
 |none=>cases h;rfl
 |some x=>
  simp only[evI] at h
  split at h<;>try(cases h;done)
  rename_i m R' hx
  cases h
  have:=dA hx hr hw
  simp only[kU,ER,CR] at this
  cases hv:a.eval x<;>rw[hv] at this<;>cases this
  simp[hv]
def fE (lo:Option Int):Nat:=(lo.getD 0).toNat
def gF (hi:Option Int) (len:Nat):Nat:=(hi.getD len).toNat
def bnd (lo hi:Option Int) (len:Nat):Prop:=0≤lo.getD 0∧lo.getD 0≤hi.getD len∧hi.getD len≤len
theorem wP {P:Program} {w:World} {isSl:Bool} {len cap:Nat} {lo hi:Option Int} (hlc:len≤cap) (h:bnd lo hi len):
 (Instr.sliceBounds isSl len cap (lo.map fun n=> .int .i64 n) (hi.map fun n=> .int .i64 n) none).run P w= .ok (fE lo,gF hi len,cap) w:=by
 obtain⟨h1,h2,h3⟩:=h
 cases lo with
 |none=>
  cases hi with
  |none=>simp[Instr.sliceBounds,fE,gF]
  |some n=>
   simp only[Option.getD_some,Option.getD_none] at h1 h2 h3
   simp only[Instr.sliceBounds,Option.map_none,Option.map_some,Sem.run_bind,Sem.run_pure,Result.andThen_ok,fE,gF,Option.getD_none,Option.getD_some]
   rw[run_sliceBound w .i64 n cap _ (by omega) (by omega)]
   simp
 |some m=>
  cases hi with
  |none=>
   simp only[Option.getD_some,Option.getD_none] at h1 h2 h3
   simp only[Instr.sliceBounds,Option.map_none,Option.map_some,Sem.run_bind,Sem.run_pure,Result.andThen_ok,fE,gF,Option.getD_none,Option.getD_some]
   rw[run_sliceBound w .i64 m len _ h1 h2]
   simp
  |some n=>
   simp only[Option.getD_some] at h1 h2 h3
   simp only[Instr.sliceBounds,Option.map_some,Sem.run_bind,Sem.run_pure,Result.andThen_ok,fE,gF,Option.getD_some]
   rw[run_sliceBound w .i64 n cap _ (by omega) (by omega)]
   simp only[Result.andThen_ok]
   rw[run_sliceBound w .i64 m n.toNat _ h1 (by omega)]
   simp
def aDv (T:gB) (σ:St) (t:TypeId) (x:Operand) (lo hi mx:Option Operand) (d:Option Tmp):tp:=
 match ev σ x,evI σ lo,evI σ hi,T t,mx,d with
 |some (.e (.c (.d (.s l))),R),some (lo,R1),some (hi,R2),some ⟨.str,_,_,_⟩,none,some d=>some (bnd lo hi l.length,R++R1++R2,[(.t d,.v (Dv (.s ((l.take (gF hi l.length)).drop (fE lo)))))])
 |some (.e (.c (.d (.sl rows))),R),some (lo,R1),some (hi,R2),some ⟨.sl e,_,_,_⟩,none,some d=>match T e with
  |some ti=>some (bnd lo hi rows.length∧(∀r∈rows,r.length=ti.size),R++R1++R2,[(.t d,.v (Dv (.sl ((rows.take (gF hi rows.length)).drop (fE lo)))))])
  |none=>none
 |_,_,_,_,_,_=>none
theorem aDw {P:Program} {T:gB} (hT:dK P T) {o:Oper} {σ0:St} {t:TypeId} {x:Operand} {lo hi mx:Option Operand} (ho:o.op= .slice t x lo hi mx):kV P o σ0 (aDv T σ0 t x lo hi mx o.dst):=by
 intro p R W h hp
 unfold aDv at h
 split at h
 · rename_i l Rx lo' R1 hi' R2 _ _ _ d hx hlo hhi ht hd
   cases h
   have hu:=(hT t _ ht).kind
   simp only[kW] at hu
   refine⟨mT hd fun cx σ ι S a w hr hw=> ?_,((cZ hx).append (sT hlo)).append (sT hhi)⟩
   have hX:=dA hx hr.left.left hw
   have h1:=sU hlo hr.left.right hw
   have h2:=sU hhi hr.right hw
   simp only[kU,ER,CR] at hX
   cases hv:a.eval x<;>rw[hv] at hX<;>cases hX
   have hb:=wP (P:=P) (w:=w) (isSl:=false) (len:=l.length) (cap:=l.length) (aSo _) hp
   refine⟨.string ⟨((l.take (gF hi' l.length)).drop (fE lo')).toArray⟩,?_,.s _⟩
   have hex: (⟨l.toArray⟩:ByteArray).extract (fE lo') (gF hi' l.length)=⟨((l.take (gF hi' l.length)).drop (fE lo')).toArray⟩:=by
    apply ByteArray.ext
    simp
    rw[List.drop_take]
   simp[execOp,ho,hv,Instr.sliceAt,run_underlying hu,Instr.slice,h1,h2,wH,hb,hex]
 · rename_i rows Rx lo' R1 hi' R2 e _ _ _ d hx hlo hhi ht hd
   split at h<;>try(cases h;done)
   rename_i ti hte
   cases h
   have hu:=(hT t _ ht).kind
   simp only[kW] at hu
   have hok:=hT e ti hte
   obtain⟨hp,hes⟩:=hp
   refine⟨mT hd fun cx σ ι S a w hr hw=> ?_,((cZ hx).append (sT hlo)).append (sT hhi)⟩
   have hX:=dA hx hr.left.left hw
   have h1:=sU hlo hr.left.right hw
   have h2:=sU hhi hr.right hw
   obtain⟨a0,cap,es,ad,u,hv,hc,hm,he,ha,hw1,hd1⟩:=(show DR w S (.sl rows) (a.eval x) from hX).sl_inv
   have hb:=wP (P:=P) (w:=w) (isSl:=true) (len:=rows.length) (cap:=cap) hc hp
   have hlen: ((rows.take (gF hi' rows.length)).drop (fE lo')).length=gF hi' rows.length - fE lo':=by
    obtain⟨q1,q2,q3⟩:=hp
    have:gF hi' rows.length≤rows.length:=by unfold gF;omega
    simp;omega
   refine⟨.slice (if cap=fE lo' then a0 else a0.map (·.add (fE lo'*ti.size))) (gF hi' rows.length - fE lo') (cap - fE lo'),?_,?_⟩
   · simp[execOp,ho,hv,Instr.sliceAt,run_underlying hu,Instr.slice,h1,h2,hb,fB hok]
   · have hcap:fE lo'≤cap:=by obtain⟨q1,q2,q3⟩:=hp;unfold fE;omega
     have hle:gF hi' rows.length≤cap:=by obtain⟨q1,q2,q3⟩:=hp;unfold gF;omega
     have goal:DR w S (.sl ((rows.take (gF hi' rows.length)).drop (fE lo'))) (.slice (if cap=fE lo' then a0 else a0.map (·.add (fE lo'*ti.size))) ((rows.take (gF hi' rows.length)).drop (fE lo')).length (cap - fE lo')):=by
      have hget: ∀(i:Nat) r,((rows.take (gF hi' rows.length)).drop (fE lo'))[i]? =some r→rows[fE lo'+i]? =some r:=by
       intro i r hr
       rw[List.getElem?_drop,List.getElem?_take] at hr
       split at hr
       · exact hr
       · cases hr
      refine .sl _ _ _ ti.size (ad.add (fE lo'*ti.size)) (fun i k=>u (fE lo'+i) k) (by rw[hlen];omega) (by omega) (fun r hr=>hes r (List.mem_of_mem_take (List.mem_of_mem_drop hr))) (fun hne=> ?_) (fun i r k d hr hk=> ?_) (fun i r k d hr hk=>hd1 _ r k d (hget i r hr) hk)
      · have hlt:0< ((rows.take (gF hi' rows.length)).drop (fE lo')).length:=List.length_pos_iff.2 hne
        rw[hlen] at hlt
        rw[if_neg (by omega),ha (fun e=>by rw[e] at hlt;simp[gF] at hlt;obtain⟨q1,q2,q3⟩:=hp;rw[e] at q3;simp at q3;unfold fE at hlt;omega)]
        rfl
      · have hr2:=hget i r hr
        obtain⟨q1,q2⟩:=hw1 _ r k d hr2 hk
        have hee:es=ti.size:=by rw[← he r (List.mem_of_getElem? hr2)];exact hes r (List.mem_of_getElem? hr2)
        refine⟨by rw[jd];exact q1,?_⟩
        rw[add_add,show fE lo'*ti.size+(i*ti.size+k)=(fE lo'+i)*es+k by rw[hee,aSt];omega]
        exact q2
     rw[hlen] at goal
     exact goal
 · cases h
def aOu:V→V→Option (Prop×List (dD×Option K)×V)
 | .e (.c (.d (.i m))),.e (.c (.d (.i n)))=>some (True,[],I (if n<m then n else m))
 |_,_=>none
def aOv:V→V→Option (Prop×List (dD×Option K)×V)
 | .e (.c (.d (.i m))),.e (.c (.d (.i n)))=>some (True,[],I (if n>m then n else m))
 |_,_=>none
theorem aJr {P:Program} {o:Oper} {σ:St} {x y:Operand} {ts:Array TypeId} (ho:o.op= .call {callee:= .builtin .min,args:= #[x,y],argTypes:=ts}):kV P o σ (pT σ x y o.dst aOu):=
 pX fun X Y p R Z h hp=>by
  unfold aOu at h
  split at h<;>try(cases h;done)
  cases h
  refine⟨bJ.nil,fun cx σ ι S a w _ _ hx hy=> ?_⟩
  simp only[kU,ER,CR] at hx hy
  cases hv:a.eval x<;>rw[hv] at hx<;>cases hx
  cases hv2:a.eval y<;>rw[hv2] at hy<;>cases hy
  exact⟨_,by simp[execOp,ho,resolve,invoke,builtin,hv,hv2,Builtin.min_,Builtin.min2]<;>rfl,.i _⟩
theorem aJs {P:Program} {o:Oper} {σ:St} {x y:Operand} {ts:Array TypeId} (ho:o.op= .call {callee:= .builtin .max,args:= #[x,y],argTypes:=ts}):kV P o σ (pT σ x y o.dst aOv):=
 pX fun X Y p R Z h hp=>by
  unfold aOv at h
  split at h<;>try(cases h;done)
  cases h
  refine⟨bJ.nil,fun cx σ ι S a w _ _ hx hy=> ?_⟩
  simp only[kU,ER,CR] at hx hy
  cases hv:a.eval x<;>rw[hv] at hx<;>cases hx
  cases hv2:a.eval y<;>rw[hv2] at hy<;>cases hy
  exact⟨_,by simp[execOp,ho,resolve,invoke,builtin,hv,hv2,Builtin.max_,Builtin.max2]<;>rfl,.i _⟩
def aJt (T:gB) (σ:St) (t:TypeId) (x y:Operand) (d:Option Tmp):tp:=
 match ev σ x,ev σ y,T t,d with
 |some (.e (.c (.d (.i n))),R),some (.e (.c (.d (.i m))),R2),some ⟨.sl e,_,_,_⟩,some d=>match T e with
  |some ti=>match je ti.zero with
   |some z=>if uZ σ (.o (iI σ d)) then some (n=m∧0≤n∧ti.bytes*n≤281474976710656,R++R2++[(.o (iI σ d),none)],[(.o (iI σ d),.row e ti.size (List.replicate n.toNat z)),(.t d,.v (.e (.c (.own (iI σ d) n.toNat))))]) else none
   |none=>none
  |none=>none
 |_,_,_,_=>none
theorem aHd {P:Program} {T:gB} (hT:dK P T) {o:Oper} {σ0:St} {t:TypeId} {x y:Operand} (ho:o.op= .makeSlice t x y):kV P o σ0 (aJt T σ0 t x y o.dst):=by
 intro p R W h hp
 unfold aJt at h
 split at h<;>try(cases h;done)
 rename_i n Rx m Ry e _ _ _ d hx hy ht hd
 split at h<;>try(cases h;done)
 rename_i ti hte
 split at h<;>try(cases h;done)
 rename_i z hz
 split at h<;>try(cases h;done)
 rename_i habs
 cases h
 obtain⟨rfl,h0,hbytes⟩:=hp
 have hu:=(hT t _ ht).kind
 simp only[kW] at hu
 have hok:=hT e ti hte
 refine⟨em hd (by simp) fun cx σ ι S a w hr hw=> ?_,((cZ hx).append (cZ hy)).append (bJ.one (oE habs))⟩
 have hno:=hr.right (.o (iI σ0 d),none) (by simp)
 dsimp only at hno
 have hX:=dA hx hr.left.left hw
 have hY:=dA hy hr.left.right hw
 simp only[kU,ER,CR] at hX hY
 cases hv:a.eval x<;>rw[hv] at hX<;>cases hX
 cases hv2:a.eval y<;>rw[hv2] at hY<;>cases hY
 obtain⟨i,zz,hi,hsz,hby,hzero,hzc⟩:=hok.info
 have hb1:n≤ti.bytes*n:=by
  have h1: (1:Int)≤ti.bytes:=by have:=hok.bpos;omega
  have:=Int.mul_le_mul_of_nonneg_right h1 h0
  simpa using this
 have hrun:=run_make (P:=P) w t e i zz hu hi hzero .i64 .i64 n n h0 (Int.le_refl _) (by rw[hby];exact hbytes) (by omega)
 rw[hsz] at hrun
 have hzl:zz.cells.size=ti.size:=by rw[← Array.length_toList,hzc,List.length_map,hok.zlen]
 obtain⟨htt,st⟩:=wI (ν:=gZ a) (w:=w) (w0:=w) (σ:=σ) (ι:=ι) (S:=S) (id:=iI σ0 d) (k:= .row e ti.size (List.replicate n.toNat z)) (p:= .slice (some ⟨w.heap.size,0,none⟩) n.toNat n.toNat) (o:= .cells (madeCells zz.cells (n.toNat*ti.size)) e) ⟨rfl,rfl,rfl,rfl⟩ hno
  (fun b hb=>by simp[wF] at hb;exact hb.symm)
  (fun st=> .inr ⟨w.heap.size,0,n.toNat,_,(0,0),by simp,heap_alloc_new w _,.inl rfl,by simp,by simp only[maxLen];omega,by rw[size_madeCells];omega,fun i r hri=>by
   have hil:i<n.toNat:=by have:=(aSm.1 hri).1;simpa using this
   have hr:r=z:=by simp[hil] at hri;exact hri.symm
   subst hr
   have hrl:=oF hz
   refine⟨by rw[hrl,hok.zlen],fun k d hk=> ?_⟩
   obtain⟨c,hc,htd⟩:=vR hz k d hk
   have hkl:k<ti.size:=by rw[← hok.zlen];exact(aSm.1 hc).1
   have hlt:=kG hil hkl
   have hzk:zz.cells[k]? =some (zv c):=by rw[← Array.getElem?_toList,hzc,List.getElem?_map,hc];rfl
   refine⟨zv c,?_,vQ (σ:=σ) (ι:=ι) htd (sE (aSu.1 hok.zok c (List.mem_of_getElem? hc)))⟩
   have hm: (0+i*ti.size+k) % zz.cells.size=k:=by rw[hzl,Nat.zero_add,Nat.mul_comm,Nat.mul_add_mod,Nat.mod_eq_of_lt hkl]
   have hk2:k<zz.cells.size:=by rw[hzl];exact hkl
   have e1:zz.cells[k]! =zv c:=by rw[getElem!_pos zz.cells k hk2];rw[Array.getElem?_eq_getElem hk2] at hzk;exact Option.some.inj hzk
   have hlt':0+i*ti.size+k<n.toNat*ti.size:=by omega
   simp only[madeCells,Array.getElem?_map,Array.getElem?_range,hlt',if_true,Option.map_some,hm,e1]⟩) hw.vr.sz
 refine⟨.slice (some ⟨w.heap.size,0,none⟩) n.toNat n.toNat,_,_,?_,htt,rfl,.inl ⟨e,ti.size,_,cQ _ _ _,by simp,fun _=>by simp⟩⟩
 simp[execOp,ho,hv,hv2]
 rw[hrun];rfl
set_option linter.unusedSimpArgs false
def aC (l:List UInt8):List (List D):=l.map fun b=>[.u b.toNat]
def byteOf (r:List D):UInt8:=match r with| .u n::_=>UInt8.ofNat n.toNat|_=>0
def iJ (rows:List (List D)):List UInt8:=rows.map byteOf
theorem cC (l:List UInt8):iJ (aC l)=l:=by
 unfold iJ aC
 rw[List.map_map]
 conv=>rhs;rw[← List.map_id l]
 refine List.map_congr_left fun b _=> ?_
 simp[byteOf]
theorem aT (l:List UInt8): (aC l).length=l.length:=by simp[aC]
theorem aDx (ns:List Int):ns.foldl (fun(r:ByteArray) n=>r.push (UInt8.ofNat n.toNat)) ByteArray.empty=⟨(ns.map fun n=>UInt8.ofNat n.toNat).toArray⟩:=by
 have key: ∀(ns:List Int) (l:List UInt8),ns.foldl (fun(r:ByteArray) n=>r.push (UInt8.ofNat n.toNat)) ⟨l.toArray⟩=⟨(l++ns.map fun n=>UInt8.ofNat n.toNat).toArray⟩:=by
  intro ns
  induction ns with
  |nil=>intro l;simp
  |cons n ns ih=>
   intro l
   have: (⟨l.toArray⟩:ByteArray).push (UInt8.ofNat n.toNat)=⟨(l++[UInt8.ofNat n.toNat]).toArray⟩:=by
    apply ByteArray.ext
    simp
   rw[List.foldl_cons,this,ih];simp
 show ns.foldl (fun(r:ByteArray) n=>r.push (UInt8.ofNat n.toNat)) (⟨([]:List UInt8).toArray⟩:ByteArray)=_
 rw[key];simp
def aOw (σ:St):V→Option (Prop×List (dD×Option K)×V)
 | .e (.c (.d (.sl rows)))=>some (rows=aC (iJ rows),[],Dv (.s (iJ rows)))
 | .e (.c .nil)=>some (True,[],Dv (.s []))
 | .e (.c (.own ob n))=>match aS σ (.o ob) with
  |some (.row e es rows)=>some (rows.length=n∧rows=aC (iJ rows),[(.o ob,some (.row e es rows))],Dv (.s (iJ rows)))
  |_=>none
 |_=>none
theorem aLy {P:Program} {w:World} {a:Option Addr} {len cap:Nat} {l:List UInt8} (hl:l.length=len) (h:l≠[]→ ∃ad,a=some ad∧ ∀(j:Nat) b,l[j]? =some b→w.cell? (ad.add j)=some (.int .u8 b.toNat)):
 (Conv.bytesToString (.slice a len cap)).run P w= .ok (.string ⟨l.toArray⟩) w:=by
 cases a with
 |none=>
  have:l=[]:=by
   by_cases hz:l=[]
   · exact hz
   · obtain⟨ad,h1,_⟩:=h hz;cases h1
  subst this
  simp[Conv.bytesToString];rfl
 |some ad=>
  have hc: ∀(j:Nat) v,(l.map fun b=>Value.int .u8 (b.toNat:Int))[j]? =some v→w.cell? (ad.add j)=some v:=by
   intro j v hj
   rw[List.getElem?_map] at hj
   cases hq:l[j]? with
   |none=>rw[hq] at hj;cases hj
   |some b=>
    rw[hq] at hj;cases hj
    have hz:l≠[]:=by intro e;rw[e] at hq;simp at hq
    obtain⟨ad',h1,h2⟩:=h hz
    cases h1
    exact h2 j b hq
  have hload:=run_loadCells_list (P:=P) w ad _ hc
  rw[List.length_map,hl] at hload
  have:=run_bytesToString (P:=P) w ad len cap (l.map fun b=>(b.toNat:Int)) (by rw[List.map_map];exact hload)
  rw[this,aDx,List.map_map]
  congr 4
  conv=>rhs;rw[← List.map_id l]
  refine List.map_congr_left fun b _=> ?_
  simp
theorem aA7 {l:List UInt8} {j:Nat} {b:UInt8} (h:l[j]? =some b): (aC l)[j]? =some [.u b.toNat]:=by simp[aC,h]
theorem aJu {P:Program} {T:gB} (hT:dK P T) {o:Oper} {σ0:St} {s d e:TypeId} {si di ei:TI} {x:Operand} (ho:o.op= .convert s d x) (hs:T s=some si) (hsk:si.kind= .sl e) (he:T e=some ei) (hek:ei.kind= .int .u8) (hd:T d=some di) (hdk:di.kind= .str):
 kV P o σ0 (jR σ0 x o.dst (aOw σ0)):=by
 have hu1:=(hT s si hs).kind
 rw[hsk] at hu1;simp only[kW] at hu1
 have hu2:=(hT e ei he).kind
 rw[hek] at hu2;simp only[kW] at hu2
 have hu3:=(hT d di hd).kind
 rw[hdk] at hu3;simp only[kW] at hu3
 refine kF fun X p R Y h hp=> ?_
 have fin: ∀{cx:Cx P} {σ:St} {ι:Nat→Value} {S:Nat→Prop} {ac:Act} {w:World} {a:Option Addr} {len cap:Nat} {l:List UInt8},ac.eval x= .slice a len cap→l.length=len→(l≠[]→ ∃ad,a=some ad∧ ∀(j:Nat) b,l[j]? =some b→w.cell? (ad.add j)=some (.int .u8 b.toNat))→
  ∃v,(execOp ac.eval o).run P w= .ok (.value v) w∧kU σ ι w S (Dv (.s l)) v:=by
  intro cx σ ι S ac w a len cap l hv hl h
  refine⟨.string ⟨l.toArray⟩,?_,.s l⟩
  have:=aLy (P:=P) (cap:=cap) hl h
  have h2:=run_convert_bytes_string (P:=P) w s d e a len cap hu1 hu2 hu3
  simp only[execOp,ho,hv]
  rw[Sem.run_bind,h2,this];rfl
 unfold aOw at h
 split at h
 · rename_i rows
   cases h
   refine⟨bJ.nil,fun cx σ ι S ac w hr hw hx=> ?_⟩
   obtain⟨a0,cap,es',ad,u,hv,hc,hm,hee,ha,hw1,hd1⟩:=(show DR w S (.sl rows) (ac.eval x) from hx).sl_inv
   refine fin (cx:=cx) hv (by rw[iJ,List.length_map]) fun hz=> ?_
   have hrz:rows≠[]:=by intro e;subst e;exact hz rfl
   refine⟨ad,ha hrz,fun j b hj=> ?_⟩
   have hrow:=aA7 hj
   rw[← hp] at hrow
   have h1:es'=1:=by rw[← hee _ (List.mem_of_getElem? hrow)];rfl
   obtain⟨_,h2⟩:=hw1 j _ 0 (.u b.toNat) hrow rfl
   have h3:=hd1 j _ 0 (.u b.toNat) hrow rfl
   rw[h1,Nat.mul_one,Nat.add_zero] at h2
   rw[h2]
   generalize u j 0=v at h3;cases h3;rfl
 · cases h
   refine⟨bJ.nil,fun cx σ ι S ac w hr hw hx=> ?_⟩
   have hv:ac.eval x= .slice none 0 0:=hx
   exact fin (cx:=cx) hv rfl fun hz=>absurd rfl hz
 · rename_i ob n
   split at h<;>try(cases h;done)
   rename_i e' es rows hl
   cases h
   obtain⟨hn,hrb⟩:=hp
   refine⟨bJ.one hl,fun cx σ ι S ac w hr hw hx=> ?_⟩
   have hl':=hr (.o ob,some (.row e' es rows)) (by simp)
   dsimp only at hl'
   obtain⟨_,h2⟩:=(show CR σ ι w S (.own ob n) (ac.eval x) from hx)
   rcases h2 with⟨e2,es2,rows2,hl2,hnn,hv⟩|hdd
   · rw[hl'] at hl2;cases hl2
     have hv1:=hv hn
     clear hv
     rcases hw.vr.objs ob _ hl' with⟨hn2,hr2⟩|⟨g,off,cap,cur,fz,hg,hh,hfz,hc1,hc2,hc3,hrows⟩
     · subst hr2
       rw[hn2] at hv1
       exact fin (cx:=cx) hv1 rfl fun hz=>absurd rfl hz
     · rw[hg] at hv1
       refine fin (cx:=cx) hv1 (by rw[iJ,List.length_map]) fun hz=>⟨_,rfl,fun j b hj=> ?_⟩
       have hrow:=aA7 hj
       rw[← hrb] at hrow
       have hrr:=hrows j _ hrow
       have h1:es=1:=by rw[← hrr.1];rfl
       obtain⟨u,hu,hdr⟩:=hrr.2 0 (.u b.toNat) rfl
       rw[h1,Nat.mul_one,Nat.add_zero] at hu
       rw[kL,cell_of_row w g _ cur e' fz hh,hu]
       cases hdr;rfl
   · rw[hl'] at hdd;cases hdd
 · cases h
def aOx (σ:St) (x:Operand) (e:TypeId) (d:Option Tmp):tp:=
 match ev σ x,d with
 |some (.e (.c (.d (.s l))),R),some d=>if uZ σ (.o (iI σ d)) then
  some (l.length≤140737488355328,R++[(.o (iI σ d),none)],[(.o (iI σ d),.row e 1 (aC l)),(.t d,.v (.e (.c (.own (iI σ d) l.length))))]) else none
 |_,_=>none
theorem aJv {P:Program} {T:gB} (hT:dK P T) {o:Oper} {σ0:St} {s d e:TypeId} {si di ei:TI} {x:Operand} (ho:o.op= .convert s d x) (hs:T s=some si) (hsk:si.kind= .str) (he:T e=some ei) (hek:ei.kind= .int .u8) (hd:T d=some di) (hdk:di.kind= .sl e):
 kV P o σ0 (aOx σ0 x e o.dst):=by
 have hu1:=(hT s si hs).kind
 rw[hsk] at hu1;simp only[kW] at hu1
 have hu2:=(hT e ei he).kind
 rw[hek] at hu2;simp only[kW] at hu2
 have hu3:=(hT d di hd).kind
 rw[hdk] at hu3;simp only[kW] at hu3
 intro p R W h hp
 unfold aOx at h
 split at h<;>try(cases h;done)
 rename_i l Rx dd hx hdst
 split at h<;>try(cases h;done)
 rename_i habs
 cases h
 refine⟨em hdst (by simp) fun cx σ ι S ac w hr hw=> ?_,(cZ hx).append (bJ.one (oE habs))⟩
 have hno:=hr.right (.o (iI σ0 dd),none) (by simp)
 dsimp only at hno
 have hX:=dA hx hr.left hw
 have hv:ac.eval x= .string ⟨l.toArray⟩:=by
  have hX:DR w S (.s l) (ac.eval x):=hX
  generalize ac.eval x=v at hX;cases hX;rfl
 have hsz: (⟨l.toArray⟩:ByteArray).size=l.length:=wH l
 have hrun:=Lib.run_convert_string_bytes (P:=P) w s d e ⟨l.toArray⟩ hu1 hu3 hu2
 rw[hsz] at hrun
 have hnew:=Lib.bytesWorld_at_new w e ⟨l.toArray⟩
 have hcap:=grownCap_ge w l.length 0 e
 have hcm:=grownCap_le_maxLen w l.length 0 e (by simp only[maxLen];omega)
 have hblock: ∀b,b<w.heap.size→some b≠(none:Option Nat)→(Lib.bytesWorld w e ⟨l.toArray⟩).heap[b]? =w.heap[b]?:=fun b hb _=>Lib.bytesWorld_at_old w e _ b hb
 have hcs: (Lib.bytesCells w e ⟨l.toArray⟩).size=grownCap w l.length 0 e:=by
  simp only[Lib.bytesCells,hsz,Array.size_append,Array.size_map,Array.size_replicate,List.size_toArray];omega
 refine⟨.slice (some ⟨w.heap.size,0,none⟩) l.length (grownCap w l.length 0 e),.slice (some ⟨w.heap.size,0,none⟩) l.length (grownCap w l.length 0 e),Lib.bytesWorld w e ⟨l.toArray⟩,?_,
  ⟨?_,?_,?_,by rw[Lib.bytesWorld_size];omega,hblock,(fun b hb=>by cases hb),.inl hno,(fun b hb=> .inr (by simp[wF] at hb;omega)),?_⟩,rfl,.inl ⟨e,1,_,cQ _ _ _,by rw[aT];exact aSo _,fun _=>by simp⟩⟩
 · simp only[execOp,ho,hv]
   rw[Sem.run_bind,hrun];rfl
 · unfold Lib.bytesWorld World.freeze;split<;>rfl
 · unfold Lib.bytesWorld World.freeze;split<;>rfl
 · unfold Lib.bytesWorld World.freeze;split<;>rfl
 · refine .inr ⟨w.heap.size,0,grownCap w l.length 0 e,_,_,by rw[aT],hnew,.inr (aSo _),by rw[aT];exact hcap,hcm,by rw[hcs];omega,fun i r hr=> ?_⟩
   simp only[aC,List.getElem?_map] at hr
   cases hq:l[i]? with
   |none=>rw[hq] at hr;cases hr
   |some b=>
    rw[hq] at hr;cases hr
    refine⟨rfl,fun k dd hk=> ?_⟩
    cases k with
    |succ k=>simp at hk
    |zero=>
     simp at hk;subst hk
     have hi:=(aSm.1 hq)
     obtain⟨hi1,hi2⟩:=hi
     refine⟨.int .u8 b.toNat,?_,.u _⟩
     simp[Lib.bytesCells,Array.getElem?_append,hi1,hi2]
def aJw (T:gB) (σ:St) (t t2:TypeId) (x y:Operand) (d:Option Tmp):tp:=
 match ev σ x,ev σ y,T t,d with
 |some (.e (.c (.own ob n)),R),some (Y,R2),some ⟨.sl e,_,_,_⟩,some d=>match T e,aS σ (.o ob),qO T σ t2 Y with
  |some ti,some (.row e' es rows),some (q,news,R3)=>if e=e'∧ti.size=es then
   some (q∧rows.length=n∧(∀r∈news,r.length=es),R++R2++R3++[(.o ob,some (.row e' es rows))],
    [(.o ob,.row e es (news.take (min news.length n)++rows.drop (min news.length n))),(.t d,.v (I (min news.length n:Nat)))]) else none
  |_,_,_=>none
 |_,_,_,_=>none
theorem aHe {P:Program} {T:gB} (hT:dK P T) {o:Oper} {σ0:St} {t t2:TypeId} {x y:Operand} (ho:o.op= .call {callee:= .builtin .copy,args:= #[x,y],argTypes:= #[t,t2]}):
 kV P o σ0 (aJw T σ0 t t2 x y o.dst):=by
 intro p R W h hp
 unfold aJw at h
 split at h<;>try(cases h;done)
 rename_i ob n Rx Y Ry e _ _ _ d hx hy ht hd
 split at h<;>try(cases h;done)
 rename_i ti e' es rows q news R3 hte hl hsrc
 split at h<;>try(cases h;done)
 rename_i hee
 obtain⟨rfl,rfl⟩:=hee
 cases h
 obtain⟨hq,hn,hnl⟩:=hp
 have hu:=(hT t _ ht).kind
 simp only[kW] at hu
 have hok:=hT e ti hte
 refine⟨ji hd fun cx σ ι S a w hr hw=> ?_,(((cZ hx).append (cZ hy)).append (qP hsrc)).append (bJ.one hl)⟩
 have hl':=hr.right (.o ob,some (.row e ti.size rows)) (by simp)
 dsimp only at hl'
 have hX:=dA hx hr.left.left.left hw
 have hY:=dA hy hr.left.left.right hw
 obtain⟨nv,hs⟩:=ar hT hsrc hq hok.pos hnl hr.left.right hw hY
 obtain⟨_,h2⟩:=(show CR σ ι w S (.own ob n) (a.eval x) from hX)
 rcases h2 with⟨e2,es2,rows2,hl2,hnn,hv⟩|hdd
 case inr=>rw[hl'] at hdd;cases hdd
 rw[hl'] at hl2;cases hl2
 have hvx:=hv hn
 let m:=min news.length n
 have hm1:m≤news.length:=Nat.min_le_left _ _
 have hm2:m≤n:=Nat.min_le_right _ _
 have hlen: (news.take m++rows.drop m).length=rows.length:=by rw[aSe,aSk,aSr];omega
 have hpre:=hs.pre w m rfl hm1
 have hpl: (nv.take (m*ti.size)).length=m*ti.size:=by
  rw[aSk,hs.size]
  exact Nat.min_eq_left (Nat.mul_le_mul_right _ hm1)
 have hmin:Nat.min news.length n=m:=rfl
 rcases hw.vr.objs ob _ hl' with⟨hn2,hr2⟩|⟨g,off,cap,cur,fz,hg,hh,hfz,hc1,hc2,hc3,hrows⟩
 · subst hr2
   rw[hn2] at hvx
   have hn0:n=0:=by simpa using hn.symm
   subst hn0
   have hm0:m=0:=by omega
   have hblock: ∀b,b<w.heap.size→some b≠(none:Option Nat)→w.heap[b]? =w.heap[b]?:=fun _ _ _=>rfl
   have hrow0:news.take m++([]:List (List D)).drop m=[]:=by rw[hm0];simp
   refine⟨.int .i64 (m:Nat),none,.slice none 0 0,w,?_,⟨rfl,rfl,rfl,aSo _,hblock,(fun b hb=>by cases hb),.inr ⟨_,hl',rfl,by rw[hlen];exact aSo _,fun _=>hn2.symm⟩,(fun b hb=>by simp[wF] at hb),.inl ⟨rfl,hrow0⟩⟩,.i _⟩
   simp only[execOp,ho]
   simp[resolve,invoke,builtin,hvx,Builtin.copy_,run_underlying hu,fB hok,hs.len,hmin]
   rw[hm0] at hpre ⊢
   rw[hpre]
   simp[goInt]
 · rw[hg] at hvx
   have h9:cur.toList.length=cur.size:=Array.length_toList
   have hmc:m*ti.size≤cap*ti.size:=Nat.mul_le_mul_right _ (by omega)
   have hst:=lU (P:=P) g off e fz (nv.take (m*ti.size)) 0 cur w hh hfz (by rw[hpl];omega) (fun u hu=>hs.one u (List.mem_of_mem_take hu))
   simp only[Nat.add_zero] at hst
   have hmine: ∀b',some g=some b'→jY σ ι ob b':=fun b' e=>by cases e;exact⟨⟨_,hl',trivial⟩,by rw[hg];rfl⟩
   have hblock: ∀b',b'<w.heap.size→some b'≠some g→(w.setRow g (cX cur.toList off (nv.take (m*ti.size))).toArray).heap[b']? =w.heap[b']?:=fun b' _ hne=>setRow_other w g b' _ (fun e=>hne (by rw[e]))
   have hevo:aS σ (.o ob)=none∨ ∃k0,aS σ (.o ob)=some k0∧lZ (ι ob) (ι ob) k0 (.row e ti.size (news.take m++rows.drop m)):= .inr ⟨_,hl',rfl,by rw[hlen];exact aSo _,fun _=>rfl⟩
   have st:=pY hw.vr hblock hmine hevo
   refine⟨.int .i64 (m:Nat),some g,ι ob,w.setRow g (cX cur.toList off (nv.take (m*ti.size))).toArray,?_,⟨rfl,rfl,rfl,by simp,hblock,hmine,hevo,(fun b hb=> .inl (by rw[hg] at hb;simp[wF] at hb;rw[hb])),?_⟩,.i _⟩
   · simp only[execOp,ho]
     simp[resolve,invoke,builtin,hvx,hn,Builtin.copy_,run_underlying hu,fB hok,hs.len,hmin]
     rw[hpre]
     simp[hst,goInt]
   · refine .inr ⟨g,off,cap,(cX cur.toList off (nv.take (m*ti.size))).toArray,fz,by rw[hlen];simpa using hg,setRow_heap w g cur _ e _ hh,by rw[List.size_toArray,eU (by omega),h9];exact hfz,by rw[hlen];exact hc1,hc2,by rw[List.size_toArray,eU (by omega),h9];exact hc3,fun i r hi=> ?_⟩
     have hil:i<rows.length:=by rw[← hlen];exact(aSm.1 hi).1
     have get: ∀j,(cX cur.toList off (nv.take (m*ti.size))).toArray[j]? =if j<off then cur[j]? else if j<off+m*ti.size then(nv.take (m*ti.size))[j - off]? else cur[j]?:=fun j=>by
      rw[← Array.getElem?_toList,List.toList_toArray,hO (by omega),hpl]
      simp
     by_cases him:i<m
     · rw[List.getElem?_append_left (by rw[aSk];omega),List.getElem?_take,if_pos him] at hi
       have hrl:=hnl r (List.mem_of_getElem? hi)
       refine⟨hrl,fun k dd hk=> ?_⟩
       obtain⟨u,hu',hdr⟩:=hs.rel i r hi k dd hk
       have hkl:k<ti.size:=by rw[← hrl];exact(aSm.1 hk).1
       have hix:=kG him hkl
       refine⟨u,?_,DR.mono st.sub st.keep hdr⟩
       rw[get,if_neg (by omega),if_pos (by omega),show off+i*ti.size+k - off=i*ti.size+k by omega,List.getElem?_take,if_pos hix]
       exact hu'
     · rw[List.getElem?_append_right (by rw[aSk];omega),aSk,List.getElem?_drop,show m+(i - min m news.length)=i by omega] at hi
       obtain⟨q1,q2⟩:=hrows i r hi
       refine⟨q1,fun k dd hk=> ?_⟩
       obtain⟨u,hu',hdr⟩:=q2 k dd hk
       refine⟨u,?_,DR.mono st.sub st.keep hdr⟩
       have:m*ti.size≤i*ti.size:=Nat.mul_le_mul_right _ (by omega)
       rw[get,if_neg (by omega),if_neg (by omega)]
       exact hu'
set_option linter.unusedSimpArgs false
def fNil (σ0:St):V→Option (Prop×List (dD×Option K)×V):=fun X=>match X with
 | .e (.c (.pt ob k))=>match aS σ0 (.o ob) with
  |some (.box ty cs)=>some (True,[(.o ob,some (.box ty cs))],.e (.c (.pt ob k)))
  |_=>none
 |_=>none
def vt (T:gB) (σ0:St) (t:TypeId):V→Option (Prop×List (dD×Option K)×V):=fun X=>match T t with
 |some ti=>match ti.kind,X with
  | .str,.e (.c (.d (.s l)))=>jc σ0 (.e (.c (.d (.s l))))
  | .sl _,.e (.c (.d (.sl rows)))=>jc σ0 (.e (.c (.d (.sl rows))))
  | .sl _,.e (.c .nil)=>jc σ0 (.e (.c .nil))
  | .sl _,.e (.c (.own ob n))=>jc σ0 (.e (.c (.own ob n)))
  |_,_=>none
 |none=>none
def aJx (T:gB) (σ:St) (c:Call) (d:Option Tmp):tp:=
 match c.callee,c.args.toList,c.argTypes.toList with
 | .builtin .len,[x],[t]=>jR σ x d (vt T σ t)
 | .builtin .append,[x,y],[t,t2]=>yh T σ t t2 x y d
 | .builtin .min,[x,y],_=>pT σ x y d aOu
 | .builtin .max,[x,y],_=>pT σ x y d aOv
 |_,_,_=>none
def vu (T:gB) (o:Oper) (σ:St):tp:=
 match o.op with
 | .move x=>jR σ x o.dst fId
 | .assign x=>jR σ x o.dst fId
 | .pick c x y=>aGb σ c x y o.dst
 | .box e x=>aOt σ e x o.dst
 | .alloc e=>aDp T σ e o.dst
 | .build t ps=>aDt T σ t ps.toList o.dst
 | .buildSlice t n ps=>yT T σ t n ps.toList o.dst
 | .load t x=>jR σ x o.dst (ny T σ t)
 | .store t x y=>aDr T σ t x y o.dst
 | .nilCheck x=>jR σ x o.dst (fNil σ)
 | .binOp op t x y u=>pT σ x y o.dst (aLv op)
 | .unOp u t x=>jR σ x o.dst (fUn u)
 | .convert s t x=>match T s with
  |some _=>jR σ x o.dst (aJk T t)
  |none=>none
 | .makeSlice t x y=>aJt T σ t x y o.dst
 | .slice t x lo hi mx=>aDv T σ t x lo hi mx o.dst
 | .fieldAddr s x f=>jR σ x o.dst (ct T σ s f)
 | .field s x f=>jR σ x o.dst (aDn T s f)
 | .indexAddr t x y=>pT σ x y o.dst (cu T σ t)
 | .index t x y=>match T t with
  |some ⟨.str,_,_,_⟩=>pT σ x y o.dst aJl
  |_=>none
 | .extract x i=>jR σ x o.dst (nu i)
 | .call c=>aJx T σ c o.dst
 |_=>none
theorem mU {P:Program} {o:Oper} {σ:St}:kV P o σ none:=fun p R W h=>by cases h
theorem aHf {P:Program} {T:gB} (hT:dK P T) {o:Oper} {σ:St} {c:Call} (ho:o.op= .call c):kV P o σ (aJx T σ c o.dst):=by
 obtain⟨callee,args,argTypes⟩:=c
 unfold aJx
 dsimp only
 split
 · rename_i x t ha hat
   obtain rfl:args= #[x]:=Array.toList_inj.1 (by simpa using ha)
   obtain rfl:argTypes= #[t]:=Array.toList_inj.1 (by simpa using hat)
   cases ht:T t with
   |none=>
    intro p R W h
    unfold jR at h
    split at h<;>try(cases h;done)
    simp[vt,ht] at h
   |some ti=>
    by_cases hk:ti.kind= .str∨ ∃e,ti.kind= .sl e
    · have:=aJm hT (σ0:=σ) ho ht hk
      have e:vt T σ t=fun X=>match ti.kind,X with
       | .str,.e (.c (.d (.s l)))=>jc σ (.e (.c (.d (.s l))))
       | .sl _,.e (.c (.d (.sl rows)))=>jc σ (.e (.c (.d (.sl rows))))
       | .sl _,.e (.c .nil)=>jc σ (.e (.c .nil))
       | .sl _,.e (.c (.own ob n))=>jc σ (.e (.c (.own ob n)))
       |_,_=>none:=by funext X;simp[vt,ht]
      rw[e];exact this
    · intro p R W h
      unfold jR at h
      split at h<;>try(cases h;done)
      rename_i X R' d' _ _
      have:vt T σ t X=none:=by
       simp only[vt,ht]
       split<;>first|rfl|(exfalso;apply hk;first|exact .inl ‹_› |exact .inr ⟨_,‹_›⟩)
      rw[this] at h;cases h
 · rename_i x y t t2 ha hat
   obtain rfl:args= #[x,y]:=Array.toList_inj.1 (by simpa using ha)
   obtain rfl:argTypes= #[t,t2]:=Array.toList_inj.1 (by simpa using hat)
   exact aA2 hT ho
 · rename_i x y ha
   obtain rfl:args= #[x,y]:=Array.toList_inj.1 (by simpa using ha)
   exact aJr ho
 · rename_i x y ha
   obtain rfl:args= #[x,y]:=Array.toList_inj.1 (by simpa using ha)
   exact aJs ho
 · exact mU
theorem wQ {P:Program} {T:gB} (hT:dK P T) (o:Oper) (σ:St):kV P o σ (vu T o σ):=by
 unfold vu
 split
 case h_1 x ho=>exact vl (.inl ho)
 case h_2 x ho=>exact vl (.inr ho)
 case h_3 ho=>exact vo ho
 case h_4 ho=>exact aJn ho
 case h_5 ho=>exact aDq hT ho
 case h_6 ho=>exact aDu hT ho
 case h_7 ho=>exact mv hT ho
 case h_8 ho=>exact vn hT ho
 case h_9 ho=>exact aDs hT ho
 case h_10 ho=>exact tq (T:=T) ho
 case h_11 ho=>exact aAy ho
 case h_12 ho=>exact aLu ho
 case h_13 ho=>
  split
  · rename_i h;exact aHb hT ho (by rw[h];rfl)
  · exact mU
 case h_14 ho=>exact aHd hT ho
 case h_15 ho=>exact aDw hT ho
 case h_16 ho=>exact nw hT ho
 case h_17 ho=>exact aDo hT ho
 case h_18 ho=>exact nx hT ho
 case h_19 ho=>
  split
  · rename_i h;exact aHc hT ho h rfl
  · exact mU
 case h_20 ho=>exact yf ho
 case h_21 ho=>exact aHf hT ho
 case h_22=>exact mU
def aGe (P:Program) (T:gB) (o:Oper) (σ:St) (k:List (dD×Option K)→List (dD×K)→Prop):Prop:=
 match vu T o σ with
 |some (p,R,W)=>p∧k R W
 |none=> ∃R W,wG P o R W∧bJ R σ∧k R W
theorem lm {P:Program} {T:gB} (hT:dK P T) {o:Oper} {σ:St} {k:List (dD×Option K)→List (dD×K)→Prop} (h:aGe P T o σ k): ∃R W,wG P o R W∧bJ R σ∧k R W:=by
 unfold aGe at h
 split at h
 · rename_i p R W he
   obtain⟨h1,h2⟩:=wQ hT o σ p R W he h.1
   exact⟨R,W,h1,h2,h.2⟩
 · exact h
def vv (o:Oper):List (dD×K):=match o.dst with|some d=>[(.t d,.dead)]|none=>[]
def goR (P:Program) (T:gB) (ops:List Oper):List Oper→St→List bv→(St→List bv→Prop)→Prop
 | [],σ,acc,k=>k σ acc
 |o::os,σ,acc,k=>match o.guard with
  |none=>aGe P T o σ fun R W=>goR P T ops os (hD σ W) (acc++[oG (R,W)]) k
  |some (j,want)=>match(ops[j]?).bind (·.dst) with
   |some s=>match aS σ (.t s) with
    |some (.v (.e (.c (.d (.b x)))))=>
     (x=want→aGe P T o σ fun R W=>goR P T ops os (hD σ W) (acc++[oG ((.t s,none)::R,W)]) k)∧
     (x= !want→goR P T ops os (hD σ (vv o)) (acc++[oG ([(.t s,none)],vv o)]) k)
    |_=>False
   |none=>False
theorem av {P:Program} {T:gB} (hT:dK P T) {ops:Array Oper} {k:St→List bv→Prop}: ∀(l:List Oper) (σ:St) (acc:List bv),goR P T ops.toList l σ acc k→
 ∃ts:List lE,yB P ops l ts∧jH ts σ∧k (eQ ts σ) (acc++ts.map oG)
 | [],σ,acc,h=>⟨[],trivial,trivial,by simpa[goR,eQ] using h⟩
 |o::os,σ,acc,h=>by
  simp only[goR] at h
  split at h
  · rename_i hg
    obtain⟨R,W,h1,h2,h3⟩:=lm hT h
    obtain⟨ts,q1,q2,q3⟩:=av hT os _ _ h3
    exact⟨(R,W)::ts,⟨yU hg h1,q1⟩,⟨h2,q2⟩,by simpa[eQ] using q3⟩
  · rename_i j want hg
    split at h<;>try(exact h.elim)
    rename_i s hs
    split at h<;>try(exact h.elim)
    rename_i x hl
    have hs': (ops[j]?).bind (·.dst)=some s:=by simpa using hs
    by_cases hx:x=want
    · subst hx
      obtain⟨R,W,h1,h2,h3⟩:=lm hT (h.1 rfl)
      obtain⟨ts,q1,q2,q3⟩:=av hT os _ _ h3
      refine⟨((.t s,some (.v (B x)))::R,W)::ts,⟨aA3 hg hs' h1,q1⟩,⟨fun p hp=> ?_,q2⟩,by simpa[eQ,oG] using q3⟩
      rcases aSw.1 hp with rfl|hp
      · exact hl
      · exact h2 p hp
    · have hx':x= !want:=by cases x<;>cases want<;>simp_all
      obtain⟨ts,q1,q2,q3⟩:=av hT os _ _ (h.2 hx')
      subst hx'
      refine⟨([(.t s,some (.v (B (!want))))],vv o)::ts,⟨aGd hg hs' rfl,q1⟩,⟨bJ.one hl,q2⟩,by simpa[eQ,oG] using q3⟩
def vB (l:List Oper) (ns:List bv):Bool:=qQ 0 l&&wN ns (lF l []) ns.length
inductive Ex where
 |norm
 |exit (id:Nat)
 |ret
def vw {P:Program} (cx:Cx P) (Q:Ex→St→Prop):Exit→Act→World→Prop
 | .normal,a,w=> ∃σ ι S,Q .norm σ∧RW cx σ ι S a w
 | .exit id,a,w=> ∃σ ι S,Q (.exit id) σ∧RW cx σ ι S a w
 | .ret,a,w=> ∃σ ι S,Q .ret σ∧RW cx σ ι S a w
 |_,_,_=>False
def rR (N:Nat):Code→Bool
 | .region _ ops _=>aJp N ops.toList
 | .seq a b=>rR N a&&rR N b
 | .cond _ a b=>rR N a&&rR N b
 | .block _ c=>rR N c
 | .loop c=>rR N c
 | .skip| .exit _| .ret=>true
 |_=>false
def SW (P:Program) (io:List Nat) (c:Code) (Q:Ex→St→Prop) (σ:St):Prop:= ∀(cx:Cx P) ι S a w,(∀o k,cx.kio o=some k→o∈io)→RW cx σ ι S a w→rR cx.N c=true→c.wp P (vw cx Q) a w
theorem SW.mono {P:Program} {io:List Nat} {c:Code} {Q Q':Ex→St→Prop} {σ:St} (hq: ∀e s,Q e s→Q' e s) (h:SW P io c Q σ):SW P io c Q' σ:=fun cx ι S a w hio hw hf=>
 wp_mono (h cx ι S a w hio hw hf) fun e a w hq'=>by
  cases e<;>simp only[vw] at hq' ⊢ <;>(obtain⟨σ,ι,S,h1,h2⟩:=hq';exact⟨σ,ι,S,hq _ _ h1,h2⟩)
section
variable {P:Program} {io:List Nat} {Q:Ex→St→Prop} {σ:St}
theorem SW.skip (h:Q .norm σ):SW P io .skip Q σ:=fun cx ι S a w hio hw _=>wp_skip ⟨σ,ι,S,h,hw⟩
theorem SW.exit {id:Nat} (h:Q (.exit id) σ):SW P io (.exit id) Q σ:=fun cx ι S a w hio hw _=>wp_exit ⟨σ,ι,S,h,hw⟩
theorem SW.ret (h:Q .ret σ):SW P io .ret Q σ:=fun cx ι S a w hio hw _=>wp_ret ⟨σ,ι,S,h,hw⟩
def ew (k:St→Prop) (Q:Ex→St→Prop):Ex→St→Prop
 | .norm,s=>k s
 |e,s=>Q e s
theorem SW.seq {x y:Code} (h:SW P io x (ew (SW P io y Q) Q) σ):SW P io (.seq x y) Q σ:=fun cx ι S a w hio hw hf=>by
 simp only[rR,aSg] at hf
 refine wp_seq (wp_mono (h cx ι S a w hio hw hf.1) fun e a' w' hq=> ?_)
 cases e<;>simp only[vw,ew,Exit.then] at hq ⊢
 · obtain⟨σ',ι',S',h1,h2⟩:=hq
   exact h1 cx ι' S' a' w' hio h2 hf.2
 · exact hq
 · exact hq
theorem SW.cond {c:Operand} {x y:Code} {t:Bool} {R:List (dD×Option K)} (hc:ev σ c=some (B t,R)) (h1:t=true→SW P io x Q σ) (h2:t=false→SW P io y Q σ):SW P io (.cond c x y) Q σ:=fun cx ι S a w hio hw hf=>by
 simp only[rR,aSg] at hf
 have hv:=dA hc (cZ hc) hw
 simp only[kU,ER,CR] at hv
 have he:a.eval c= .bool t:=by generalize a.eval c=v at hv;cases hv;rfl
 exact wp_cond_split he (fun h=>h1 h cx ι S a w hio hw hf.1) (fun h=>h2 h cx ι S a w hio hw hf.2)
def aDy (id:Nat) (Q:Ex→St→Prop):Ex→St→Prop
 | .exit i,s=>if i=id then Q .norm s else Q (.exit i) s
 |e,s=>Q e s
theorem SW.block {id:Nat} {c:Code} (h:SW P io c (aDy id Q) σ):SW P io (.block id c) Q σ:=fun cx ι S a w hio hw hf=>by
 refine wp_block (wp_mono (h cx ι S a w hio hw (by simpa[rR] using hf)) fun e a' w' hq=> ?_)
 cases e<;>simp only[vw,aDy,Exit.inBlock] at hq ⊢ <;>try exact hq
 rename_i i
 obtain⟨σ',ι',S',h1,h2⟩:=hq
 split
 · rename_i hi;rw[if_pos hi] at h1;exact⟨σ',ι',S',h1,h2⟩
 · rename_i hi;rw[if_neg hi] at h1;exact⟨σ',ι',S',h1,h2⟩
theorem SW.loop {c:Code} (I:Nat→St→Prop) {n:Nat} (h0:I n σ) (hr: ∀n s,I n s→SW P io c (ew (fun s'=> ∃m,m<n∧I m s') Q) s):SW P io (.loop c) Q σ:=fun cx ι S a w hio hw hf=>by
 have hf':rR cx.N c=true:=by simpa[rR] using hf
 intro b k cs
 have key: ∀n a w,(∃σ ι S,I n σ∧RW cx σ ι S a w)→ ∃e a' w',vw cx Q e a' w'∧Arrives P (lone (b.at a (.code c:: .inLoop c::k)) cs w) b k cs e a' w':=by
  intro n
  induction n using Nat.strongRecOn with
  |_ n ih=>
   rintro a w ⟨σ',ι',S',hI,hw'⟩
   obtain⟨e,a₁,w₁,hq,harr⟩:=hr n σ' hI cx ι' S' a w hio hw' hf' b (.inLoop c::k) cs
   cases e with
   |normal=>
    simp only[vw,ew] at hq
    obtain⟨σ₁,ι₁,S₁,⟨m,hm,hI₁⟩,hw₁⟩:=hq
    obtain⟨e₂,a₂,w₂,hq₂,harr₂⟩:=ih m hm a₁ w₁ ⟨σ₁,ι₁,S₁,hI₁,hw₁⟩
    exact⟨e₂,a₂,w₂,hq₂,.of_steps (Steps.trans harr (.one step_inLoop)) harr₂⟩
   |exit id=>exact⟨.exit id,a₁,w₁,hq,.pass (x:= .inLoop c) rfl (fun _ _=> .inl (by simp)) harr⟩
   |goto l=>exact hq.elim
   |ret=>exact⟨.ret,a₁,w₁,hq,.pass (x:= .inLoop c) rfl (fun _ _=> .inl (by simp)) harr⟩
   |panic ch=>exact hq.elim
   |outgrown=>exact hq.elim
 obtain⟨e,a',w',hq,harr⟩:=key n a w ⟨σ,ι,S,h0,hw⟩
 exact⟨e,a',w',hq,.of_steps (.one step_loop) harr⟩
theorem SW.region {T:gB} (hT:dK P T) (hm:P.follows .mixedOrders=true) {id:Nat} {ops:Array Oper} {draw:Bool} (h:goR P T ops.toList ops.toList σ [] fun σ' ns=>(draw=true→vB ops.toList ns=true)∧Q .norm σ'):SW P io (.region id ops draw) Q σ:=fun cx ι S a w hio hw hf=>by
 have hfit: ∀o∈ops.toList,∀d,o.dst=some d→d<cx.N:=fun o ho=>wK (by simpa[rR] using hf) ho
 obtain⟨ts,h1,h2,h3,h4⟩:=av hT ops.toList σ [] h
 have hlen: ∀(l:List Oper) (ts:List lE),yB P ops l ts→ts.length=l.length∧ ∀(i:Nat) o t,l[i]? =some o→ts[i]? =some t→ItT P ops o t:=by
  intro l
  induction l with
  |nil=>intro ts h;cases ts with
   |nil=>exact⟨rfl,by simp⟩
   |cons t ts=>exact h.elim
  |cons o os ih=>intro ts h;cases ts with
   |nil=>exact h.elim
   |cons t ts=>
    obtain⟨q1,q2⟩:=ih ts h.2
    refine⟨by simp[q1],fun i o' t' ho ht=> ?_⟩
    cases i with
    |zero=>simp at ho ht;subst ho;subst ht;exact h.1
    |succ i=>exact q2 i o' t' (by simpa using ho) (by simpa using ht)
 cases draw with
 |false=>exact wp_region_list (wL ops.toList ts σ ι S a w h1 h2 hw hfit fun ι' S' a' w' hw'=>⟨_,ι',S',h4,hw'⟩)
 |true=>
  obtain⟨q1,q2⟩:=hlen _ _ h1
  have hord:=h3 rfl
  simp only[List.nil_append] at hord
  refine wp_region_any hm (au (cx:=cx) (σ:=σ) (ts:=ts) (by simpa using q1) (fun i o t ho ht=>q2 i o t (by simpa using ho) ht) h2 (by simpa[oP,vB] using hord) hfit (fun ι' S' a' w' hw'=>⟨_,ι',S',h4,hw'⟩)
   ops.size (Array.replicate ops.size false) σ ι S a _ (by simp) (fun l=> ?_) hw.drew (fun k o ho hk=> ?_) ?_)
  · have hL: ∀i,(Array.replicate ops.size false).getD i false=false:=fun i=>by
     rw[Array.getD_eq_getD_getElem?,Array.getElem?_replicate];split<;>rfl
    have: ∀n,part ts (fun i=>(Array.replicate ops.size false).getD i false) σ l n=aS σ l:=by
     intro n
     induction n with
     |zero=>rfl
     |succ n ih=>rw[lM,if_neg (by rw[hL];simp),ih]
    rw[this]
  · rw[Array.getD_eq_getD_getElem?,Array.getElem?_replicate] at hk;split at hk<;>cases hk
  · exact Nat.le_trans (List.length_filter_le _ _) (by simp)
end
set_option linter.unusedSimpArgs false
def bX:St→List Nat
 | []=>[]
 |(.o n,_)::r=>n::bX r
 |_::r=>bX r
theorem eR {σ:St} {o:Nat} {k:K} (h:aS σ (.o o)=some k):o∈bX σ:=by
 induction σ with
 |nil=>cases h
 |cons p r ih=>
  obtain⟨l,k'⟩:=p
  simp only[aS] at h
  split at h
  · rename_i e
    have e:l= .o o:=e
    subst e;simp[bX]
  · cases l with
    |t s=>exact ih h
    |o n=>simp[bX,ih h]
theorem oT {σ:St} {o:Nat} (h:o∈bX σ): ∃k,aS σ (.o o)=some k:=by
 induction σ with
 |nil=>cases h
 |cons p r ih=>
  obtain⟨l,k⟩:=p
  simp only[aS]
  by_cases e:l= .o o
  · exact⟨k,by rw[if_pos e]⟩
  · rw[if_neg e]
    cases l with
    |t s=>exact ih h
    |o n=>
     simp only[bX,aSw] at h
     rcases h with h|h
     · exact absurd (by rw[h]) e
     · exact ih h
theorem tE {σ:St} {l:dD} {k:K} (h:aS σ l=some k): (l,k)∈σ:=by
 induction σ with
 |nil=>cases h
 |cons p r ih=>
  obtain⟨l',k'⟩:=p
  simp only[aS] at h
  split at h
  · rename_i e
    have e:l'=l:=e
    cases h;subst e;exact List.mem_cons_self ..
  · exact List.mem_cons_of_mem _ (ih h)
def jG (rl:List (Nat×Nat)) (j:Nat):Nat:=
 match rl with
 | []=>j
 |p::r=>if p.1=j then p.2 else jG r j
def mC (τ σ':St) (rl:List (Nat×Nat)) (bor:List Nat):C→C→Prop
 | .d x,.d y=>x=y
 | .nil,.nil=>True
 | .nil,.d y=>y= .sl []
 | .own o n,.d y=>o∈bor∧ ∃e es rows,aS τ (.o o)=some (.row e es rows)∧rows.length=n∧y= .sl rows
 | .own o n,.own j m=>o=jG rl j∧n=m∧ ∃e es rows,aS σ' (.o j)=some (.row e es rows)
 | .pt o k,.pt j m=>o=jG rl j∧k=m∧ ∃ty cs,aS σ' (.o j)=some (.box ty cs)
 | .rp cs,.rp cs'=>cs=cs'
 | .nil,.z j Q'=>(∀p,Q' p (.slice none 0 0))∧ ∃Z,aS σ' (.o j)=some (.zone Z)
 | .z o Q,.z j Q'=>o=jG rl j∧(∀p v,Q p v→Q' p v)∧ ∃Z,aS σ' (.o j)=some (.zone Z)
 |_,_=>False
def tk (τ σ':St) (rl:List (Nat×Nat)) (bor:List Nat):List C→List C→Prop
 | [],[]=>True
 |c::cs,d::ds=>mC τ σ' rl bor c d∧tk τ σ' rl bor cs ds
 |_,_=>False
def mE (τ σ':St) (rl:List (Nat×Nat)) (bor:List Nat):E→E→Prop
 | .c x,.c y=>mC τ σ' rl bor x y
 | .agg cs,.agg ds=>tk τ σ' rl bor cs ds
 |_,_=>False
def mEs (τ σ':St) (rl:List (Nat×Nat)) (bor:List Nat):List E→List E→Prop
 | [],[]=>True
 |c::cs,d::ds=>mE τ σ' rl bor c d∧mEs τ σ' rl bor cs ds
 |_,_=>False
def mV (τ σ':St) (rl:List (Nat×Nat)) (bor:List Nat):V→V→Prop
 | .e x,.e y=>mE τ σ' rl bor x y
 | .tup xs,.tup ys=>mEs τ σ' rl bor xs ys
 |_,_=>False
def mK (τ σ':St) (rl:List (Nat×Nat)) (bor:List Nat):K→K→Prop
 | .box ty cs,.box ty' ds=>ty=ty'∧tk τ σ' rl bor cs ds
 | .row e es rows,.row e' es' rows'=>e=e'∧es=es'∧rows=rows'
 | .zone Z,.zone Z'=>Z'.le=Z.le∧ ∀w S p,Z.R w S p→Z'.R w S p
 |_,_=>False
def mL (τ σ':St) (rl:List (Nat×Nat)) (bor:List Nat):List (dD×K)→Prop
 | []=>True
 |(.t s,.v X')::r=>(∃X,aS τ (.t s)=some (.v X)∧mV τ σ' rl bor X X')∧mL τ σ' rl bor r
 |(.o j,k')::r=>(∃k,aS τ (.o (jG rl j))=some k∧mK τ σ' rl bor k k')∧mL τ σ' rl bor r
 |_::_=>False
def tF:List Nat→Bool
 | []=>true
 |x::r=> !iH x r&&tF r
def yC (σ':St) (rl:List (Nat×Nat)) (bor:List Nat):Bool:=tF ((bX σ').map (jG rl))&&tF (bX σ')&&nX bor ((bX σ').map (jG rl))
def nK (τ σ':St) (rl:List (Nat×Nat)) (bor:List Nat):Prop:=mL τ σ' rl bor σ'∧yC σ' rl bor=true
theorem cz {f:Nat→Nat}: ∀{l:List Nat},tF (l.map f)=true→ ∀i∈l,∀j∈l,f i=f j→i=j
 | [],_,i,hi,_,_,_=>by simp at hi
 |x::r,h,i,hi,j,hj,he=>by
  simp only[List.map_cons,tF,aSg,Bool.not_eq_true'] at h
  have hx: ∀y∈r,f x≠f y:=fun y hy e=>by
   have:iH (f x) (r.map f)=true:=gC.2 (by rw[e];exact aSq.2 ⟨y,hy,rfl⟩)
   rw[this] at h;cases h.1
  rcases aSw.1 hi with e1|h1
  · rcases aSw.1 hj with e2|h2
    · rw[e1,e2]
    · rw[e1] at he;exact absurd he (hx j h2)
  · rcases aSw.1 hj with e2|h2
    · rw[e2] at he;exact absurd he.symm (hx i h1)
    · exact cz h.2 i h1 j h2 he
section
variable {σ τ σ':St} {rl:List (Nat×Nat)} {bor:List Nat} {ι ν:Nat→Value} {S:Nat→Prop} {w:World}
theorem yi: ∀{L:List (dD×K)},mL τ σ' rl bor L→ ∀p∈L,(∀s X',p=(.t s,.v X')→ ∃X,aS τ (.t s)=some (.v X)∧mV τ σ' rl bor X X')∧(∀j k',p=(.o j,k')→ ∃k,aS τ (.o (jG rl j))=some k∧mK τ σ' rl bor k k')
 | [],_,p,hp=>by cases hp
 |(.t s,.v X')::r,h,p,hp=>by
  rcases aSw.1 hp with rfl|hp
  · exact⟨(fun s' X'' e=>by cases e;exact h.1),(fun j k' e=>by cases e)⟩
  · exact yi h.2 p hp
 |(.o j,k')::r,h,p,hp=>by
  have h': (∃k,aS τ (.o (jG rl j))=some k∧mK τ σ' rl bor k k')∧mL τ σ' rl bor r:=by cases k'<;>exact h
  rcases aSw.1 hp with rfl|hp
  · exact⟨(fun s' X'' e=>by cases e),(fun j k' e=>by cases e;exact h'.1)⟩
  · exact yi h'.2 p hp
 |(.t s,.box ..)::r,h,p,hp=>h.elim
 |(.t s,.row ..)::r,h,p,hp=>h.elim
 |(.t s,.dead)::r,h,p,hp=>h.elim
 |(.t s,.cv ..)::r,h,p,hp=>h.elim
 |(.t s,.zone ..)::r,h,p,hp=>h.elim
theorem aOz: ∀{L:List (dD×K)},mL τ σ' rl bor L→ ∀s k,(dD.t s,k)∈L→ ∃X',k= .v X'
 | [],_,s,k,hp=>by cases hp
 |(.t s,.v X')::r,h,s',k,hp=>by
  rcases aSw.1 hp with e|hp
  · cases e;exact⟨_,rfl⟩
  · exact aOz h.2 s' k hp
 |(.o j,k')::r,h,s',k,hp=>by
  have h': (∃k,aS τ (.o (jG rl j))=some k∧mK τ σ' rl bor k k')∧mL τ σ' rl bor r:=by cases k'<;>exact h
  rcases aSw.1 hp with e|hp
  · cases e
  · exact aOz h'.2 s' k hp
 |(.t s,.box ..)::r,h,s',k,hp=>h.elim
 |(.t s,.row ..)::r,h,s',k,hp=>h.elim
 |(.t s,.dead)::r,h,s',k,hp=>h.elim
 |(.t s,.cv ..)::r,h,s',k,hp=>h.elim
 |(.t s,.zone ..)::r,h,s',k,hp=>h.elim
def oU (σ:St) (ι:Nat→Value) (bor:List Nat) (S:Nat→Prop) (b:Nat):Prop:=S b∨ ∃o∈bor,jY σ ι o b
theorem vz {e es:Nat} {rows:List (List D)} {p:Value} {S':Nat→Prop} (h:OR σ ι w S p (.row e es rows)) (hS: ∀b,S b→S' b) (hb: ∀b,wF p b→S' b):DR w S' (.sl rows) p:=by
 rcases h with⟨rfl,rfl⟩|⟨g,off,cap,cur,fz,rfl,hh,hfz,hc1,hc2,hc3,hrows⟩
 · exact .sl [] none 0 0 ⟨0,0,none⟩ (fun _ _=>undef) (by simp) (by simp[maxLen]) (by simp) (by simp) (by simp) (by simp)
 · refine .sl rows _ cap es ⟨g,off,none⟩ (fun i k=>(cur[off+i*es+k]?).getD undef) hc1 hc2 (fun r hr=> ?_) (fun _=>rfl) (fun i r k d hi hk=> ?_) (fun i r k d hi hk=> ?_)
   · obtain⟨i,hi⟩:=List.mem_iff_getElem?.1 hr
     exact(hrows i r hi).1
   · obtain⟨u,hu,hdr⟩:=(hrows i r hi).2 k d hk
     refine⟨hb g rfl,?_⟩
     rw[kL,cell_of_row w g _ cur e fz hh,← Nat.add_assoc,hu];rfl
   · obtain⟨u,hu,hdr⟩:=(hrows i r hi).2 k d hk
     rw[hu];exact DR.mono hS (fun _ _=>rfl) hdr
theorem oe (hv:VR σ ι ν S w) (hsub: ∀l k,aS τ l=some k→aS σ l=some k) (hids: ∀j k',aS σ' (.o j)=some k'→ ∃k,aS τ (.o (jG rl j))=some k∧mK τ σ' rl bor k k') {c c':C} {v:Value} (hm:mC τ σ' rl bor c c') (h:CR σ ι w S c v):
 CR σ' (fun j=>ι (jG rl j)) w (oU σ ι bor S) c' v:=by
 cases c<;>cases c'<;>simp only[mC] at hm
 case d.d x y=>subst hm;exact DR.mono (fun b hb=> .inl hb) (fun _ _=>rfl) h
 case nil.nil=>exact h
 case nil.d y=>
  subst hm
  have h:v= .slice none 0 0:=h
  subst h
  exact .sl [] none 0 0 ⟨0,0,none⟩ (fun _ _=>undef) (by simp) (by simp[maxLen]) (by simp) (by simp) (by simp) (by simp)
 case own.d o n y=>
  obtain⟨hb,e,es,rows,hl,hn,rfl⟩:=hm
  have hl:=hsub _ _ hl
  obtain⟨_,h2⟩:=h
  rcases h2 with⟨e2,es2,rows2,hl2,hnn,hv2⟩|hd
  · rw[hl] at hl2;cases hl2
    rw[hv2 hn]
    exact vz (hv.objs o _ hl) (fun b hb=> .inl hb) (fun b hb2=> .inr ⟨o,hb,⟨_,hl,trivial⟩,hb2⟩)
  · rw[hl] at hd;cases hd
 case own.own o n j m=>
  obtain⟨rfl,rfl,e,es,rows,hl'⟩:=hm
  obtain⟨k,hk,hmk⟩:=hids j _ hl'
  obtain⟨h1,h2⟩:=h
  refine⟨h1,.inl ⟨e,es,rows,hl',?_⟩⟩
  cases k<;>simp only[mK] at hmk
  obtain⟨rfl,rfl,rfl⟩:=hmk
  have hl:=hsub _ _ hk
  rcases h2 with⟨e2,es2,rows2,hl2,hnn,hv2⟩|hd
  · rw[hl] at hl2;cases hl2;exact⟨hnn,hv2⟩
  · rw[hl] at hd;cases hd
 case pt.pt o k j m=>
  obtain⟨rfl,rfl,ty,cs,hl'⟩:=hm
  obtain⟨kk,hk,hmk⟩:=hids j _ hl'
  obtain⟨h1,h2⟩:=h
  refine⟨h1,.inl ⟨ty,cs,hl',?_⟩⟩
  cases kk<;>simp only[mK] at hmk
  have hl:=hsub _ _ hk
  rcases h2 with⟨ty2,cs2,hl2,b,hi,hvv⟩|hd
  · exact⟨b,hi,hvv⟩
  · rw[hl] at hd;cases hd
 case nil.z j Q'=>
  obtain⟨hQ,Z',hl'⟩:=hm
  have h:v= .slice none 0 0:=h
  exact⟨by rw[h];rfl,.inl ⟨Z',hl',fun p _=>by rw[h];exact hQ p⟩⟩
 case z.z o Q j Q'=>
  obtain⟨rfl,hQ,Z',hl'⟩:=hm
  obtain⟨kk,hk,hmk⟩:=hids j _ hl'
  obtain⟨h1,h2⟩:=h
  refine⟨h1,.inl ⟨Z',hl',fun p hp=> ?_⟩⟩
  cases kk<;>simp only[mK] at hmk
  have hl:=hsub _ _ hk
  rcases h2 with⟨Z2,hl2,hq⟩|hd
  · rw[hl] at hl2;cases hl2
    exact hQ _ _ (hq p (by rw[← hmk.1];exact hp))
  · rw[hl] at hd;cases hd
 case rp.rp cs cs'=>
  subst hm
  obtain⟨ad,hv',hk⟩:=h
  exact⟨ad,hv',fun k d hd=>by
   obtain⟨q1,u,q2,q3⟩:=hk k d hd
   exact⟨.inl q1,u,q2,DR.mono (fun b hb=> .inl hb) (fun _ _=>rfl) q3⟩⟩
theorem yj: ∀{cs ds:List C},tk τ σ' rl bor cs ds→ds.length=cs.length∧ ∀(k:Nat) d,ds[k]? =some d→ ∃c,cs[k]? =some c∧mC τ σ' rl bor c d
 | [],[],_=>⟨rfl,by simp⟩
 |c::cs,d::ds,h=>by
  obtain⟨q1,q2⟩:=yj h.2
  refine⟨by simp[q1],fun k d' hk=> ?_⟩
  cases k with
  |zero=>simp at hk;subst hk;exact⟨c,rfl,h.1⟩
  |succ k=>simpa using q2 k d' (by simpa using hk)
 | [],_::_,h=>h.elim
 |_::_,[],h=>h.elim
theorem aA8 (hv:VR σ ι ν S w) (hsub: ∀l k,aS τ l=some k→aS σ l=some k) (hids: ∀j k',aS σ' (.o j)=some k'→ ∃k,aS τ (.o (jG rl j))=some k∧mK τ σ' rl bor k k') {c c':E} {v:Value} (hm:mE τ σ' rl bor c c') (h:ER σ ι w S c v):
 ER σ' (fun j=>ι (jG rl j)) w (oU σ ι bor S) c' v:=by
 cases c<;>cases c'<;>simp only[mE] at hm
 · exact oe hv hsub hids hm h
 · obtain⟨vs,hvv,hl,hk⟩:=h
   obtain⟨q1,q2⟩:=yj hm
   exact⟨vs,hvv,by rw[hl,q1],fun k d u hd hu=>by
    obtain⟨c,hc,hmc⟩:=q2 k d hd
    exact oe hv hsub hids hmc (hk k c u hc hu)⟩
theorem aGf: ∀{cs ds:List E},mEs τ σ' rl bor cs ds→ds.length=cs.length∧ ∀(k:Nat) d,ds[k]? =some d→ ∃c,cs[k]? =some c∧mE τ σ' rl bor c d
 | [],[],_=>⟨rfl,by simp⟩
 |c::cs,d::ds,h=>by
  obtain⟨q1,q2⟩:=aGf h.2
  refine⟨by simp[q1],fun k d' hk=> ?_⟩
  cases k with
  |zero=>simp at hk;subst hk;exact⟨c,rfl,h.1⟩
  |succ k=>simpa using q2 k d' (by simpa using hk)
 | [],_::_,h=>h.elim
 |_::_,[],h=>h.elim
theorem aJz (hv:VR σ ι ν S w) (hsub: ∀l k,aS τ l=some k→aS σ l=some k) (hids: ∀j k',aS σ' (.o j)=some k'→ ∃k,aS τ (.o (jG rl j))=some k∧mK τ σ' rl bor k k') {c c':V} {v:Value} (hm:mV τ σ' rl bor c c') (h:kU σ ι w S c v):
 kU σ' (fun j=>ι (jG rl j)) w (oU σ ι bor S) c' v:=by
 cases c<;>cases c'<;>simp only[mV] at hm
 · exact aA8 hv hsub hids hm h
 · obtain⟨vs,hvv,hl,hk⟩:=h
   obtain⟨q1,q2⟩:=aGf hm
   exact⟨vs,hvv,by rw[hl,q1],fun k d u hd hu=>by
    obtain⟨c,hc,hmc⟩:=q2 k d hd
    exact aA8 hv hsub hids hmc (hk k c u hc hu)⟩
theorem aGg {k k':K} (h:mK τ σ' rl bor k k'):k.live∧k'.live:=by cases k<;>cases k'<;>simp_all[mK,K.live]
theorem yk {p q:Value} {k k1 k':K} (h:lZ p q k k1) (hm:mK τ σ' rl bor k1 k'):lZ p q k k':=by
 cases k1<;>cases k'<;>simp only[mK] at hm
 · cases k<;>simp_all[lZ]
 · obtain⟨rfl,rfl,rfl⟩:=hm;exact h
 · cases k<;>simp only[lZ] at h ⊢
   exact⟨hm.1.trans h.1,h.2⟩
theorem aO0 {p q:Value} {k k1 k':K} (hm:mK τ σ' rl bor k k1) (h:lZ p q k1 k'):lZ p q k k':=by
 cases k<;>cases k1<;>simp only[mK] at hm
 · cases k'<;>simp_all[lZ]
 · obtain⟨rfl,rfl,rfl⟩:=hm;exact h
 · cases k'<;>simp only[lZ] at h ⊢
   exact⟨h.1.trans hm.1,by rw[← hm.1];exact h.2⟩
theorem nK.ids (h:nK τ σ' rl bor): ∀j k',aS σ' (.o j)=some k'→ ∃k,aS τ (.o (jG rl j))=some k∧mK τ σ' rl bor k k':=fun j k' hl=>(yi h.1 _ (tE hl)).2 j k' rfl
theorem nK.inj (h:nK τ σ' rl bor) {i j:Nat} (hi:i∈bX σ') (hj:j∈bX σ') (he:jG rl i=jG rl j):i=j:=by
 have:=h.2
 simp only[yC,aSg] at this
 exact cz this.1.1 i hi j hj he
theorem nK.giv (h:nK τ σ' rl bor) {o j:Nat} (ho:o∈bor) (hj:j∈bX σ'):jG rl j≠o:=by
 have:=h.2
 simp only[yC,aSg] at this
 intro e
 exact rI this.2 o ho (by rw[← e];exact aSq.2 ⟨j,hj,rfl⟩)
theorem nK.mut (h:nK τ σ' rl bor) (hsub: ∀l k,aS τ l=some k→aS σ l=some k) {j b:Nat} (hm:jY σ' (fun j=>ι (jG rl j)) j b):jY σ ι (jG rl j) b:=by
 obtain⟨⟨k',hk',hl⟩,hb⟩:=hm
 obtain⟨k,hk,hmk⟩:=h.ids j k' hk'
 exact⟨⟨k,hsub _ _ hk,(aGg hmk).1⟩,hb⟩
theorem tG (h:nK τ σ' rl bor) (hsub: ∀l k,aS τ l=some k→aS σ l=some k) (hv:VR σ ι ν S w):VR σ' (fun j=>ι (jG rl j)) ν (oU σ ι bor S) w:=by
 refine⟨fun s X' hs=> ?_,fun j k' hj=> ?_,fun j b hm hS=> ?_,fun j j' b hm hm'=> ?_,fun b hb=> ?_⟩
 · obtain⟨X',rfl⟩:=aOz h.1 s _ (tE hs)
   obtain⟨X,hX,hmv⟩:=(yi h.1 _ (tE hs)).1 s X' rfl
   exact aJz hv hsub h.ids hmv (hv.slots s _ (hsub _ _ hX))
 · obtain⟨k,hk,hmk⟩:=h.ids j k' hj
   have hor:=hv.objs _ k (hsub _ _ hk)
   cases k<;>cases k'<;>simp only[mK] at hmk
   · obtain⟨rfl,hcs⟩:=hmk
     obtain⟨b,vs,hi,hh,hsz,hc⟩:=hor
     obtain⟨q1,q2⟩:=yj hcs
     exact⟨b,vs,hi,hh,by rw[hsz,q1],fun k d u hd hu=>by
      obtain⟨c,hcc,hmc⟩:=q2 k d hd
      exact oe hv hsub h.ids hmc (hc k c u hcc hu)⟩
   · obtain⟨rfl,rfl,rfl⟩:=hmk
     rcases hor with hn|⟨g,off,cap,cur,fz,hp,hh,hfz,h1,h2,h3,h4⟩
     · exact .inl hn
     · exact .inr ⟨g,off,cap,cur,fz,hp,hh,hfz,h1,h2,h3,fun i r hr=>⟨(h4 i r hr).1,fun k d hd=>by
        obtain⟨u,hu,hdr⟩:=(h4 i r hr).2 k d hd
        exact⟨u,hu,DR.mono (fun b hb=> .inl hb) (fun _ _=>rfl) hdr⟩⟩⟩
   · rename_i Z Z'
     exact hmk.2 _ _ _ (Z.mono (fun b hb=> .inl hb) (fun _ _=>rfl) (fun _ _=>rfl) hor)
 · have hm1:=h.mut hsub hm
   rcases hS with hS|⟨o,ho,hmo⟩
   · exact hv.mutS _ b hm1 hS
   · obtain⟨⟨k',hk',_⟩,_⟩:=hm
     exact h.giv ho (eR hk') (hv.inj _ _ b hm1 hmo)
 · have h1:=h.mut hsub hm
   have h2:=h.mut hsub hm'
   obtain⟨⟨k',hk',_⟩,_⟩:=hm
   obtain⟨⟨k'',hk'',_⟩,_⟩:=hm'
   exact h.inj (eR hk') (eR hk'') (hv.inj _ _ b h1 h2)
 · rcases hb with hb|⟨o,ho,⟨k,hk,hl⟩,hb⟩
   · exact hv.sz b hb
   · exact OR.lt (hv.objs o k hk) hl hb
end
def wR (io:List Nat) (σ':St) (rl:List (Nat×Nat)) (bor:List Nat):Bool:=io.all fun o=>Nat.beq (jG rl o) o&&iH o (bX σ')&& !iH o bor
theorem SW.weaken {P:Program} {io:List Nat} {c:Code} {Q:Ex→St→Prop} {σ:St} (σ':St) (rl:List (Nat×Nat)) (bor:List Nat) (hm:nK σ σ' rl bor) (hk:wR io σ' rl bor=true) (h:SW P io c Q σ'):SW P io c Q σ:=fun cx ι S a w hio hw hf=>by
 refine h cx (fun j=>ι (jG rl j)) (oU σ ι bor S) a w hio ?_ hf
 have hkk: ∀o k,cx.kio o=some k→jG rl o=o∧o∈bX σ'∧o∉bor:=fun o k ho=>by
  have:=aSu.1 hk o (hio o k ho)
  simp only[aSg,Bool.not_eq_true'] at this
  refine⟨Nat.eq_of_beq_eq_true this.1.1,gC.1 this.1.2,fun hb=> ?_⟩
  rw[gC.2 hb] at this;cases this.2
 have hvr:=tG hm (fun _ _ h=>h) hw.vr
 refine⟨hvr,hw.size,hw.defers,hw.fr,fun j b hmu=> ?_,fun b hb=> ?_,fun o k ho=> ?_⟩
 · exact hw.own _ b (hm.mut (fun _ _ h=>h) hmu)
 · rcases hb with hb|⟨o,ho,hmo⟩
   · exact hw.rd b hb
   · exact .inr (hw.own o b hmo)
 · obtain⟨q1,q2,q3⟩:=hkk o k ho
   obtain⟨k1,hk1,hev⟩:=hw.io o k ho
   obtain⟨p,hp⟩:=oT q2
   obtain⟨k2,hk2,hmk⟩:=hm.ids o p hp
   rw[q1] at hk2
   rw[hk1] at hk2;cases hk2
   refine⟨p,hp,?_⟩
   rw[q1]
   exact yk hev hmk
set_option linter.unusedSimpArgs false
def da (P:Program) (f:FuncId):Prop:= ∃fn,P.funcs[f]? =some fn∧fn.body.isNone=false∧(fn.name== "runtime.NumGoroutine")=false
structure aJ0 (σin:St) (ι:Nat→Value) (S:Nat→Prop) (w:World) (σout:St) (ι':Nat→Value) (S':Nat→Prop) (w':World) (v:Value):Prop where
 fr:Fr (fun b=> ∃o,jY σin ι o b) w w'
 vr:VR σout ι' (fun _=>v) S' w'
 rd: ∀b,S' b→S b∨w.heap.size≤b∨ ∃o,jY σin ι o b
 own: ∀o b,jY σout ι' o b→w.heap.size≤b∨ ∃o,jY σin ι o b
 io: ∀o k k',aS σin (.o o)=some k→aS σout (.o o)=some k'→lZ (ι o) (ι' o) k k'
def Spec (P:Program) (f:FuncId) (n:Nat) (σin σout:St):Prop:=
 da P f∧ ∀(ι ν:Nat→Value) (S:Nat→Prop) (w:World) (args:Array Value),(GB P w fun b=> ∃o,jY σin ι o b)→VR σin ι ν S w→args.size=n→(∀i,i<n→args[i]? =some (ν i))→
  Calls P f args w fun e w'=> ∃v ι' S',e= .returned v∧aJ0 σin ι S w σout ι' S' w' v
def aLz (T:gB) (s:St):ResultVar→Option E
 | .tmp t=>match aS s (.t t) with
  |some (.v (.e x))=>some x
  |_=>none
 | .cell p ty=>match aS s (.t p),T ty with
  |some (.v (.e (.c (.pt ob 0)))),some ti=>match aS s (.o ob) with
   |some (.box _ cs)=>if ti.kind.agg&&(cs.length==ti.size) then some (.agg cs) else none
   |_=>none
  |_,_=>none
def aA9 (T:gB) (s:St):List ResultVar→Option (List E)
 | []=>some []
 |r::rs=>match aLz T s r,aA9 T s rs with
  |some x,some xs=>some (x::xs)
  |_,_=>none
def aDz (T:gB) (s:St) (rs:List ResultVar):Option V:=
 match aA9 T s rs with
 |some [x]=>some (.e x)
 |some xs=>some (.tup xs)
 |none=>none
def dO:St→St
 | []=>[]
 |(.o n,k)::r=>(.o n,k)::dO r
 |_::r=>dO r
theorem oV (s:St) (o:Nat):aS (dO s) (.o o)=aS s (.o o):=by
 induction s with
 |nil=>rfl
 |cons p r ih=>
  obtain⟨l,k⟩:=p
  cases l with
  |t n=>simp only[dO,aS];rw[ih,if_neg (by simp)]
  |o n=>simp only[dO,aS];rw[ih]
theorem aD0 {P:Program} {T:gB} (hT:dK P T) {cx:Cx P} {s:St} {ι:Nat→Value} {S:Nat→Prop} {a:Act} {w:World} (hw:RW cx s ι S a w) {r:ResultVar} {x:E} (h:aLz T s r=some x):
 ∃v,(match r with| .tmp t=>pure (a.tmps.getD t undef)| .cell p ty=>do loadVar ty (← asAddr (a.tmps.getD p undef)):Sem Value).run P w= .ok v w∧ER s ι w S x v:=by
 cases r with
 |tmp t=>
  simp only[aLz] at h
  split at h<;>try(cases h;done)
  rename_i x' hl
  cases h
  exact⟨_,rfl,hw.vr.slots t _ hl⟩
 |cell p ty=>
  simp only[aLz] at h
  split at h<;>try(cases h;done)
  rename_i ob ti hl hti
  split at h<;>try(cases h;done)
  rename_i ty' cs hbox
  split at h<;>try(cases h;done)
  rename_i hc
  cases h
  simp only[aSg,beq_iff_eq] at hc
  obtain⟨hag,hlen⟩:=hc
  obtain⟨_,h2⟩:=(show CR s ι w S (.pt ob 0) (gZ a p) from hw.vr.slots p _ hl)
  rcases h2 with⟨ty2,cs2,hl2,b,hi,hv⟩|hd
  · rw[hbox] at hl2;cases hl2
    obtain⟨b',vs,hi',hh,hsz,hcr⟩:=hw.vr.objs ob _ hbox
    rw[hi] at hi';cases hi'
    have hv':a.tmps.getD p undef= .pointer (some ⟨b,0,none⟩):=hv
    have hload:=lC (w:=w) (hT ty ti hti) hag ⟨b,0,none⟩ vs.toList (by rw[Array.length_toList,hsz,hlen]) (fun j v hj=>by
     rw[kL,Nat.zero_add,cell_of_row w b j vs _ (0,0) hh];simpa using hj)
    refine⟨.agg vs.toList.toArray,?_,vs.toList,rfl,by rw[Array.length_toList,hsz],fun k c u h1 h2=>hcr k c u h1 (by simpa using h2)⟩
    simp only[hv',Sem.run_bind,asAddr,Sem.run_pure,Result.andThen_ok]
    exact hload
  · rw[hbox] at hd;cases hd
theorem ln {P:Program} {T:gB} (hT:dK P T) {cx:Cx P} {s:St} {ι:Nat→Value} {S:Nat→Prop} {a:Act} {w:World} (hw:RW cx s ι S a w): ∀{rs:List ResultVar} {xs:List E},aA9 T s rs=some xs→
 ∃vs:List Value,(rs.mapM fun r=>(match r with| .tmp t=>pure (a.tmps.getD t undef)| .cell p ty=>do loadVar ty (← asAddr (a.tmps.getD p undef)):Sem Value)).run P w= .ok vs w∧vs.length=xs.length∧ ∀(k:Nat) x u,xs[k]? =some x→vs[k]? =some u→ER s ι w S x u
 | [],xs,h=>by cases h;exact⟨[],rfl,rfl,by simp⟩
 |r::rs,xs,h=>by
  simp only[aA9] at h
  split at h<;>try(cases h;done)
  rename_i x ys h1 h2
  cases h
  obtain⟨v,hv,hx⟩:=aD0 hT hw h1
  obtain⟨vs,hvs,hl,hk⟩:=ln hT hw h2
  refine⟨v::vs,?_,by simp[hl],fun k y u hy hu=> ?_⟩
  · rw[List.mapM_cons,Sem.run_bind,hv,Result.andThen_ok,Sem.run_bind,hvs];rfl
  · cases k with
    |zero=>simp at hy hu;subst hy;subst hu;exact hx
    |succ k=>exact hk k y u (by simpa using hy) (by simpa using hu)
theorem og {P:Program} {T:gB} (hT:dK P T) {cx:Cx P} {s:St} {ι:Nat→Value} {S:Nat→Prop} {a:Act} {w:World} (hw:RW cx s ι S a w) {fn:Func} {X:V} (h:aDz T s fn.results.toList=some X):
 ∃v,(results fn a.tmps).run P w= .ok v w∧kU s ι w S X v:=by
 have key: ∀{xs:List E},aA9 T s fn.results.toList=some xs→ ∃vs:List Value,(results fn a.tmps).run P w= .ok (if h:vs.toArray.size=1 then vs.toArray[0] else .tuple vs.toArray) w∧vs.length=xs.length∧ ∀(k:Nat) x u,xs[k]? =some x→vs[k]? =some u→ER s ι w S x u:=by
  intro xs hx
  obtain⟨vs,hvs,hl,hk⟩:=ln hT hw hx
  refine⟨vs,?_,hl,hk⟩
  unfold results
  have e:fn.results=fn.results.toList.toArray:=by simp
  rw[e,List.mapM_toArray,Sem.run_bind,Sem.run_map]
  exact(congrArg (fun r:Result (List Value)=>(r.andThen fun a w'=>Result.ok a.toArray w').andThen fun a w'=>Sem.run P (pure (if h:a.size=1 then a[0] else Value.tuple a)) w') hvs).trans rfl
 unfold aDz at h
 split at h
 · rename_i x hx
   cases h
   obtain⟨vs,hr,hl,hk⟩:=key hx
   match vs,hl with
   | [v],_=>exact⟨v,hr,hk 0 x v rfl rfl⟩
 · rename_i xs hne hx
   cases h
   obtain⟨vs,hr,hl,hk⟩:=key hx
   have h1: ¬vs.toArray.size=1:=by
    intro h1
    have h1:xs.length=1:=by rw[← hl];simpa using h1
    match xs,h1 with
    | [x],_=>exact hne x rfl
   rw[dif_neg h1] at hr
   exact⟨_,hr,vs,rfl,hl,hk⟩
 · cases h
def qR (n:Nat):St→Bool
 | []=>true
 |(.t s,_)::r=>decide (s<n)&&qR n r
 |_::r=>qR n r
theorem sG {n:Nat}: ∀{σ:St},qR n σ=true→ ∀s k,aS σ (.t s)=some k→s<n
 | [],_,s,k,h=>by cases h
 |(.t t,x)::r,h,s,k,hl=>by
  simp only[qR,aSg,decide_eq_true_eq] at h
  simp only[aS] at hl
  split at hl
  · rename_i e;cases e;exact h.1
  · exact sG h.2 s k hl
 |(.o t,x)::r,h,s,k,hl=>by
  simp only[aS] at hl
  rw[if_neg (by simp)] at hl
  exact sG (σ:=r) h s k hl
def oh (io:List Nat) (σout:St) (rl:List (Nat×Nat)) (bor:List Nat):Bool:=
 io.all fun o=> !iH o (bX σout)||Nat.beq (jG rl o) o
def yD (T:gB) (io:List Nat) (rs:List ResultVar) (σout:St) (s:St):Prop:=
 ∃X rl bor,aDz T s rs=some X∧nK ((.t 0,.v X)::dO s) σout rl bor∧oh io σout rl bor=true
def aNp (T:gB) (io:List Nat) (rs:List ResultVar) (σout:St):Ex→St→Prop
 | .norm,s=>yD T io rs σout s
 | .ret,s=>yD T io rs σout s
 | .exit _,_=>False
theorem yl {P:Program} {T:gB} (hT:dK P T) {f:FuncId} {fn:Func} {c:Code} {n:Nat} {σin σout:St} (hf:P.funcs[f]? =some fn) (hb:fn.body=some c) (hname: (fn.name== "runtime.NumGoroutine")=false) (hn:n≤fn.ntmps) (hfit:rR fn.ntmps c=true)
 (hsl:qR n σin=true) (h:SW P ((bX σin).filter fun o=>iH o (bX σout)) c (aNp T ((bX σin).filter fun o=>iH o (bX σout)) fn.results.toList σout) σin):Spec P f n σin σout:=by
 refine⟨⟨fn,hf,by rw[hb];rfl,hname⟩,fun ι ν S w args hgb hvr hsz hargs=> ?_⟩
 have hnu: ∀s,s<n→(args++Array.replicate (fn.ntmps - args.size) undef).getD s undef=ν s:=by
  intro s hs
  rw[Array.getD_eq_getD_getElem?,Array.getElem?_append_left (by omega),hargs s hs];rfl
 let cx:Cx P:={N:=fn.ntmps,w0:=w,S0:=S,k0:=fun o=>aS σin (.o o),kio:=fun o=>if iH o (bX σout) then aS σin (.o o) else none,ι0:=ι,gb:=hgb.weak fun b ⟨o,k,q1,q2,q3⟩=>⟨o,⟨k,q1,q2⟩,q3⟩}
 have hM: ∀b,cx.M b↔ ∃o,jY σin ι o b:=fun b=>⟨fun⟨o,k,q1,q2,q3⟩=>⟨o,⟨k,q1,q2⟩,q3⟩,fun⟨o,⟨k,q1,q2⟩,q3⟩=>⟨o,k,q1,q2,q3⟩⟩
 have hkio: ∀{o:Nat} {k:K},(if iH o (bX σout) then aS σin (.o o) else none)=some k→aS σin (.o o)=some k:=fun{o k} h=>by
  by_cases hm:iH o (bX σout)=true
  · rw[if_pos hm] at h;exact h
  · rw[if_neg hm] at h;cases h
 have hkm: ∀{o:Nat} {k:K},(if iH o (bX σout) then aS σin (.o o) else none)=some k→o∈(bX σin).filter fun o=>iH o (bX σout):=fun{o k} h=>by
  by_cases hm:iH o (bX σout)=true
  · exact List.mem_filter.2 ⟨eR (hkio h),hm⟩
  · rw[if_neg hm] at h;cases h
 have hw:RW cx σin ι S {tmps:=args++Array.replicate (fn.ntmps - args.size) undef,defers:=[]} w:=by
  refine⟨⟨fun s x hx=> ?_,hvr.objs,hvr.mutS,hvr.inj,hvr.sz⟩,?_,rfl,Fr.refl _ _,fun o b ⟨⟨k,q1,q2⟩,q3⟩=> .inr ⟨o,k,q1,q2,q3⟩,fun b hb=> .inl hb,fun o k hk=>⟨k,hkio hk,lZ.refl' _ _⟩⟩
  · have hs:=sG hsl s _ hx
    have:gZ {tmps:=args++Array.replicate (fn.ntmps - args.size) undef,defers:=[]} s=ν s:=hnu s hs
    rw[this];exact hvr.slots s x hx
  · show(args++Array.replicate (fn.ntmps - args.size) undef).size=fn.ntmps
    simp;omega
 refine calls_of_wp hf hb (wp_mono (h cx ι S _ w (fun o k hk=>hkm hk) hw hfit) fun e a' w' hq=> ?_)
 have fin: (∃σ' ι' S',yD T ((bX σin).filter fun o=>iH o (bX σout)) fn.results.toList σout σ'∧RW cx σ' ι' S' a' w')→a'.defers=[]∧ ∃v,(results fn a'.tmps).run P w'= .ok v w'∧ ∃v_1 ι' S',Ending.returned v= .returned v_1∧aJ0 σin ι S w σout ι' S' w' v_1:=by
  rintro⟨σ',ι',S',⟨X,rl,bor,hX,hm,hio⟩,hw'⟩
  obtain⟨v,hr,hv⟩:=og hT hw' hX
  refine⟨hw'.defers,v,hr,v,fun j=>ι' (jG rl j),oU σ' ι' bor S',rfl,?_⟩
  have hlo: ∀o,aS ((dD.t 0,K.v X)::dO σ') (.o o)=aS σ' (.o o):=fun o=>by simp only[aS];rw[if_neg (by simp),oV]
  have st:pR σ' ι' S' w' ((dD.t 0,K.v X)::dO σ') ι' S' w':=⟨fun _ h=>h,fun _ _=>rfl,fun o k hk=>⟨k,by rw[hlo];exact hk,lZ.refl' _ _⟩⟩
  have hmut: ∀o b,jY ((dD.t 0,K.v X)::dO σ') ι' o b↔jY σ' ι' o b:=fun o b=>by unfold jY;rw[hlo]
  have hlt: ∀(r:St) s k,aS (dO r) (.t s)=some k→False:=by
   intro r s k
   induction r with
   |nil=>intro h;cases h
   |cons p r ih=>
    obtain⟨l,k'⟩:=p
    cases l with
    |t n=>exact ih
    |o n=>simp only[dO,aS];rw[if_neg (by simp)];exact ih
  have hvr0:VR ((dD.t 0,K.v X)::dO σ') ι' (fun _=>v) S' w':=by
   refine⟨fun s x hx=> ?_,fun o k hk=>OR.step st (fun _ _=>rfl) (hw'.vr.objs o k (by rw[← hlo];exact hk)),fun o b q=>hw'.vr.mutS o b ((hmut o b).1 q),fun o o' b q q'=>hw'.vr.inj o o' b ((hmut o b).1 q) ((hmut o' b).1 q'),hw'.vr.sz⟩
   simp only[aS] at hx
   split at hx
   · cases hx;exact kU.step st hv
   · exact(hlt σ' s _ hx).elim
  have hvr1:=tG hm (fun _ _ h=>h) hvr0
  have hio2: ∀o∈(bX σin).filter fun o=>iH o (bX σout),iH o (bX σout)=false∨Nat.beq (jG rl o) o=true:=by simpa only[oh,aSu,Bool.or_eq_true,Bool.not_eq_true'] using hio
  have hgive: ∀b,oU ((dD.t 0,K.v X)::dO σ') ι' bor S' b→oU σ' ι' bor S' b:=fun b hb=>hb.imp id fun⟨o,ho,q⟩=>⟨o,ho,(hmut o b).1 q⟩
  refine⟨⟨hw'.fr.os,hw'.fr.tape,hw'.fr.output,hw'.fr.size,fun b hb hnm=>hw'.fr.block b hb (fun h=>hnm ((hM b).1 h))⟩,?_,fun b hb=> ?_,fun j b hmu=> ?_,fun o k k' hk hk'=> ?_⟩
  · have e:oU ((dD.t 0,K.v X)::dO σ') ι' bor S'=oU σ' ι' bor S':=by
     funext b;apply propext;exact⟨hgive b,fun hb=>hb.imp id fun⟨o,ho,q⟩=>⟨o,ho,(hmut o b).2 q⟩⟩
    rw[← e];exact hvr1
  · rcases hb with hb|⟨o,ho,hmo⟩
    · exact(hw'.rd b hb).imp id fun h=>h.imp id fun h=>(hM b).1 h
    · exact .inr ((hw'.own o b hmo).imp id fun h=>(hM b).1 h)
  · exact(hw'.own _ b ((hmut _ b).1 (hm.mut (fun _ _ h=>h) hmu))).imp id fun h=>(hM b).1 h
  · have hren:jG rl o=o:=by
     rcases hio2 o (List.mem_filter.2 ⟨eR hk,gC.2 (eR hk')⟩) with h4|h4
     · rw[gC.2 (eR hk')] at h4;cases h4
     · exact Nat.eq_of_beq_eq_true h4
    obtain⟨k1,hk1,hev⟩:=hw'.io o k (show(if iH o (bX σout) then aS σin (.o o) else none)=some k by rw[if_pos (gC.2 (eR hk'))];exact hk)
    have hev:lZ (ι o) (ι' o) k k1:=hev
    obtain⟨k2,hk2,hmk⟩:=hm.ids o k' hk'
    rw[hren,hlo,hk1] at hk2;cases hk2
    rw[hren]
    exact yk hev hmk
 cases e with
 |normal=>
  obtain⟨σ',ι',S',h1,h2⟩:=hq
  exact fin ⟨σ',ι',S',h1,h2⟩
 |ret=>
  obtain⟨σ',ι',S',h1,h2⟩:=hq
  exact fin ⟨σ',ι',S',h1,h2⟩
 |exit id=>obtain⟨σ',ι',S',h1,h2⟩:=hq;exact h1.elim
 |goto l=>exact hq.elim
 |panic ch=>exact hq.elim
 |outgrown=>exact hq.elim
set_option linter.unusedSimpArgs false
def evA (σ:St):List Operand→Option (List V×List (dD×Option K))
 | []=>some ([],[])
 |x::r=>match ev σ x,evA σ r with
  |some (X,R),some (Xs,R')=>some (X::Xs,R++R')
  |_,_=>none
theorem sV {σ:St}: ∀{ps:List Operand} {Xs:List V} {R:List (dD×Option K)},evA σ ps=some (Xs,R)→bJ R σ
 | [],Xs,R,h=>by cases h;exact bJ.nil
 |x::r,Xs,R,h=>by
  simp only[evA] at h
  split at h<;>try(cases h;done)
  rename_i X R1 Ys R2 h1 h2
  cases h
  exact(cZ h1).append (sV h2)
theorem jk {σ0:St} {P:Program} {cx:Cx P} {σ:St} {ι:Nat→Value} {S:Nat→Prop} {a:Act} {w:World} (hw:RW cx σ ι S a w):
 ∀{ps:List Operand} {Xs:List V} {R:List (dD×Option K)},evA σ0 ps=some (Xs,R)→bJ R σ→Xs.length=ps.length∧ ∀(i:Nat) X,Xs[i]? =some X→ ∃x,ps[i]? =some x∧kU σ ι w S X (a.eval x)
 | [],Xs,R,h,_=>by cases h;exact⟨rfl,by simp⟩
 |x::r,Xs,R,h,hr=>by
  simp only[evA] at h
  split at h<;>try(cases h;done)
  rename_i X R1 Ys R2 h1 h2
  cases h
  obtain⟨q1,q2⟩:=jk hw h2 hr.right
  refine⟨by simp[q1],fun i X' hi=> ?_⟩
  cases i with
  |zero=>simp at hi;subst hi;exact⟨x,rfl,dA h1 hr.left hw⟩
  |succ i=>simpa using q2 i X' (by simpa using hi)
def eH:Nat→List V→St
 |_,[]=>[]
 |i,X::r=>(.t i,.v X)::eH (i+1) r
theorem nZ: ∀(i:Nat) (Xs:List V) (r:St) (s:Nat),i≤s→s<i+Xs.length→aS (eH i Xs++r) (.t s)=(Xs[s - i]?).map K.v
 |i,[],r,s,h1,h2=>by simp at h2;omega
 |i,X::Xs,r,s,h1,h2=>by
  simp only[eH,List.cons_append,aS]
  by_cases e:i=s
  · subst e;simp
  · rw[if_neg (by simpa using e),nZ (i+1) Xs r s (by omega) (by simp at h2;omega)]
    rw[show s - i=(s - (i+1))+1 by omega,List.getElem?_cons_succ]
theorem jZ: ∀(i:Nat) (Xs:List V) (r:St) (o:Nat),aS (eH i Xs++r) (.o o)=aS r (.o o)
 |i,[],r,o=>rfl
 |i,X::Xs,r,o=>by
  simp only[eH,List.cons_append,aS]
  rw[if_neg (by simp),jZ (i+1) Xs r o]
theorem sH: ∀(i:Nat) (Xs:List V) (r:St) (s:Nat) (k:K),aS (eH i Xs++r) (.t s)=some k→(∃X,Xs[s - i]? =some X∧k= .v X∧i≤s∧s<i+Xs.length)∨aS r (.t s)=some k
 |i,[],r,s,k,h=> .inr h
 |i,X::Xs,r,s,k,h=>by
  simp only[eH,List.cons_append,aS] at h
  split at h
  · rename_i e;cases e;cases h;exact .inl ⟨X,by simp,rfl,aSo _,by simp⟩
  · rcases sH (i+1) Xs r s k h with⟨Y,h1,h2,h3,h4⟩|h
    · refine .inl ⟨Y,?_,h2,by omega,by simp;omega⟩
      rw[show s - i=(s - (i+1))+1 by omega,List.getElem?_cons_succ];exact h1
    · exact .inr h
def pU (l:List (Nat×K)):St:=l.map fun p=>(.o p.1,p.2)
def aD1 (rl:List (Nat×Nat)):C→C
 | .own o n=> .own (jG rl o) n
 | .pt o k=> .pt (jG rl o) k
 | .pe o n i k=> .pe (jG rl o) n i k
 | .z o Q=> .z (jG rl o) Q
 |c=>c
def aHg (rl:List (Nat×Nat)):E→E
 | .c x=> .c (aD1 rl x)
 | .agg cs=> .agg (cs.map (aD1 rl))
def aD2 (rl:List (Nat×Nat)):V→V
 | .e x=> .e (aHg rl x)
 | .tup xs=> .tup (xs.map (aHg rl))
def ym (rl:List (Nat×Nat)):K→K
 | .v x=> .v (aD2 rl x)
 | .box ty cs=> .box ty (cs.map (aD1 rl))
 | .row e es rows=> .row e es rows
 | .dead=> .dead
 | .cv s want b x=> .cv s want b (aD2 rl x)
 | .zone Z=> .zone Z
def uF (rl:List (Nat×Nat)):St→List (dD×K)
 | []=>[]
 |(.o j,k)::r=>(.o (jG rl j),ym rl k)::uF rl r
 |_::r=>uF rl r
def nQ (σin σout:St):List Nat:=(bX σin).filter fun j=> !iH j (bX σout)
def nE (σin σout:St):List Nat:=(bX σout).filter fun j=> !iH j (bX σin)
def wS (rl:List (Nat×Nat)) (σin σout:St):List (dD×K):=uF rl σout++(nQ σin σout).map fun j=>(.o (jG rl j),.dead)
def tt (rl:List (Nat×Nat)) (σout:St):Option Tmp→List (dD×K)
 |some d=>[(.t d,match aS σout (.t 0) with|some (.v X)=> .v (aD2 rl X)|_=> .dead)]
 |none=>[]
def lp (Ra:List (dD×Option K)) (robj:List (Nat×K)) (rl:List (Nat×Nat)) (σin σout:St):List (dD×Option K):=
 Ra++robj.map (fun p=>(.o p.1,some p.2))++(nE σin σout).map fun j=>(.o (jG rl j),none)
def sC (rl:List (Nat×Nat)) (σin σout:St) (d:Option Tmp):List (dD×K):=wS rl σin σout++tt rl σout d
def nm:D→Prop
 | .sl rows=>rows=[]
 |_=>True
def aw:C→Prop
 | .d x=>nm x
 | .rp _=>False
 |_=>True
def ey:E→Prop
 | .c x=>aw x
 | .agg cs=> ∀c∈cs,aw c
def ez:V→Prop
 | .e x=>ey x
 | .tup xs=> ∀x∈xs,ey x
def uG:K→Prop
 | .v x=>ez x
 | .box _ cs=> ∀c∈cs,aw c
 | .row _ _ rows=> ∀r∈rows,∀d∈r,nm d
 | .dead=>True
 | .cv _ _ _ x=>ez x
 | .zone _=>False
def mA (σ:St):Prop:= ∀p∈σ,uG p.2
theorem DR.scalar {w w':World} {S S':Nat→Prop} {x:D} {v:Value} (hx:nm x) (h:DR w S x v):DR w' S' x v:=by
 cases h with
 |i n=>exact .i n
 |u n=>exact .u n
 |b n=>exact .b n
 |s n=>exact .s n
 |x v hv=>exact .x v hv
 |sl rows a cap es ad u hc hm he ha h1 hd=>
  have hx:rows=[]:=hx
  subst hx
  exact .sl [] a cap es ad u hc hm (by simp) (by simp) (by simp) (by simp)
theorem aJ1 {L:List (dD×K)} {l:dD} {k:K} (hn: (L.map (·.1)).Nodup) (h: (l,k)∈L):wr L l=some k:=by
 induction L with
 |nil=>cases h
 |cons p r ih=>
  simp only[List.map_cons,List.nodup_cons] at hn
  unfold wr
  rcases aSw.1 h with rfl|h
  · rw[wM hn.1,if_pos rfl]
  · rw[ih hn.2 h]
theorem lq: ∀{l:List Nat},tF l=true→l.Nodup
 | [],_=>List.nodup_nil
 |x::r,h=>by
  simp only[tF,aSg,Bool.not_eq_true'] at h
  exact List.nodup_cons.2 ⟨(fun hm=>by rw[gC.2 hm] at h;cases h.1),lq h.2⟩
theorem wT (rl:List (Nat×Nat)): ∀(σ:St),(uF rl σ).map (·.1)=(bX σ).map fun j=>dD.o (jG rl j)
 | []=>rfl
 |(.o j,k)::r=>by simp[uF,bX,wT rl r]
 |(.t s,k)::r=>by simp[uF,bX,wT rl r]
theorem yX {rl:List (Nat×Nat)}: ∀{σ:St} {j:Nat} {k:K},(dD.o j,k)∈σ→(dD.o (jG rl j),ym rl k)∈uF rl σ
 |(.o i,x)::r,j,k,h=>by
  rcases aSw.1 h with h|h
  · cases h;exact List.mem_cons_self ..
  · exact List.mem_cons_of_mem _ (yX h)
 |(.t s,x)::r,j,k,h=>by
  rcases aSw.1 h with h|h
  · cases h
  · exact yX (σ:=r) h
def jN (rl:List (Nat×Nat)) (σin σout:St):Bool:=tF ((bX σout++nQ σin σout).map (jG rl))&&qR 1 σout
section
variable {rl:List (Nat×Nat)} {σ σin σout:St}
theorem jl: (wS rl σin σout).map (·.1)=((bX σout++nQ σin σout).map (jG rl)).map dD.o:=by
 simp[wS,wT,Function.comp_def]
theorem oi (h:jN rl σin σout=true): ((wS rl σin σout).map (·.1)).Nodup:=by
 simp only[jN,aSg] at h
 rw[jl]
 have:=lq h.1
 rw[List.nodup_iff_pairwise_ne] at this ⊢
 exact List.Pairwise.map _ (fun a b hab e=>hab (by cases e;rfl)) this
theorem oW (h:jN rl σin σout=true) {j:Nat} {k:K} (hj:aS σout (.o j)=some k):aS (hD σ (wS rl σin σout)) (.o (jG rl j))=some (ym rl k):=by
 rw[kM,aJ1 (oi h) (List.mem_append_left _ (yX (tE hj)))]
theorem aHh (h:jN rl σin σout=true) {j:Nat} (hj:j∈nQ σin σout):aS (hD σ (wS rl σin σout)) (.o (jG rl j))=some .dead:=by
 rw[kM,aJ1 (oi h) (List.mem_append_right _ (aSq.2 ⟨j,hj,rfl⟩))]
theorem aD3 {o:Nat} (ho: ∀j,j∈bX σout∨j∈nQ σin σout→jG rl j≠o):aS (hD σ (wS rl σin σout)) (.o o)=aS σ (.o o):=by
 rw[kM,wM]
 rw[jl]
 intro hm
 obtain⟨x,hx,e⟩:=aSq.1 hm
 cases e
 obtain⟨j,hj,rfl⟩:=aSq.1 hx
 exact ho j (List.mem_append.1 hj) rfl
theorem aHi (s:Nat):aS (hD σ (wS rl σin σout)) (.t s)=aS σ (.t s):=by
 rw[kM,wM]
 rw[jl]
 intro hm
 obtain⟨x,hx,e⟩:=aSq.1 hm
 cases e
def nL (rl:List (Nat×Nat)) (σout:St) (ι' ι:Nat→Value) (o:Nat):Value:=
 match(bX σout).find? fun j=>jG rl j==o with
 |some j=>ι' j
 |none=>ι o
theorem vS (h:jN rl σin σout=true) {ι' ι:Nat→Value} {j:Nat} (hj:j∈bX σout):nL rl σout ι' ι (jG rl j)=ι' j:=by
 unfold nL
 cases hq: (bX σout).find? fun i=>jG rl i==jG rl j with
 |none=>
  have:=List.find?_eq_none.1 hq j hj
  simp at this
 |some i=>
  have h1:=List.find?_some hq
  have h2:=List.mem_of_find?_eq_some hq
  simp only[jN,aSg] at h
  have:=cz h.1 i (List.mem_append_left _ h2) j (List.mem_append_left _ hj) (by simpa using h1)
  rw[this]
theorem aBb {ι' ι:Nat→Value} {o:Nat} (ho: ∀j,j∈bX σout→jG rl j≠o):nL rl σout ι' ι o=ι o:=by
 unfold nL
 cases hq: (bX σout).find? fun i=>jG rl i==o with
 |none=>rfl
 |some i=>exact absurd (by simpa using List.find?_some hq) (ho i (List.mem_of_find?_eq_some hq))
theorem aD4 (h:jN rl σin σout=true) {ι' ι:Nat→Value} {S' S'':Nat→Prop} {w':World} {c:C} {v:Value} (hS: (∀b,S' b→S'' b)∨aw c) (hc:CR σout ι' w' S' c v):
 CR (hD σ (wS rl σin σout)) (nL rl σout ι' ι) w' S'' (aD1 rl c) v:=by
 cases c with
 |d x=>
  rcases hS with hS|hS
  · exact DR.mono hS (fun _ _=>rfl) hc
  · exact DR.scalar hS hc
 |nil=>exact hc
 |own o n=>
  obtain⟨h1,h2⟩:=hc
  refine⟨h1,?_⟩
  rcases h2 with⟨e,es,rows,hl,hn,hv⟩|hl
  · exact .inl ⟨e,es,rows,oW h hl,hn,fun hh=>by rw[vS h (eR hl)];exact hv hh⟩
  · exact .inr (oW h hl)
 |pt o k=>
  obtain⟨h1,h2⟩:=hc
  refine⟨h1,?_⟩
  rcases h2 with⟨ty,cs,hl,b,hi,hv⟩|hl
  · exact .inl ⟨ty,_,oW h hl,b,by rw[vS h (eR hl)];exact hi,hv⟩
  · exact .inr (oW h hl)
 |pe o n i k=>
  obtain⟨h1,h2⟩:=hc
  refine⟨h1,?_⟩
  rcases h2 with⟨e,es,rows,hl,hn,hv⟩|hl
  · exact .inl ⟨e,es,rows,oW h hl,hn,fun hh=>by rw[vS h (eR hl)];exact hv hh⟩
  · exact .inr (oW h hl)
 |z o Q=>
  obtain⟨h1,h2⟩:=hc
  refine⟨h1,?_⟩
  rcases h2 with⟨Z,hl,hq⟩|hl
  · exact .inl ⟨Z,oW h hl,fun p hp=>hq p (by rw[vS h (eR hl)] at hp;exact hp)⟩
  · exact .inr (oW h hl)
 |rp cs=>
  rcases hS with hS|hS
  · obtain⟨ad,hv,hk⟩:=hc
    exact⟨ad,hv,fun k d hd=>by
     obtain⟨q1,u,q2,q3⟩:=hk k d hd
     exact⟨hS _ q1,u,q2,DR.mono hS (fun _ _=>rfl) q3⟩⟩
  · exact hS.elim
theorem aJ2 (h:jN rl σin σout=true) {ι' ι:Nat→Value} {S' S'':Nat→Prop} {w':World} {c:E} {v:Value} (hS: (∀b,S' b→S'' b)∨ey c) (hc:ER σout ι' w' S' c v):
 ER (hD σ (wS rl σin σout)) (nL rl σout ι' ι) w' S'' (aHg rl c) v:=by
 cases c with
 |c x=>exact aD4 h hS hc
 |agg cs=>
  obtain⟨vs,hv,hl,hk⟩:=hc
  refine⟨vs,hv,by simp[hl],fun k c u hc' hu=> ?_⟩
  rw[List.getElem?_map] at hc'
  cases hq:cs[k]? with
  |none=>rw[hq] at hc';cases hc'
  |some c0=>
   rw[hq] at hc';cases hc'
   exact aD4 h (hS.imp id fun hs=>hs c0 (List.mem_of_getElem? hq)) (hk k c0 u hq hu)
theorem aGh (h:jN rl σin σout=true) {ι' ι:Nat→Value} {S' S'':Nat→Prop} {w':World} {c:V} {v:Value} (hS: (∀b,S' b→S'' b)∨ez c) (hc:kU σout ι' w' S' c v):
 kU (hD σ (wS rl σin σout)) (nL rl σout ι' ι) w' S'' (aD2 rl c) v:=by
 cases c with
 |e x=>exact aJ2 h hS hc
 |tup cs=>
  obtain⟨vs,hv,hl,hk⟩:=hc
  refine⟨vs,hv,by simp[hl],fun k c u hc' hu=> ?_⟩
  rw[List.getElem?_map] at hc'
  cases hq:cs[k]? with
  |none=>rw[hq] at hc';cases hc'
  |some c0=>
   rw[hq] at hc';cases hc'
   exact aJ2 h (hS.imp id fun hs=>hs c0 (List.mem_of_getElem? hq)) (hk k c0 u hq hu)
theorem aO1 (h:jN rl σin σout=true) {ι' ι:Nat→Value} {S' S'':Nat→Prop} {w':World} {k:K} {p:Value} (hS: (∀b,S' b→S'' b)∨uG k) (hc:OR σout ι' w' S' p k):
 OR (hD σ (wS rl σin σout)) (nL rl σout ι' ι) w' S'' p (ym rl k):=by
 cases k with
 |v x=>trivial
 |dead=>trivial
 |cv _ _ _ _=>trivial
 |zone Z=>
  rcases hS with hS|hS
  · exact Z.mono hS (fun _ _=>rfl) (fun _ _=>rfl) hc
  · exact hS.elim
 |box ty cs=>
  obtain⟨b,vs,hp,hh,hsz,hk⟩:=hc
  refine⟨b,vs,hp,hh,by simp[hsz],fun k c u hc' hu=> ?_⟩
  rw[List.getElem?_map] at hc'
  cases hq:cs[k]? with
  |none=>rw[hq] at hc';cases hc'
  |some c0=>
   rw[hq] at hc';cases hc'
   exact aD4 h (hS.imp id fun hs=>hs c0 (List.mem_of_getElem? hq)) (hk k c0 u hq hu)
 |row e es rows=>
  rcases hc with hn|⟨g,off,cap,cur,fz,hp,hh,hfz,h1,h2,h3,h4⟩
  · exact .inl hn
  · refine .inr ⟨g,off,cap,cur,fz,hp,hh,hfz,h1,h2,h3,fun i r hr=>⟨(h4 i r hr).1,fun k d hd=> ?_⟩⟩
    obtain⟨u,hu,hdr⟩:=(h4 i r hr).2 k d hd
    refine⟨u,hu,?_⟩
    rcases hS with hS|hS
    · exact DR.mono hS (fun _ _=>rfl) hdr
    · exact DR.scalar (hS r (List.mem_of_getElem? hr) d (List.mem_of_getElem? hd)) hdr
end
set_option linter.unusedSimpArgs false
theorem db {l:List (Nat×K)} {o:Nat} {k:K} (h:aS (pU l) (.o o)=some k): (o,k)∈l:=by
 induction l with
 |nil=>cases h
 |cons p r ih=>
  obtain⟨i,x⟩:=p
  simp only[pU,List.map_cons,aS] at h
  split at h
  · rename_i e;cases e;cases h;exact List.mem_cons_self ..
  · exact List.mem_cons_of_mem _ (ih h)
theorem yn {l:List (Nat×K)} {s:Nat}:aS (pU l) (.t s)=none:=by
 induction l with
 |nil=>rfl
 |cons p r ih=>simp only[pU,List.map_cons,aS];rw[if_neg (by simp)];exact ih
theorem tH {Xs:List V} {r:List (Nat×K)} {s:Nat} {k:K} (h:aS (eH 0 Xs++pU r) (.t s)=some k): ∃X,Xs[s]? =some X∧k= .v X:=by
 rcases sH 0 Xs (pU r) s k h with⟨X,h1,h2,_,_⟩|h
 · exact⟨X,by simpa using h1,h2⟩
 · rw[yn] at h;cases h
theorem yE {Xs:List V} {σ:St} {s:Nat} {k:K} (h:aS (eH 0 Xs++dO σ) (.t s)=some k): ∃X,Xs[s]? =some X∧k= .v X:=by
 have hlt: ∀(r:St),aS (dO r) (.t s)=none:=by
  intro r
  induction r with
  |nil=>rfl
  |cons p r ih=>
   obtain⟨l,k'⟩:=p
   cases l with
   |t n=>exact ih
   |o n=>simp only[dO,aS];rw[if_neg (by simp)];exact ih
 rcases sH 0 Xs (dO σ) s k h with⟨X,h1,h2,_,_⟩|h
 · exact⟨X,by simpa using h1,h2⟩
 · rw[hlt] at h;cases h
theorem aHj {rl:List (Nat×Nat)} {k:K}: (ym rl k).live↔k.live:=by cases k<;>simp[ym,K.live]
theorem aL0 {rl:List (Nat×Nat)} {p q:Value} {k k':K} (h:lZ p q k k'):lZ p q k (ym rl k'):=by
 cases k<;>cases k'<;>simp only[lZ,ym] at h ⊢ <;>exact h
theorem yY {j:Nat} {l l':List Nat}:j∈(l.filter fun i=> !iH i l')↔j∈l∧j∉l':=by
 rw[List.mem_filter]
 refine and_congr_right fun _=> ?_
 rw[Bool.not_eq_true',← Bool.not_eq_true,gC]
section
variable {P:Program} {f:FuncId} {n:Nat} {σin σout:St} {rl:List (Nat×Nat)} {bor:List Nat} {σ0:St} {Xs:List V} {Ra:List (dD×Option K)} {robj:List (Nat×K)}
theorem aGi (hm:nK (eH 0 Xs++pU robj) σin rl bor) (hk:jN rl σin σout=true) (hb:bor=[]∨mA σout)
 {P:Program} {cx:Cx P} {σ:St} {ι ν:Nat→Value} {S:Nat→Prop} {a:Act} {w:World} (hr:bJ (lp Ra robj rl σin σout) σ) (hw:RW cx σ ι S a w)
 (hνr: ∀s X,Xs[s]? =some X→kU σ ι w S X (ν s))
 {ι':Nat→Value} {S':Nat→Prop} {w':World} {v:Value} (hp:aJ0 σin (fun j=>ι (jG rl j)) (oU (eH 0 Xs++dO σ) ι bor S) w σout ι' S' w' v):
 RW cx (hD σ (wS rl σin σout)) (nL rl σout ι' ι) (fun b=>S b∨(bor=[]∧S' b)) a w':=by
 have hlo: ∀o,aS (eH 0 Xs++dO σ) (.o o)=aS σ (.o o):=fun o=>by rw[jZ,oV]
 have hmut: ∀o b,jY (eH 0 Xs++dO σ) ι o b↔jY σ ι o b:=fun o b=>by unfold jY;rw[hlo]
 have hobj: ∀o k,aS (eH 0 Xs++pU robj) (.o o)=some k→aS σ (.o o)=some k:=fun o k h=>by
  rw[jZ] at h
  have hmem:=db h
  exact hr (.o o,some k) (List.mem_append_left _ (List.mem_append_right _ (aSq.2 ⟨(o,k),hmem,rfl⟩)))
 have hsub: ∀l k,aS (eH 0 Xs++pU robj) l=some k→aS (eH 0 Xs++dO σ) l=some k:=fun l k h=>by
  cases l with
  |o o=>rw[hlo];exact hobj o k h
  |t s=>
   obtain⟨X,h1,rfl⟩:=tH h
   have hs:=(aSm.1 h1).1
   rw[nZ 0 Xs _ s (aSj _) (by omega)];simp[h1]
 have hin: ∀j k',aS σin (.o j)=some k'→ ∃k,aS σ (.o (jG rl j))=some k∧mK (eH 0 Xs++pU robj) σin rl bor k k':=fun j k' h=>by
  obtain⟨k,h1,h2⟩:=hm.ids j k' h
  exact⟨k,hobj _ _ h1,h2⟩
 have hmin: ∀j b,jY σin (fun j=>ι (jG rl j)) j b→jY σ ι (jG rl j) b:=fun j b h=>(hmut _ _).1 (hm.mut hsub h)
 have hmlt: ∀o b,jY σ ι o b→b<w.heap.size:=fun o b ⟨⟨k0,hk,hl⟩,hb⟩=>OR.lt (hw.vr.objs o k0 hk) hl hb
 have hnew: ∀j,j∈bX σout→j∈bX σin∨aS σ (.o (jG rl j))=none:=fun j hj=>by
  by_cases h:j∈bX σin
  · exact .inl h
  · exact .inr (hr (.o (jG rl j),none) (List.mem_append_right _ (aSq.2 ⟨j,yY.2 ⟨hj,h⟩,rfl⟩)))
 have hall: ∀j,j∈bX σin→j∈bX σout∨j∈nQ σin σout:=fun j hj=>by
  by_cases h:j∈bX σout
  · exact .inl h
  · exact .inr (yY.2 ⟨hj,h⟩)
 have hgive:bor=[]→ ∀b,oU (eH 0 Xs++dO σ) ι bor S b→S b:=fun e b h=>by
  rcases h with h|⟨o,ho,_⟩
  · exact h
  · rw[e] at ho;cases ho
 have cases_: ∀o,(∃j,j∈bX σout∧jG rl j=o∧nL rl σout ι' ι o=ι' j∧ ∃k,aS σout (.o j)=some k∧aS (hD σ (wS rl σin σout)) (.o o)=some (ym rl k))∨
  aS (hD σ (wS rl σin σout)) (.o o)=some .dead∨
  ((∀j,j∈bX σout∨j∈nQ σin σout→jG rl j≠o)∧aS (hD σ (wS rl σin σout)) (.o o)=aS σ (.o o)∧nL rl σout ι' ι o=ι o):=fun o=>by
  by_cases h1: ∃j,j∈bX σout∧jG rl j=o
  · obtain⟨j,hj,rfl⟩:=h1
    obtain⟨k,hkk⟩:=oT hj
    exact .inl ⟨j,hj,rfl,vS hk hj,k,hkk,oW hk hkk⟩
  · by_cases h2: ∃j,j∈nQ σin σout∧jG rl j=o
    · obtain⟨j,hj,rfl⟩:=h2
      exact .inr (.inl (aHh hk hj))
    · have hne: ∀j,j∈bX σout∨j∈nQ σin σout→jG rl j≠o:=fun j hj e=>by
       rcases hj with hj|hj
       · exact h1 ⟨j,hj,e⟩
       · exact h2 ⟨j,hj,e⟩
      exact .inr (.inr ⟨hne,aD3 hne,aBb fun j hj=>hne j (.inl hj)⟩)
 have keepB: ∀b,b<w.heap.size→(∀j,¬jY σin (fun j=>ι (jG rl j)) j b)→w'.heap[b]? =w.heap[b]?:=fun b hb hn=>hp.fr.block b hb fun⟨j,hj⟩=>hn j hj
 have st:pR σ ι S w (hD σ (wS rl σin σout)) (nL rl σout ι' ι) (fun b=>S b∨(bor=[]∧S' b)) w':=by
  refine⟨fun b h=> .inl h,fun b h=>keepB b (hw.vr.sz b h) fun j hj=>hw.vr.mutS _ b (hmin j b hj) h,fun o k hko=> ?_⟩
  rcases cases_ o with⟨j,hj,e,hι,kout,h1,h2⟩|h2|⟨hne,h2,hι⟩
  · refine⟨_,h2,?_⟩
    rw[hι]
    subst e
    rcases hnew j hj with hji|hab
    · obtain⟨kin,hkin⟩:=oT hji
      obtain⟨k1,hk1,hmk⟩:=hin j kin hkin
      rw[hko] at hk1;cases hk1
      have hev:=hp.io j kin kout hkin h1
      exact aL0 (aO0 hmk hev)
    · rw[hab] at hko;cases hko
  · exact⟨_,h2,by cases k<;>simp[lZ]⟩
  · exact⟨k,by rw[h2];exact hko,by rw[hι];exact lZ.refl' _ _⟩
 have hSK: ∀{l:dD} {k:K},aS σout l=some k→(∀b,S' b→(S b∨(bor=[]∧S' b)))∨uG k:=fun{l k} h=>by
  rcases hb with e|hs
  · exact .inl fun b hb=> .inr ⟨e,hb⟩
  · exact .inr (hs (l,k) (tE h))
 have mutCases: ∀o b,jY (hD σ (wS rl σin σout)) (nL rl σout ι' ι) o b→(∃j,j∈bX σout∧jG rl j=o∧jY σout ι' j b∧(w.heap.size≤b∨ ∃j',j'∈bX σin∧jY σ ι (jG rl j') b))∨((∀j,j∈bX σout∨j∈nQ σin σout→jG rl j≠o)∧jY σ ι o b):=fun o b ⟨⟨k,hko,hl⟩,hbl⟩=>by
  rcases cases_ o with⟨j,hj,e,hι,kout,h1,h2⟩|h2|⟨hne,h2,hι⟩
  · rw[h2] at hko;cases hko
    rw[hι] at hbl
    have hm2:jY σout ι' j b:=⟨⟨kout,h1,aHj.1 hl⟩,hbl⟩
    refine .inl ⟨j,hj,e,hm2,(hp.own j b hm2).imp id fun⟨o',h⟩=>⟨o',?_,hmin o' b h⟩⟩
    obtain⟨⟨k',hk',_⟩,_⟩:=h
    exact eR hk'
  · rw[h2] at hko;cases hko;exact hl.elim
  · rw[h2] at hko;rw[hι] at hbl
    exact .inr ⟨hne,⟨k,hko,hl⟩,hbl⟩
 refine⟨⟨fun s x hx=> ?_,fun o k hko=> ?_,fun o b hmu hS=> ?_,fun o o' b hmu hmu'=> ?_,fun b hb=> ?_⟩,hw.size,hw.defers,hw.fr.trans hp.fr fun x hx ⟨j,hj⟩=> ?_,fun o b hmu=> ?_,fun b hS=> ?_,fun o k hko=> ?_⟩
 · rw[aHi] at hx
   exact pS.step st (hw.vr.slots s x hx)
 · rcases cases_ o with⟨j,hj,e,hι,kout,h1,h2⟩|h2|⟨hne,h2,hι⟩
   · rw[h2] at hko;cases hko
     rw[hι]
     exact aO1 hk (hSK h1) (hp.vr.objs j kout h1)
   · rw[h2] at hko;cases hko;trivial
   · rw[h2] at hko;rw[hι]
     by_cases hl:k.live
     · refine OR.step st (fun b hb=> ?_) (hw.vr.objs o k hko)
       have hmu:jY σ ι o b:=⟨⟨k,hko,hl⟩,hb⟩
       refine keepB b (hmlt o b hmu) fun j hj=> ?_
       have:=hw.vr.inj _ _ b (hmin j b hj) hmu
       obtain⟨⟨k',hk',_⟩,_⟩:=hj
       exact hne j (hall j (eR hk')) this
     · cases k<;>simp[K.live] at hl<;>trivial
 · rcases mutCases o b hmu with⟨j,hj,e,hm2,hown⟩|⟨hne,hm2⟩
   · rcases hS with hS|⟨_,hS⟩
     · rcases hown with h|h
       · have:=hw.vr.sz b hS;omega
       · obtain⟨j',_,h⟩:=h;exact hw.vr.mutS _ b h hS
     · exact hp.vr.mutS j b hm2 hS
   · rcases hS with hS|⟨e,hS⟩
     · exact hw.vr.mutS o b hm2 hS
     · rcases hp.rd b hS with h|h|⟨o',h⟩
       · exact hw.vr.mutS o b hm2 (hgive e b h)
       · have:=hmlt o b hm2;omega
       · have h1:=hw.vr.inj _ _ b (hmin o' b h) hm2
         obtain⟨⟨k',hk',_⟩,_⟩:=h
         exact hne o' (hall o' (eR hk')) h1
 · rcases mutCases o b hmu with⟨j,hj,e,hm2,hown⟩|⟨hne,hm2⟩
   · rcases mutCases o' b hmu' with⟨j',hj',e',hm2',hown'⟩|⟨hne',hm2'⟩
     · rw[← e,← e',hp.vr.inj j j' b hm2 hm2']
     · rcases hown with h|⟨j2,hj2,h⟩
       · have:=hmlt o' b hm2';omega
       · exact absurd (hw.vr.inj _ _ b h hm2') (hne' j2 (hall j2 hj2))
   · rcases mutCases o' b hmu' with⟨j',hj',e',hm2',hown'⟩|⟨hne',hm2'⟩
     · rcases hown' with h|⟨j2,hj2,h⟩
       · have:=hmlt o b hm2;omega
       · exact absurd (hw.vr.inj _ _ b h hm2) (hne j2 (hall j2 hj2))
     · exact hw.vr.inj o o' b hm2 hm2'
 · rcases hb with h|⟨_,h⟩
   · exact Nat.lt_of_lt_of_le (hw.vr.sz b h) hp.fr.size
   · exact hp.vr.sz b h
 · rcases hw.own _ x (hmin j x hj) with h|h
   · omega
   · exact h
 · rcases mutCases o b hmu with⟨j,hj,e,hm2,hown⟩|⟨hne,hm2⟩
   · rcases hown with h|h
     · exact .inl (Nat.le_trans hw.fr.size h)
     · obtain⟨j2,_,h⟩:=h;exact hw.own _ b h
   · exact hw.own o b hm2
 · rcases hS with h|⟨e,h⟩
   · exact hw.rd b h
   · rcases hp.rd b h with h|h|⟨o',h⟩
     · exact hw.rd b (hgive e b h)
     · exact .inr (.inl (Nat.le_trans hw.fr.size h))
     · exact .inr (hw.own _ b (hmin o' b h))
 · obtain⟨k',hk',hev⟩:=hw.io o k hko
   obtain⟨k2,hk2,hev2⟩:=st.evo o k' hk'
   exact⟨k2,hk2,hev.trans hev2⟩
theorem oH (σ:St) (W W':List (dD×K)):hD σ (W++W')=hD (hD σ W) W':=by
 induction W generalizing σ with
 |nil=>rfl
 |cons p r ih=>exact ih _
theorem aBc (hs:Spec P f n σin σout) {o:Oper} {c:Call} (ho:o.op= .call c) (hc:c.callee= .value (.func f)) (hx:evA σ0 c.args.toList=some (Xs,Ra)) (hn:Xs.length=n)
 (hm:nK (eH 0 Xs++pU robj) σin rl bor) (hk:jN rl σin σout=true) (hb:bor=[]∨mA σout):
 wG P o (lp Ra robj rl σin σout) (sC rl σin σout o.dst):=by
 intro cx σ ι S a w hr hw hd next Q hnext
 obtain⟨⟨fn,hf,hbody,hname⟩,hcall⟩:=hs
 obtain⟨hlen,hargs⟩:=jk hw hx hr.left.left
 let args:Array Value:=c.args.map a.eval
 let ν:Nat→Value:=fun i=>(args[i]?).getD undef
 have hsz:args.size=n:=by show(c.args.map a.eval).size=n;rw[Array.size_map,← hn,hlen,Array.length_toList]
 have hargν: ∀i,i<n→args[i]? =some (ν i):=fun i hi=>by
  show args[i]? =some ((args[i]?).getD undef)
  rw[Array.getElem?_eq_getElem (by omega)];rfl
 have hνr: ∀s X,Xs[s]? =some X→kU σ ι w S X (ν s):=fun s X hX=>by
  obtain⟨x,h1,h2⟩:=hargs s X hX
  have:ν s=a.eval x:=by
   show((c.args.map a.eval)[s]?).getD undef=a.eval x
   rw[Array.getElem?_toList] at h1
   rw[Array.getElem?_map,h1];rfl
  rw[this];exact h2
 have hlo: ∀o,aS (eH 0 Xs++dO σ) (.o o)=aS σ (.o o):=fun o=>by rw[jZ,oV]
 have st:pR σ ι S w (eH 0 Xs++dO σ) ι S w:=⟨fun _ h=>h,fun _ _=>rfl,fun o k hk=>⟨k,by rw[hlo];exact hk,lZ.refl' _ _⟩⟩
 have hmut: ∀o b,jY (eH 0 Xs++dO σ) ι o b↔jY σ ι o b:=fun o b=>by unfold jY;rw[hlo]
 have hvr0:VR (eH 0 Xs++dO σ) ι ν S w:=by
  refine⟨fun s x hx=> ?_,fun o k hk=>OR.step st (fun _ _=>rfl) (hw.vr.objs o k (by rw[← hlo];exact hk)),fun o b q=>hw.vr.mutS o b ((hmut o b).1 q),fun o o' b q q'=>hw.vr.inj o o' b ((hmut o b).1 q) ((hmut o' b).1 q'),hw.vr.sz⟩
  obtain⟨X,h1,h2⟩:=yE hx
  cases h2
  exact kU.step st (hνr s _ h1)
 have hsub: ∀l k,aS (eH 0 Xs++pU robj) l=some k→aS (eH 0 Xs++dO σ) l=some k:=fun l k h=>by
  cases l with
  |o o=>
   rw[hlo]
   rw[jZ] at h
   exact hr (.o o,some k) (List.mem_append_left _ (List.mem_append_right _ (aSq.2 ⟨(o,k),db h,rfl⟩)))
  |t s=>
   obtain⟨X,h1,rfl⟩:=tH h
   have hs:=(aSm.1 h1).1
   rw[nZ 0 Xs _ s (aSj _) (by omega)];simp[h1]
 have hvr1:=tG hm hsub hvr0
 have hgb:GB P w fun b=> ∃o,jY σin (fun j=>ι (jG rl j)) o b:=fun w2 h2=>cx.gb w2 (hw.fr.trans h2 fun x hx ⟨o,ho⟩=>by
  rcases hw.own _ x ((hmut _ _).1 (hm.mut hsub ho)) with h3|h3
  · omega
  · exact h3)
 have hcl:=hcall _ ν _ w args hgb hvr1 hsz hargν
 obtain⟨callee,cargs,argTypes⟩:=c
 dsimp only at hc
 subst hc
 have hbd: ∃cd,fn.body=some cd:=by
  cases hq:fn.body with
  |none=>rw[hq] at hbody;cases hbody
  |some cd=>exact⟨cd,rfl⟩
 obtain⟨cd,hbd⟩:=hbd
 have hrun: (execOp a.eval o).run P w= .ok (.enter f args) w:=by
  have h1:=MuLone.run_callFunc_enter (P:=P) hf hname hbd args w
  have e: (execOp a.eval o).run P w=(callFunc f (args++ #[])).run P w:=by
   simp[execOp,ho,resolve,invoke,Deferred.ofValue,args,Act.eval]
  rw[e,Array.append_empty];exact h1
 unfold Oper.wp
 rw[hrun,Oper.upon_enter]
 intro cs
 obtain⟨e,w',fr,⟨v,ι',S',rfl,hpost⟩,hcomes⟩:=hcl cs
 refine⟨_,w',fr,?_,hcomes⟩
 dsimp only
 have hrw:=aGi (Ra:=Ra) hm hk hb hr hw hνr hpost
 have hSK: ∀{l:dD} {k:K},aS σout l=some k→(∀b,S' b→(S b∨(bor=[]∧S' b)))∨uG k:=fun{l k} h=>by
  rcases hb with e|hs
  · exact .inl fun b hb=> .inr ⟨e,hb⟩
  · exact .inr (hs (l,k) (tE h))
 cases hdst:o.dst with
 |none=>
  refine hnext (nL rl σout ι' ι) (fun b=>S b∨(bor=[]∧S' b)) _ w' ?_
  rw[hdst]
  simp only[sC,tt,List.append_nil]
  exact hrw
 |some d=>
  have hd':=hd d hdst
  cases hq:aS σout (.t 0) with
  |none=>
   refine hnext (nL rl σout ι' ι) (fun b=>S b∨(bor=[]∧S' b)) _ w' ?_
   rw[hdst]
   simp only[sC,tt,oH,hq,hD]
   exact hrw.putDead hd' v
  |some k=>
   cases k with
   |v X=>
    refine hnext (nL rl σout ι' ι) (fun b=>S b∨(bor=[]∧S' b)) _ w' ?_
    rw[hdst]
    simp only[sC,tt,oH,hq,hD]
    exact hrw.put hd' (aGh hk (hSK hq) (hpost.vr.slots 0 (.v X) hq))
   |_=>
    refine hnext (nL rl σout ι' ι) (fun b=>S b∨(bor=[]∧S' b)) _ w' ?_
    rw[hdst]
    simp only[sC,tt,oH,hq,hD]
    exact hrw.putDead hd' v
theorem aD5 {σ:St} {c:List Operand} (hx:evA σ c=some (Xs,Ra)) (h1: ∀p∈robj,aS σ (.o p.1)=some p.2) (h2: ∀j∈nE σin σout,aS σ (.o (jG rl j))=none):bJ (lp Ra robj rl σin σout) σ:=by
 intro p hp
 rcases List.mem_append.1 hp with hp|hp
 · rcases List.mem_append.1 hp with hp|hp
   · exact sV hx p hp
   · obtain⟨q,hq,rfl⟩:=aSq.1 hp
     exact h1 q hq
 · obtain⟨j,hj,rfl⟩:=aSq.1 hp
   exact h2 j hj
end
end Go.Ab
namespace Go.Proofs.YtcbjphphppaoiaaGreatDoor
open Int renaming toNat_natCast→aSd
open List renaming length_append→aSe,length_nil→aSh,length_cons→aSi,length_take→aSk,getD_eq_getElem?_getD→aSl,getElem?_eq_some_iff→aSm,getElem?_eq_getElem→aSn,range→aSp,mem_map→aSq,length_drop→aSr,mem_singleton→aSs,all_eq_true→aSu,take_length→aSv,mem_cons→aSw
open Nat renaming le_of_ble_eq_true→aSf,zero_le→aSj,le_refl→aSo,add_mul→aSt
open Bool renaming and_eq_true→aSg
open Go Go.Ab Go.RowKit
set_option linter.unusedVariables false
abbrev ti2:TI:=⟨.int .i64,1,8,[.d (.i 0)]⟩
abbrev ti3:TI:=⟨.int .i64,1,8,[.d (.i 0)]⟩
abbrev ti4:TI:=⟨.bool,1,1,[.d (.b false)]⟩
abbrev ti5:TI:=⟨.int .u8,1,1,[.d (.u 0)]⟩
abbrev ti6:TI:=⟨.int .u8,1,1,[.d (.u 0)]⟩
abbrev ti7:TI:=⟨.st [(0,2),(1,3),(2,4),(3,6)],4,24,[.d (.i 0),.d (.i 0),.d (.b false),.d (.u 0)]⟩
abbrev ti8:TI:=⟨.st [(0,2),(1,3),(2,4),(3,6)],4,24,[.d (.i 0),.d (.i 0),.d (.b false),.d (.u 0)]⟩
abbrev ti9:TI:=⟨.str,1,16,[.d (.s [])]⟩
abbrev aQt:TI:=⟨.str,1,16,[.d (.s [])]⟩
abbrev aQu:TI:=⟨.str,1,16,[.d (.s [])]⟩
abbrev aQv:TI:=⟨.int .u64,1,8,[.d (.x (.int .u64 0))]⟩
abbrev aQw:TI:=⟨.st [(0,9),(1,12)],2,24,[.d (.s []),.d (.x (.int .u64 0))]⟩
abbrev aQx:TI:=⟨.st [(0,9),(1,12)],2,24,[.d (.s []),.d (.x (.int .u64 0))]⟩
abbrev aQy:TI:=⟨.ptr 220,1,8,[.d (.x (.pointer none))]⟩
abbrev aQz:TI:=⟨.ptr 223,1,8,[.d (.x (.pointer none))]⟩
abbrev aQ0:TI:=⟨.ptr 232,1,8,[.d (.x (.pointer none))]⟩
abbrev aQ1:TI:=⟨.st [(0,17)],1,8,[.d (.x (.pointer none))]⟩
abbrev aQ2:TI:=⟨.st [(0,17)],1,8,[.d (.x (.pointer none))]⟩
abbrev aQ3:TI:=⟨.int .i32,1,4,[.d (.x (.int .i32 0))]⟩
abbrev aO2:TI:=⟨.sl 5,1,24,[.nil]⟩
abbrev aQ4:TI:=⟨.sl 29,1,24,[.nil]⟩
abbrev aQ5:TI:=⟨.sl 39,1,24,[.nil]⟩
abbrev aQ6:TI:=⟨.st [(0,3),(1,3),(2,3),(3,23),(4,24),(5,23)],6,96,[.d (.i 0),.d (.i 0),.d (.i 0),.nil,.nil,.nil]⟩
abbrev aQ7:TI:=⟨.st [(0,3),(1,3),(2,3),(3,23),(4,24),(5,23)],6,96,[.d (.i 0),.d (.i 0),.d (.i 0),.nil,.nil,.nil]⟩
abbrev aQ8:TI:=⟨.st [(0,3),(1,3),(2,3),(3,3),(4,9)],5,48,[.d (.i 0),.d (.i 0),.d (.i 0),.d (.i 0),.d (.s [])]⟩
abbrev aL1:TI:=⟨.st [(0,3),(1,3),(2,3),(3,3),(4,9)],5,48,[.d (.i 0),.d (.i 0),.d (.i 0),.d (.i 0),.d (.s [])]⟩
abbrev aQ9:TI:=⟨.st [(0,3),(1,3),(2,3)],3,24,[.d (.i 0),.d (.i 0),.d (.i 0)]⟩
abbrev aL2:TI:=⟨.st [(0,3),(1,3),(2,3)],3,24,[.d (.i 0),.d (.i 0),.d (.i 0)]⟩
abbrev aRa:TI:=⟨.sl 9,1,24,[.nil]⟩
abbrev aRb:TI:=⟨.ptr 92,1,8,[.d (.x (.pointer none))]⟩
abbrev aRc:TI:=⟨.sl 3,1,24,[.nil]⟩
abbrev aRd:TI:=⟨.st [(0,9),(1,3)],2,24,[.d (.s []),.d (.i 0)]⟩
abbrev aRe:TI:=⟨.st [(0,9),(1,3)],2,24,[.d (.s []),.d (.i 0)]⟩
abbrev aRf:TI:=⟨.sl 136,1,24,[.nil]⟩
abbrev aRg:TI:=⟨.st [(0,3),(1,4),(2,76),(4,77)],5,64,[.d (.i 0),.d (.b false),.d (.s []),.d (.i 0),.nil]⟩
abbrev aRh:TI:=⟨.st [(0,3),(1,4),(2,76),(4,77)],5,64,[.d (.i 0),.d (.b false),.d (.s []),.d (.i 0),.nil]⟩
abbrev aRi:TI:=⟨.sl 79,1,24,[.nil]⟩
abbrev aRj:TI:=⟨.sl 4,1,24,[.nil]⟩
abbrev aRk:TI:=⟨.sl 175,1,24,[.nil]⟩
abbrev aRl:TI:=⟨.st [(0,3),(1,80),(2,81),(3,82),(4,23),(5,23)],6,128,[.d (.i 0),.nil,.nil,.nil,.nil,.nil]⟩
abbrev aRm:TI:=⟨.st [(0,3),(1,80),(2,81),(3,82),(4,23),(5,23)],6,128,[.d (.i 0),.nil,.nil,.nil,.nil,.nil]⟩
abbrev aRn:TI:=⟨.sl 140,1,24,[.nil]⟩
abbrev aRo:TI:=⟨.st [(0,52),(1,84),(7,85)],8,160,[.d (.x (.pointer none)),.d (.i 0),.nil,.nil,.nil,.nil,.nil,.nil]⟩
abbrev aRp:TI:=⟨.st [(0,52),(1,84),(7,85)],8,160,[.d (.x (.pointer none)),.d (.i 0),.nil,.nil,.nil,.nil,.nil,.nil]⟩
abbrev aRq:TI:=⟨.ptr 87,1,8,[.d (.x (.pointer none))]⟩
abbrev aRr:TI:=⟨.st [(0,22),(1,3)],2,32,[.nil,.d (.i 0)]⟩
abbrev aRs:TI:=⟨.st [(0,22),(1,3)],2,32,[.nil,.d (.i 0)]⟩
abbrev aNq:TI:=⟨.sl 155,1,24,[.nil]⟩
abbrev aNr:TI:=⟨.st [(0,3),(1,3),(2,3),(3,3),(4,3),(5,134)],6,64,[.d (.i 0),.d (.i 0),.d (.i 0),.d (.i 0),.d (.i 0),.nil]⟩
abbrev aNs:TI:=⟨.st [(0,3),(1,3),(2,3),(3,3),(4,3),(5,134)],6,64,[.d (.i 0),.d (.i 0),.d (.i 0),.d (.i 0),.d (.i 0),.nil]⟩
abbrev aNt:TI:=⟨.st [(0,3),(1,3),(2,3),(3,3),(4,3),(5,3),(6,3),(7,3),(8,3),(9,9)],10,88,[.d (.i 0),.d (.i 0),.d (.i 0),.d (.i 0),.d (.i 0),.d (.i 0),.d (.i 0),.d (.i 0),.d (.i 0),.d (.s [])]⟩
abbrev aNu:TI:=⟨.st [(0,3),(1,3),(2,3),(3,3),(4,3),(5,3),(6,3),(7,3),(8,3),(9,9)],10,88,[.d (.i 0),.d (.i 0),.d (.i 0),.d (.i 0),.d (.i 0),.d (.i 0),.d (.i 0),.d (.i 0),.d (.i 0),.d (.s [])]⟩
abbrev aNv:TI:=⟨.arr 24 5,24,24,[.d (.u 0),.d (.u 0),.d (.u 0),.d (.u 0),.d (.u 0),.d (.u 0),.d (.u 0),.d (.u 0),.d (.u 0),.d (.u 0),.d (.u 0),.d (.u 0),.d (.u 0),.d (.u 0),.d (.u 0),.d (.u 0),.d (.u 0),.d (.u 0),.d (.u 0),.d (.u 0),.d (.u 0),.d (.u 0),.d (.u 0),.d (.u 0)]⟩
abbrev aNw:TI:=⟨.int .u64,1,8,[.d (.x (.int .u64 0))]⟩
abbrev aNx:TI:=⟨.st [(0,3),(1,9)],2,24,[.d (.i 0),.d (.s [])]⟩
abbrev aNy:TI:=⟨.st [(0,3),(1,9)],2,24,[.d (.i 0),.d (.s [])]⟩
abbrev aNz:TI:=⟨.int .u64,1,8,[.d (.x (.int .u64 0))]⟩
abbrev aN0:TI:=⟨.arr 20 146,20,160,[.d (.x (.int .u64 0)),.d (.x (.int .u64 0)),.d (.x (.int .u64 0)),.d (.x (.int .u64 0)),.d (.x (.int .u64 0)),.d (.x (.int .u64 0)),.d (.x (.int .u64 0)),.d (.x (.int .u64 0)),.d (.x (.int .u64 0)),.d (.x (.int .u64 0)),.d (.x (.int .u64 0)),.d (.x (.int .u64 0)),.d (.x (.int .u64 0)),.d (.x (.int .u64 0)),.d (.x (.int .u64 0)),.d (.x (.int .u64 0)),.d (.x (.int .u64 0)),.d (.x (.int .u64 0)),.d (.x (.int .u64 0)),.d (.x (.int .u64 0))]⟩
abbrev aN1:TI:=⟨.int .u32,1,4,[.d (.x (.int .u32 0))]⟩
abbrev aN2:TI:=⟨.st [(0,5),(1,5)],2,2,[.d (.u 0),.d (.u 0)]⟩
abbrev aN3:TI:=⟨.st [(0,5),(1,5)],2,2,[.d (.u 0),.d (.u 0)]⟩
abbrev aN4:TI:=⟨.arr 16 171,32,32,[.d (.u 0),.d (.u 0),.d (.u 0),.d (.u 0),.d (.u 0),.d (.u 0),.d (.u 0),.d (.u 0),.d (.u 0),.d (.u 0),.d (.u 0),.d (.u 0),.d (.u 0),.d (.u 0),.d (.u 0),.d (.u 0),.d (.u 0),.d (.u 0),.d (.u 0),.d (.u 0),.d (.u 0),.d (.u 0),.d (.u 0),.d (.u 0),.d (.u 0),.d (.u 0),.d (.u 0),.d (.u 0),.d (.u 0),.d (.u 0),.d (.u 0),.d (.u 0)]⟩
abbrev aN5:TI:=⟨.st [(0,3),(1,3),(2,9),(3,4)],4,40,[.d (.i 0),.d (.i 0),.d (.s []),.d (.b false)]⟩
abbrev aN6:TI:=⟨.st [(0,3),(1,3),(2,9),(3,4)],4,40,[.d (.i 0),.d (.i 0),.d (.s []),.d (.b false)]⟩
abbrev aN7:TI:=⟨.st [(0,3),(1,3),(2,3),(3,3),(4,3),(5,3),(6,3),(7,3),(8,3),(9,9)],10,88,[.d (.i 0),.d (.i 0),.d (.i 0),.d (.i 0),.d (.i 0),.d (.i 0),.d (.i 0),.d (.i 0),.d (.i 0),.d (.s [])]⟩
abbrev aN8:TI:=⟨.st [(0,3),(1,3),(2,3),(3,3),(4,3),(5,3),(6,3),(7,3),(8,3),(9,9)],10,88,[.d (.i 0),.d (.i 0),.d (.i 0),.d (.i 0),.d (.i 0),.d (.i 0),.d (.i 0),.d (.i 0),.d (.i 0),.d (.s [])]⟩
abbrev aN9:TI:=⟨.sl 178,1,24,[.nil]⟩
abbrev aOa:TI:=⟨.arr 32 5,32,32,[.d (.u 0),.d (.u 0),.d (.u 0),.d (.u 0),.d (.u 0),.d (.u 0),.d (.u 0),.d (.u 0),.d (.u 0),.d (.u 0),.d (.u 0),.d (.u 0),.d (.u 0),.d (.u 0),.d (.u 0),.d (.u 0),.d (.u 0),.d (.u 0),.d (.u 0),.d (.u 0),.d (.u 0),.d (.u 0),.d (.u 0),.d (.u 0),.d (.u 0),.d (.u 0),.d (.u 0),.d (.u 0),.d (.u 0),.d (.u 0),.d (.u 0),.d (.u 0)]⟩
abbrev aOb:TI:=⟨.arr 64 5,64,64,[.d (.u 0),.d (.u 0),.d (.u 0),.d (.u 0),.d (.u 0),.d (.u 0),.d (.u 0),.d (.u 0),.d (.u 0),.d (.u 0),.d (.u 0),.d (.u 0),.d (.u 0),.d (.u 0),.d (.u 0),.d (.u 0),.d (.u 0),.d (.u 0),.d (.u 0),.d (.u 0),.d (.u 0),.d (.u 0),.d (.u 0),.d (.u 0),.d (.u 0),.d (.u 0),.d (.u 0),.d (.u 0),.d (.u 0),.d (.u 0),.d (.u 0),.d (.u 0),.d (.u 0),.d (.u 0),.d (.u 0),.d (.u 0),.d (.u 0),.d (.u 0),.d (.u 0),.d (.u 0),.d (.u 0),.d (.u 0),.d (.u 0),.d (.u 0),.d (.u 0),.d (.u 0),.d (.u 0),.d (.u 0),.d (.u 0),.d (.u 0),.d (.u 0),.d (.u 0),.d (.u 0),.d (.u 0),.d (.u 0),.d (.u 0),.d (.u 0),.d (.u 0),.d (.u 0),.d (.u 0),.d (.u 0),.d (.u 0),.d (.u 0),.d (.u 0)]⟩
abbrev aOc:TI:=⟨.st [(0,17),(1,17),(2,17),(3,9)],4,40,[.d (.x (.pointer none)),.d (.x (.pointer none)),.d (.x (.pointer none)),.d (.s [])]⟩
abbrev aOd:TI:=⟨.st [(0,17),(1,17),(2,17),(3,9)],4,40,[.d (.x (.pointer none)),.d (.x (.pointer none)),.d (.x (.pointer none)),.d (.s [])]⟩
abbrev aOe:TI:=⟨.int .u8,1,1,[.d (.u 0)]⟩
abbrev aOf:TI:=⟨.int .u8,1,1,[.d (.u 0)]⟩
abbrev aOg:TI:=⟨.ptr 5,1,8,[.d (.x (.pointer none))]⟩
abbrev aOh:TI:=⟨.int .i32,1,4,[.d (.x (.int .i32 0))]⟩
abbrev aOi:TI:=⟨.int .i32,1,4,[.d (.x (.int .i32 0))]⟩
def tab:gB:=fun t=>match t with
 |2=>some ti2
 |3=>some ti3
 |4=>some ti4
 |5=>some ti5
 |6=>some ti6
 |7=>some ti7
 |8=>some ti8
 |9=>some ti9
 |10=>some aQt
 |11=>some aQu
 |12=>some aQv
 |13=>some aQw
 |14=>some aQx
 |15=>some aQy
 |16=>some aQz
 |17=>some aQ0
 |18=>some aQ1
 |19=>some aQ2
 |21=>some aQ3
 |22=>some aO2
 |23=>some aQ4
 |24=>some aQ5
 |25=>some aQ6
 |26=>some aQ7
 |28=>some aQ8
 |29=>some aL1
 |38=>some aQ9
 |39=>some aL2
 |47=>some aRa
 |52=>some aRb
 |68=>some aRc
 |75=>some aRd
 |76=>some aRe
 |77=>some aRf
 |78=>some aRg
 |79=>some aRh
 |80=>some aRi
 |81=>some aRj
 |82=>some aRk
 |83=>some aRl
 |84=>some aRm
 |85=>some aRn
 |86=>some aRo
 |87=>some aRp
 |88=>some aRq
 |91=>some aRr
 |92=>some aRs
 |134=>some aNq
 |135=>some aNr
 |136=>some aNs
 |139=>some aNt
 |140=>some aNu
 |145=>some aNv
 |146=>some aNw
 |154=>some aNx
 |155=>some aNy
 |160=>some aNz
 |162=>some aN0
 |163=>some aN1
 |170=>some aN2
 |171=>some aN3
 |172=>some aN4
 |174=>some aN5
 |175=>some aN6
 |177=>some aN7
 |178=>some aN8
 |181=>some aN9
 |192=>some aOa
 |193=>some aOb
 |219=>some aOc
 |220=>some aOd
 |225=>some aOe
 |226=>some aOf
 |228=>some aOg
 |229=>some aOh
 |230=>some aOi
 |_=>none
theorem aRt:eK Tryz.prog 2 ti2:=⟨Tryz.underlying2,⟨Tryz.t2,_,by kernel_rfl,rfl,rfl,rfl,rfl⟩,rfl,rfl,by decide,by decide⟩
theorem aRu:eK Tryz.prog 3 ti3:=⟨Tryz.underlying3,⟨Tryz.t3,_,by kernel_rfl,rfl,rfl,rfl,rfl⟩,rfl,rfl,by decide,by decide⟩
theorem aRv:eK Tryz.prog 4 ti4:=⟨Tryz.underlying4,⟨Tryz.t4,_,by kernel_rfl,rfl,rfl,rfl,rfl⟩,rfl,rfl,by decide,by decide⟩
theorem aRw:eK Tryz.prog 5 ti5:=⟨Tryz.underlying5,⟨Tryz.t5,_,by kernel_rfl,rfl,rfl,rfl,rfl⟩,rfl,rfl,by decide,by decide⟩
theorem aRx:eK Tryz.prog 6 ti6:=⟨Tryz.underlying6,⟨Tryz.t6,_,by kernel_rfl,rfl,rfl,rfl,rfl⟩,rfl,rfl,by decide,by decide⟩
theorem aRy:eK Tryz.prog 7 ti7:=⟨⟨_,Tryz.underlying7,rfl⟩,⟨Tryz.t7,_,by kernel_rfl,rfl,rfl,rfl,rfl⟩,rfl,rfl,by decide,by decide⟩
theorem aRz:eK Tryz.prog 8 ti8:=⟨⟨_,Tryz.underlying8,rfl⟩,⟨Tryz.t8,_,by kernel_rfl,rfl,rfl,rfl,rfl⟩,rfl,rfl,by decide,by decide⟩
theorem aR0:eK Tryz.prog 9 ti9:=⟨Tryz.underlying9,⟨Tryz.t9,_,by kernel_rfl,rfl,rfl,rfl,rfl⟩,rfl,rfl,by decide,by decide⟩
theorem aO3:eK Tryz.prog 10 aQt:=⟨Tryz.underlying10,⟨Tryz.t10,_,by kernel_rfl,rfl,rfl,rfl,rfl⟩,rfl,rfl,by decide,by decide⟩
theorem aO4:eK Tryz.prog 11 aQu:=⟨Tryz.underlying11,⟨Tryz.t11,_,by kernel_rfl,rfl,rfl,rfl,rfl⟩,rfl,rfl,by decide,by decide⟩
theorem aO5:eK Tryz.prog 12 aQv:=⟨Tryz.underlying12,⟨Tryz.t12,_,by kernel_rfl,rfl,rfl,rfl,rfl⟩,rfl,rfl,by decide,by decide⟩
theorem aO6:eK Tryz.prog 13 aQw:=⟨⟨_,Tryz.underlying13,rfl⟩,⟨Tryz.t13,_,by kernel_rfl,rfl,rfl,rfl,rfl⟩,rfl,rfl,by decide,by decide⟩
theorem aO7:eK Tryz.prog 14 aQx:=⟨⟨_,Tryz.underlying14,rfl⟩,⟨Tryz.t14,_,by kernel_rfl,rfl,rfl,rfl,rfl⟩,rfl,rfl,by decide,by decide⟩
theorem aO8:eK Tryz.prog 15 aQy:=⟨Tryz.underlying15,⟨Tryz.t15,_,by kernel_rfl,rfl,rfl,rfl,rfl⟩,rfl,rfl,by decide,by decide⟩
theorem aO9:eK Tryz.prog 16 aQz:=⟨Tryz.underlying16,⟨Tryz.t16,_,by kernel_rfl,rfl,rfl,rfl,rfl⟩,rfl,rfl,by decide,by decide⟩
theorem aPa:eK Tryz.prog 17 aQ0:=⟨Tryz.underlying17,⟨Tryz.t17,_,by kernel_rfl,rfl,rfl,rfl,rfl⟩,rfl,rfl,by decide,by decide⟩
theorem aPb:eK Tryz.prog 18 aQ1:=⟨⟨_,Tryz.underlying18,rfl⟩,⟨Tryz.t18,_,by kernel_rfl,rfl,rfl,rfl,rfl⟩,rfl,rfl,by decide,by decide⟩
theorem aPc:eK Tryz.prog 19 aQ2:=⟨⟨_,Tryz.underlying19,rfl⟩,⟨Tryz.t19,_,by kernel_rfl,rfl,rfl,rfl,rfl⟩,rfl,rfl,by decide,by decide⟩
theorem aPd:eK Tryz.prog 21 aQ3:=⟨Tryz.underlying21,⟨Tryz.t21,_,by kernel_rfl,rfl,rfl,rfl,rfl⟩,rfl,rfl,by decide,by decide⟩
theorem aPe:eK Tryz.prog 22 aO2:=⟨Tryz.underlying22,⟨Tryz.t22,_,by kernel_rfl,rfl,rfl,rfl,rfl⟩,rfl,rfl,by decide,by decide⟩
theorem aPf:eK Tryz.prog 23 aQ4:=⟨Tryz.underlying23,⟨Tryz.t23,_,by kernel_rfl,rfl,rfl,rfl,rfl⟩,rfl,rfl,by decide,by decide⟩
theorem aPg:eK Tryz.prog 24 aQ5:=⟨Tryz.underlying24,⟨Tryz.t24,_,by kernel_rfl,rfl,rfl,rfl,rfl⟩,rfl,rfl,by decide,by decide⟩
theorem aPh:eK Tryz.prog 25 aQ6:=⟨⟨_,Tryz.underlying25,rfl⟩,⟨Tryz.t25,_,by kernel_rfl,rfl,rfl,rfl,rfl⟩,rfl,rfl,by decide,by decide⟩
theorem aPi:eK Tryz.prog 26 aQ7:=⟨⟨_,Tryz.underlying26,rfl⟩,⟨Tryz.t26,_,by kernel_rfl,rfl,rfl,rfl,rfl⟩,rfl,rfl,by decide,by decide⟩
theorem aPj:eK Tryz.prog 28 aQ8:=⟨⟨_,Tryz.underlying28,rfl⟩,⟨Tryz.t28,_,by kernel_rfl,rfl,rfl,rfl,rfl⟩,rfl,rfl,by decide,by decide⟩
theorem aPk:eK Tryz.prog 29 aL1:=⟨⟨_,Tryz.underlying29,rfl⟩,⟨Tryz.t29,_,by kernel_rfl,rfl,rfl,rfl,rfl⟩,rfl,rfl,by decide,by decide⟩
theorem aPl:eK Tryz.prog 38 aQ9:=⟨⟨_,Tryz.underlying38,rfl⟩,⟨Tryz.t38,_,by kernel_rfl,rfl,rfl,rfl,rfl⟩,rfl,rfl,by decide,by decide⟩
theorem aPm:eK Tryz.prog 39 aL2:=⟨⟨_,Tryz.underlying39,rfl⟩,⟨Tryz.t39,_,by kernel_rfl,rfl,rfl,rfl,rfl⟩,rfl,rfl,by decide,by decide⟩
theorem aPn:eK Tryz.prog 47 aRa:=⟨Tryz.underlying47,⟨Tryz.t47,_,by kernel_rfl,rfl,rfl,rfl,rfl⟩,rfl,rfl,by decide,by decide⟩
theorem aPo:eK Tryz.prog 52 aRb:=⟨Tryz.underlying52,⟨Tryz.t52,_,by kernel_rfl,rfl,rfl,rfl,rfl⟩,rfl,rfl,by decide,by decide⟩
theorem aPp:eK Tryz.prog 68 aRc:=⟨Tryz.underlying68,⟨Tryz.t68,_,by kernel_rfl,rfl,rfl,rfl,rfl⟩,rfl,rfl,by decide,by decide⟩
theorem aPq:eK Tryz.prog 75 aRd:=⟨⟨_,Tryz.underlying75,rfl⟩,⟨Tryz.t75,_,by kernel_rfl,rfl,rfl,rfl,rfl⟩,rfl,rfl,by decide,by decide⟩
theorem aPr:eK Tryz.prog 76 aRe:=⟨⟨_,Tryz.underlying76,rfl⟩,⟨Tryz.t76,_,by kernel_rfl,rfl,rfl,rfl,rfl⟩,rfl,rfl,by decide,by decide⟩
theorem aPs:eK Tryz.prog 77 aRf:=⟨Tryz.underlying77,⟨Tryz.t77,_,by kernel_rfl,rfl,rfl,rfl,rfl⟩,rfl,rfl,by decide,by decide⟩
theorem aPt:eK Tryz.prog 78 aRg:=⟨⟨_,Tryz.underlying78,rfl⟩,⟨Tryz.t78,_,by kernel_rfl,rfl,rfl,rfl,rfl⟩,rfl,rfl,by decide,by decide⟩
theorem aPu:eK Tryz.prog 79 aRh:=⟨⟨_,Tryz.underlying79,rfl⟩,⟨Tryz.t79,_,by kernel_rfl,rfl,rfl,rfl,rfl⟩,rfl,rfl,by decide,by decide⟩
theorem aPv:eK Tryz.prog 80 aRi:=⟨Tryz.underlying80,⟨Tryz.t80,_,by kernel_rfl,rfl,rfl,rfl,rfl⟩,rfl,rfl,by decide,by decide⟩
theorem aPw:eK Tryz.prog 81 aRj:=⟨Tryz.underlying81,⟨Tryz.t81,_,by kernel_rfl,rfl,rfl,rfl,rfl⟩,rfl,rfl,by decide,by decide⟩
theorem aPx:eK Tryz.prog 82 aRk:=⟨Tryz.underlying82,⟨Tryz.t82,_,by kernel_rfl,rfl,rfl,rfl,rfl⟩,rfl,rfl,by decide,by decide⟩
theorem aPy:eK Tryz.prog 83 aRl:=⟨⟨_,Tryz.underlying83,rfl⟩,⟨Tryz.t83,_,by kernel_rfl,rfl,rfl,rfl,rfl⟩,rfl,rfl,by decide,by decide⟩
theorem aPz:eK Tryz.prog 84 aRm:=⟨⟨_,Tryz.underlying84,rfl⟩,⟨Tryz.t84,_,by kernel_rfl,rfl,rfl,rfl,rfl⟩,rfl,rfl,by decide,by decide⟩
theorem aP0:eK Tryz.prog 85 aRn:=⟨Tryz.underlying85,⟨Tryz.t85,_,by kernel_rfl,rfl,rfl,rfl,rfl⟩,rfl,rfl,by decide,by decide⟩
theorem aP1:eK Tryz.prog 86 aRo:=⟨⟨_,Tryz.underlying86,rfl⟩,⟨Tryz.t86,_,by kernel_rfl,rfl,rfl,rfl,rfl⟩,rfl,rfl,by decide,by decide⟩
theorem aP2:eK Tryz.prog 87 aRp:=⟨⟨_,Tryz.underlying87,rfl⟩,⟨Tryz.t87,_,by kernel_rfl,rfl,rfl,rfl,rfl⟩,rfl,rfl,by decide,by decide⟩
theorem aP3:eK Tryz.prog 88 aRq:=⟨Tryz.underlying88,⟨Tryz.t88,_,by kernel_rfl,rfl,rfl,rfl,rfl⟩,rfl,rfl,by decide,by decide⟩
theorem aP4:eK Tryz.prog 91 aRr:=⟨⟨_,Tryz.underlying91,rfl⟩,⟨Tryz.t91,_,by kernel_rfl,rfl,rfl,rfl,rfl⟩,rfl,rfl,by decide,by decide⟩
theorem aP5:eK Tryz.prog 92 aRs:=⟨⟨_,Tryz.underlying92,rfl⟩,⟨Tryz.t92,_,by kernel_rfl,rfl,rfl,rfl,rfl⟩,rfl,rfl,by decide,by decide⟩
theorem aL4:eK Tryz.prog 134 aNq:=⟨Tryz.underlying134,⟨Tryz.t134,_,by kernel_rfl,rfl,rfl,rfl,rfl⟩,rfl,rfl,by decide,by decide⟩
theorem aL5:eK Tryz.prog 135 aNr:=⟨⟨_,Tryz.underlying135,rfl⟩,⟨Tryz.t135,_,by kernel_rfl,rfl,rfl,rfl,rfl⟩,rfl,rfl,by decide,by decide⟩
theorem aL6:eK Tryz.prog 136 aNs:=⟨⟨_,Tryz.underlying136,rfl⟩,⟨Tryz.t136,_,by kernel_rfl,rfl,rfl,rfl,rfl⟩,rfl,rfl,by decide,by decide⟩
theorem aL7:eK Tryz.prog 139 aNt:=⟨⟨_,Tryz.underlying139,rfl⟩,⟨Tryz.t139,_,by kernel_rfl,rfl,rfl,rfl,rfl⟩,rfl,rfl,by decide,by decide⟩
theorem aL8:eK Tryz.prog 140 aNu:=⟨⟨_,Tryz.underlying140,rfl⟩,⟨Tryz.t140,_,by kernel_rfl,rfl,rfl,rfl,rfl⟩,rfl,rfl,by decide,by decide⟩
theorem aL9:eK Tryz.prog 145 aNv:=⟨Tryz.underlying145,⟨Tryz.t145,_,by kernel_rfl,rfl,rfl,rfl,rfl⟩,rfl,rfl,by decide,by decide⟩
theorem aMa:eK Tryz.prog 146 aNw:=⟨Tryz.underlying146,⟨Tryz.t146,_,by kernel_rfl,rfl,rfl,rfl,rfl⟩,rfl,rfl,by decide,by decide⟩
theorem aMb:eK Tryz.prog 154 aNx:=⟨⟨_,Tryz.underlying154,rfl⟩,⟨Tryz.t154,_,by kernel_rfl,rfl,rfl,rfl,rfl⟩,rfl,rfl,by decide,by decide⟩
theorem aMc:eK Tryz.prog 155 aNy:=⟨⟨_,Tryz.underlying155,rfl⟩,⟨Tryz.t155,_,by kernel_rfl,rfl,rfl,rfl,rfl⟩,rfl,rfl,by decide,by decide⟩
theorem aMd:eK Tryz.prog 160 aNz:=⟨Tryz.underlying160,⟨Tryz.t160,_,by kernel_rfl,rfl,rfl,rfl,rfl⟩,rfl,rfl,by decide,by decide⟩
theorem aMe:eK Tryz.prog 162 aN0:=⟨Tryz.underlying162,⟨Tryz.t162,_,by kernel_rfl,rfl,rfl,rfl,rfl⟩,rfl,rfl,by decide,by decide⟩
theorem aMf:eK Tryz.prog 163 aN1:=⟨Tryz.underlying163,⟨Tryz.t163,_,by kernel_rfl,rfl,rfl,rfl,rfl⟩,rfl,rfl,by decide,by decide⟩
theorem aMg:eK Tryz.prog 170 aN2:=⟨⟨_,Tryz.underlying170,rfl⟩,⟨Tryz.t170,_,by kernel_rfl,rfl,rfl,rfl,rfl⟩,rfl,rfl,by decide,by decide⟩
theorem aMh:eK Tryz.prog 171 aN3:=⟨⟨_,Tryz.underlying171,rfl⟩,⟨Tryz.t171,_,by kernel_rfl,rfl,rfl,rfl,rfl⟩,rfl,rfl,by decide,by decide⟩
theorem aMi:eK Tryz.prog 172 aN4:=⟨Tryz.underlying172,⟨Tryz.t172,_,by kernel_rfl,rfl,rfl,rfl,rfl⟩,rfl,rfl,by decide,by decide⟩
theorem aMj:eK Tryz.prog 174 aN5:=⟨⟨_,Tryz.underlying174,rfl⟩,⟨Tryz.t174,_,by kernel_rfl,rfl,rfl,rfl,rfl⟩,rfl,rfl,by decide,by decide⟩
theorem aMk:eK Tryz.prog 175 aN6:=⟨⟨_,Tryz.underlying175,rfl⟩,⟨Tryz.t175,_,by kernel_rfl,rfl,rfl,rfl,rfl⟩,rfl,rfl,by decide,by decide⟩
theorem aMl:eK Tryz.prog 177 aN7:=⟨⟨_,Tryz.underlying177,rfl⟩,⟨Tryz.t177,_,by kernel_rfl,rfl,rfl,rfl,rfl⟩,rfl,rfl,by decide,by decide⟩
theorem aMm:eK Tryz.prog 178 aN8:=⟨⟨_,Tryz.underlying178,rfl⟩,⟨Tryz.t178,_,by kernel_rfl,rfl,rfl,rfl,rfl⟩,rfl,rfl,by decide,by decide⟩
theorem aMn:eK Tryz.prog 181 aN9:=⟨Tryz.underlying181,⟨Tryz.t181,_,by kernel_rfl,rfl,rfl,rfl,rfl⟩,rfl,rfl,by decide,by decide⟩
theorem aMo:eK Tryz.prog 192 aOa:=⟨Tryz.underlying192,⟨Tryz.t192,_,by kernel_rfl,rfl,rfl,rfl,rfl⟩,rfl,rfl,by decide,by decide⟩
theorem aMp:eK Tryz.prog 193 aOb:=⟨Tryz.underlying193,⟨Tryz.t193,_,by kernel_rfl,rfl,rfl,rfl,rfl⟩,rfl,rfl,by decide,by decide⟩
theorem aMq:eK Tryz.prog 219 aOc:=⟨⟨_,Tryz.underlying219,rfl⟩,⟨Tryz.t219,_,by kernel_rfl,rfl,rfl,rfl,rfl⟩,rfl,rfl,by decide,by decide⟩
theorem aMr:eK Tryz.prog 220 aOd:=⟨⟨_,Tryz.underlying220,rfl⟩,⟨Tryz.t220,_,by kernel_rfl,rfl,rfl,rfl,rfl⟩,rfl,rfl,by decide,by decide⟩
theorem aMs:eK Tryz.prog 225 aOe:=⟨Tryz.underlying225,⟨Tryz.t225,_,by kernel_rfl,rfl,rfl,rfl,rfl⟩,rfl,rfl,by decide,by decide⟩
theorem aMt:eK Tryz.prog 226 aOf:=⟨Tryz.underlying226,⟨Tryz.t226,_,by kernel_rfl,rfl,rfl,rfl,rfl⟩,rfl,rfl,by decide,by decide⟩
theorem aMu:eK Tryz.prog 228 aOg:=⟨Tryz.underlying228,⟨Tryz.t228,_,by kernel_rfl,rfl,rfl,rfl,rfl⟩,rfl,rfl,by decide,by decide⟩
theorem aMv:eK Tryz.prog 229 aOh:=⟨Tryz.underlying229,⟨Tryz.t229,_,by kernel_rfl,rfl,rfl,rfl,rfl⟩,rfl,rfl,by decide,by decide⟩
theorem aMw:eK Tryz.prog 230 aOi:=⟨Tryz.underlying230,⟨Tryz.t230,_,by kernel_rfl,rfl,rfl,rfl,rfl⟩,rfl,rfl,by decide,by decide⟩
theorem dQ:dK Tryz.prog tab:=by
 intro t x h
 unfold tab at h
 split at h
 · cases h;exact aRt
 · cases h;exact aRu
 · cases h;exact aRv
 · cases h;exact aRw
 · cases h;exact aRx
 · cases h;exact aRy
 · cases h;exact aRz
 · cases h;exact aR0
 · cases h;exact aO3
 · cases h;exact aO4
 · cases h;exact aO5
 · cases h;exact aO6
 · cases h;exact aO7
 · cases h;exact aO8
 · cases h;exact aO9
 · cases h;exact aPa
 · cases h;exact aPb
 · cases h;exact aPc
 · cases h;exact aPd
 · cases h;exact aPe
 · cases h;exact aPf
 · cases h;exact aPg
 · cases h;exact aPh
 · cases h;exact aPi
 · cases h;exact aPj
 · cases h;exact aPk
 · cases h;exact aPl
 · cases h;exact aPm
 · cases h;exact aPn
 · cases h;exact aPo
 · cases h;exact aPp
 · cases h;exact aPq
 · cases h;exact aPr
 · cases h;exact aPs
 · cases h;exact aPt
 · cases h;exact aPu
 · cases h;exact aPv
 · cases h;exact aPw
 · cases h;exact aPx
 · cases h;exact aPy
 · cases h;exact aPz
 · cases h;exact aP0
 · cases h;exact aP1
 · cases h;exact aP2
 · cases h;exact aP3
 · cases h;exact aP4
 · cases h;exact aP5
 · cases h;exact aL4
 · cases h;exact aL5
 · cases h;exact aL6
 · cases h;exact aL7
 · cases h;exact aL8
 · cases h;exact aL9
 · cases h;exact aMa
 · cases h;exact aMb
 · cases h;exact aMc
 · cases h;exact aMd
 · cases h;exact aMe
 · cases h;exact aMf
 · cases h;exact aMg
 · cases h;exact aMh
 · cases h;exact aMi
 · cases h;exact aMj
 · cases h;exact aMk
 · cases h;exact aMl
 · cases h;exact aMm
 · cases h;exact aMn
 · cases h;exact aMo
 · cases h;exact aMp
 · cases h;exact aMq
 · cases h;exact aMr
 · cases h;exact aMs
 · cases h;exact aMt
 · cases h;exact aMu
 · cases h;exact aMv
 · cases h;exact aMw
 · cases h
end Go.Proofs.YtcbjphphppaoiaaGreatDoor
namespace Go.Ab
open Int renaming toNat_natCast→aSd
open List renaming length_append→aSe,length_nil→aSh,length_cons→aSi,length_take→aSk,getD_eq_getElem?_getD→aSl,getElem?_eq_some_iff→aSm,getElem?_eq_getElem→aSn,range→aSp,mem_map→aSq,length_drop→aSr,mem_singleton→aSs,all_eq_true→aSu,take_length→aSv,mem_cons→aSw
open Nat renaming le_of_ble_eq_true→aSf,zero_le→aSj,le_refl→aSo,add_mul→aSt
open Bool renaming and_eq_true→aSg
open Go Go.RowKit
set_option linter.unusedVariables false
set_option linter.unusedSimpArgs false
def dc:D→Int| .i n=>n|_=>0
def toU:D→Int| .u n=>n|_=>0
def toB:D→Bool| .b x=>x|_=>false
def toS:D→List UInt8| .s l=>l|_=>[]
def toSl:D→List (List D)| .sl r=>r|_=>[]
def aD6 (z:C) (d:D):D:=match z with
 | .d (.i _)=> .i (dc d)
 | .d (.u _)=> .u (toU d)
 | .d (.b _)=> .b (toB d)
 | .d (.s _)=> .s (toS d)
 | .nil=> .sl (toSl d)
 |_=>d
def lV:List C→List D→Nat→List D
 | [],_,_=>[]
 |z::zs,cs,k=>aD6 z (cs.getD k (.i 0))::lV zs cs (k+1)
def fa (ti:TI) (l:List D):Option V:=if ti.kind.agg then some (.e (.agg (l.map C.d))) else match l with|d::_=>some (Dv d)| []=>none
def aD7 (T:gB) (σ:St) (t:TypeId):V→Option (Prop×List (dD×Option K)×V)
 | .e (.c (.pe ob n i k))=>match T t,aS σ (.o ob) with
  |some ti,some (.row e es rows)=>match fa ti (lV ti.zero (rows.getD i []) k) with
   |some X=>some ((rows.length=n∧i<n)∧k+ti.size≤(rows.getD i []).length∧((rows.getD i []).drop k).take ti.size=lV ti.zero (rows.getD i []) k,[(.o ob,some (.row e es rows))],X)
   |none=>none
  |_,_=>none
 | .e (.c (.rp cs))=>match T t with
  |some ti=>match fa ti (lV ti.zero cs 0) with
   |some X=>some (ti.size≤cs.length∧cs.take ti.size=lV ti.zero cs 0,[],X)
   |none=>none
  |none=>none
 |X=>ny T σ t X
theorem lr {ti:TI} {l:List D} {X:V} (h:fa ti l=some X): (ti.kind.agg=true∧X= .e (.agg (l.map C.d)))∨(ti.kind.agg=false∧ ∃d r,l=d::r∧X=Dv d):=by
 unfold fa at h
 split at h
 · rename_i ha;cases h;exact .inl ⟨ha,rfl⟩
 · rename_i ha
   split at h
   · cases h;exact .inr ⟨by simpa using ha,_,_,rfl,rfl⟩
   · cases h
theorem aD8 {P:Program} {T:gB} (hT:dK P T) {σ:St} {t:TypeId} {X:V} {p:Prop} {R:List (dD×Option K)} {Y:V} (h:aD7 T σ t X=some (p,R,Y)) (hp:p): ∃q,ny T σ t X=some (q,R,Y)∧q:=by
 have hd: ∀(l:List D) (k n:Nat) (m:List D) (d:D) (r:List D),0<n→k+n≤l.length→(l.drop k).take n=m→m=d::r→l.getD k (.i 0)=d∧k<l.length:=by
  intro l k n m d r hn hk h1 h2
  subst h1
  cases n with
  |zero=>omega
  |succ n=>
   have hk':k<l.length:=by omega
   rw[List.drop_eq_getElem_cons hk',List.take_succ_cons] at h2
   cases h2
   exact⟨by rw[aSl,aSn hk'];rfl,hk'⟩
 unfold aD7 at h
 split at h
 · rename_i ob n i k
   split at h<;>try(cases h;done)
   rename_i ti e es rows ht hl
   split at h<;>try(cases h;done)
   rename_i Z hz
   cases h
   obtain⟨⟨h1,h2⟩,h3,h4⟩:=hp
   simp only[ny,ht,hl]
   rcases lr hz with⟨ha,rfl⟩|⟨ha,d,r,hm,rfl⟩
   · rw[if_pos ha]
     refine⟨_,by rw[h4],?_⟩;exact⟨h1,h2,h3⟩
   · rw[if_neg (by simp[ha])]
     obtain⟨q1,q2⟩:=hd _ _ _ _ d r (hT t ti ht).pos h3 h4 hm
     refine⟨_,by rw[q1],?_⟩;exact⟨h1,h2,q2⟩
 · rename_i cs
   split at h<;>try(cases h;done)
   rename_i ti ht
   split at h<;>try(cases h;done)
   rename_i Z hz
   cases h
   obtain⟨h3,h4⟩:=hp
   simp only[ny,ht]
   rcases lr hz with⟨ha,rfl⟩|⟨ha,d,r,hm,rfl⟩
   · rw[if_pos ha]
     refine⟨_,by rw[h4],?_⟩;exact h3
   · rw[if_neg (by simp[ha])]
     obtain⟨q1,q2⟩:=hd cs 0 _ _ d r (hT t ti ht).pos (by simpa using h3) (by simpa using h4) hm
     refine⟨_,by rw[q1],?_⟩;exact q2
 · exact⟨p,h,hp⟩
theorem aHk {P:Program} {o:Oper} {σ:St} {x:Operand} {d:Option Tmp} {f g:V→Option (Prop×List (dD×Option K)×V)} (hfg: ∀X p R Y,g X=some (p,R,Y)→p→ ∃q,f X=some (q,R,Y)∧q)
 (h:kV P o σ (jR σ x d f)):kV P o σ (jR σ x d g):=by
 intro p R W hg hp
 unfold jR at hg
 split at hg<;>try(cases hg;done)
 rename_i X Rx d hx
 split at hg<;>try(cases hg;done)
 rename_i p' R' Y hgx
 cases hg
 obtain⟨q,h1,h2⟩:=hfg _ _ _ _ hgx hp
 exact h q _ _ (by simp only[jR,hx,h1]) h2
theorem yZ {P:Program} {w:World} {t:TypeId} (hu:P.underlying t=some .bool) (x y:Bool): (Op.equal t (.bool x) (.bool y)).run P w= .ok (x==y) w:=by
 unfold Op.equal
 rw[show Op.maxDepth=(Op.maxDepth - 1)+1 from rfl]
 unfold Op.equalIn
 rw[Sem.run_bind,run_underlying hu];rfl
theorem zA {P:Program} {w:World} {t:TypeId} (hu:P.underlying t=some .bool) (x y:Bool) (ox oy:Operand):
 (do eqGuard .eql t ox oy (.bool x) (.bool y);binOp .eql t (.bool x) (.bool y):Sem Value).run P w= .ok (.bool (x==y)) w∧
 (do eqGuard .neq t ox oy (.bool x) (.bool y);binOp .neq t (.bool x) (.bool y):Sem Value).run P w= .ok (.bool (!(x==y))) w:=by
 constructor
 · rw[Sem.run_bind,vP,Result.andThen_ok]
   show(do pure (.bool (← Op.equal t (.bool x) (.bool y))):Sem Value).run P w=_
   rw[Sem.run_bind,yZ hu];rfl
 · rw[Sem.run_bind,vP,Result.andThen_ok]
   show(do pure (.bool (!(← Op.equal t (.bool x) (.bool y)))):Sem Value).run P w=_
   rw[Sem.run_bind,yZ hu];rfl
def aJ3 (T:gB) (t:TypeId) (op:BinOp):V→V→Option (Prop×List (dD×Option K)×V)
 | .e (.c (.d (.b x))),.e (.c (.d (.b y)))=>match T t with
  |some ti=>match ti.kind,op with
   | .bool,.eql=>some (True,[],B (x==y))
   | .bool,.neq=>some (True,[],B (!(x==y)))
   |_,_=>none
  |none=>none
 |X,Y=>aLv op X Y
def aJ4 (T:gB) (t:TypeId) (op:BinOp):V→V→Option (Prop×List (dD×Option K)×V)
 | .e (.c (.d (.b x))),.e (.c (.d (.b y)))=>match T t with
  |some ti=>match ti.kind,op with
   | .bool,.eql=>some (True,[],B (x==y))
   | .bool,.neq=>some (True,[],B (!(x==y)))
   |_,_=>none
  |none=>none
 |X,Y=>none
theorem aHl {P:Program} {T:gB} (hT:dK P T) {o:Oper} {σ0:St} {op:BinOp} {t u:TypeId} {x y:Operand} (ho:o.op= .binOp op t x y u):kV P o σ0 (pT σ0 x y o.dst (aJ4 T t op)):=by
 refine pX fun X Y p R Z h hp=> ?_
 unfold aJ4 at h
 split at h
 · rename_i a b
   split at h<;>try(cases h;done)
   rename_i ti ht
   have hk: (ti.kind= .bool∧op= .eql∧R=[]∧Z=B (a==b))∨(ti.kind= .bool∧op= .neq∧R=[]∧Z=B (!(a==b))):=by
    split at h
    · rename_i hk;cases h;exact .inl ⟨hk,rfl,rfl,rfl⟩
    · rename_i hk;cases h;exact .inr ⟨hk,rfl,rfl,rfl⟩
    · cases h
   have hu:=(hT t ti ht).kind
   have hkk:ti.kind= .bool:=by rcases hk with h|h<;>exact h.1
   rw[hkk] at hu;simp only[kW] at hu
   rcases hk with⟨_,rfl,rfl,rfl⟩|⟨_,rfl,rfl,rfl⟩
   all_goals
    refine⟨bJ.nil,fun cx σ ι S ac w _ _ hx hy=> ?_⟩
    simp only[kU,ER,CR] at hx hy
    cases hv:ac.eval x<;>rw[hv] at hx<;>cases hx
    cases hv2:ac.eval y<;>rw[hv2] at hy<;>cases hy
   · refine⟨_,?_,.b _⟩
     have:=(zA (w:=w) hu a b x y).1
     unfold execOp;simp only[ho,hv,hv2];rw[Sem.run_bind,this];rfl
   · refine⟨_,?_,.b _⟩
     have:=(zA (w:=w) hu a b x y).2
     unfold execOp;simp only[ho,hv,hv2];rw[Sem.run_bind,this];rfl
 · cases h
theorem aHm {P:Program} {T:gB} (hT:dK P T) {o:Oper} {σ0:St} {op:BinOp} {t u:TypeId} {x y:Operand} (ho:o.op= .binOp op t x y u):kV P o σ0 (pT σ0 x y o.dst (aJ3 T t op)):=by
 intro p R W h hp
 unfold pT at h
 split at h<;>try(cases h;done)
 rename_i X Rx Y Ry d hd hx hy
 split at h<;>try(cases h;done)
 rename_i p' R' Z hf
 cases h
 unfold aJ3 at hf
 split at hf
 · exact aHl (P:=P) (σ0:=σ0) hT ho p _ _ (by simp only[pT,hx,hy,hd,aJ4];simp only[hf]) hp
 · exact aAy (P:=P) (σ:=σ0) ho p _ _ (by simp only[pT,hx,hy,hf,hd]) hp
def aD9 (T:gB) (o:Oper) (σ:St) (s d:TypeId) (x:Operand):tp:=
 match T s,T d with
 |some si,some di=>match si.kind,di.kind with
  | .sl e,.str=>match T e with
   |some ei=>match ei.kind with
    | .int .u8=>jR σ x o.dst (aOw σ)
    |_=>none
   |none=>none
  | .str,.sl e=>match T e with
   |some ei=>match ei.kind with
    | .int .u8=>aOx σ x e o.dst
    |_=>none
   |none=>none
  |_,_=>vu T o σ
 |_,_=>none
def aEa (T:gB) (o:Oper) (σ:St) (c:Call):tp:=
 match c.callee,c.args.toList,c.argTypes.toList with
 | .builtin .copy,[x,y],[t,t2]=>aJw T σ t t2 x y o.dst
 |_,_,_=>vu T o σ
def yo (T:gB) (o:Oper) (σ:St):tp:=
 match o.op with
 | .load t x=>jR σ x o.dst (aD7 T σ t)
 | .binOp op t x y u=>pT σ x y o.dst (aJ3 T t op)
 | .convert s d x=>aD9 T o σ s d x
 | .call c=>aEa T o σ c
 |_=>vu T o σ
theorem aEb {P:Program} {T:gB} (hT:dK P T) {o:Oper} {σ:St} {s d:TypeId} {x:Operand} (ho:o.op= .convert s d x):kV P o σ (aD9 T o σ s d x):=by
 unfold aD9
 split
 · rename_i si di hs hd
   split
   · rename_i e hk1 hk2
     split
     · rename_i ei he
       split
       · rename_i hek
         exact aJu hT ho hs hk1 he hek hd hk2
       · exact mU
     · exact mU
   · rename_i e hk1 hk2
     split
     · rename_i ei he
       split
       · rename_i hek
         exact aJv hT ho hs hk1 he hek hd hk2
       · exact mU
     · exact mU
   · exact wQ hT o σ
 · exact mU
theorem aEc {P:Program} {T:gB} (hT:dK P T) {o:Oper} {σ:St} {c:Call} (ho:o.op= .call c):kV P o σ (aEa T o σ c):=by
 obtain⟨callee,args,argTypes⟩:=c
 unfold aEa
 dsimp only
 split
 · rename_i x y t t2 ha hat
   obtain rfl:args= #[x,y]:=Array.toList_inj.1 (by simpa using ha)
   obtain rfl:argTypes= #[t,t2]:=Array.toList_inj.1 (by simpa using hat)
   exact aHe hT ho
 · exact wQ hT o σ
theorem lu {P:Program} {T:gB} (hT:dK P T) (o:Oper) (σ:St):kV P o σ (yo T o σ):=by
 unfold yo
 split
 · rename_i ho;exact aHk (fun X p R Y h hp=>aD8 hT h hp) (vn hT ho)
 · rename_i ho;exact aHm hT ho
 · rename_i ho;exact aEb hT ho
 · rename_i ho;exact aEc hT ho
 · exact wQ hT o σ
def aGj:dD→dD→Bool
 | .t a,.t b=>Nat.beq a b
 | .o a,.o b=>Nat.beq a b
 |_,_=>false
theorem wb {a b:dD}:aGj a b=true↔a=b:=by
 cases a<;>cases b<;>simp[aGj]
def mw:St→dD→K→(St→Prop)→Prop
 | [],m,k,c=>c [(m,k)]
 |p::r,m,k,c=>match aGj p.1 m with
  |true=>c ((m,k)::r)
  |false=>mw r m k fun r'=>c (p::r')
theorem nM: ∀{σ:St} {m:dD} {k:K} {c:St→Prop},mw σ m k c↔c (oO σ m k)
 | [],m,k,c=>Iff.rfl
 |p::r,m,k,c=>by
  unfold mw oO
  by_cases h:p.1=m
  · rw[wb.2 h,if_pos h]
  · have:aGj p.1 m=false:=by rw[← Bool.not_eq_true,wb];exact h
    rw[this,if_neg h]
    exact nM
def yp:List C→(List C→Prop)→Prop
 | [],c=>c []
 |x::r,c=>yp r fun r'=>c (x::r')
theorem oj: ∀{l:List C} {c:List C→Prop},yp l c↔c l
 | [],c=>Iff.rfl
 |x::r,c=>by unfold yp;exact oj
def aEd:K→(K→Prop)→Prop
 | .box ty cs,c=>yp cs fun cs'=>c (.box ty cs')
 |k,c=>c k
theorem aEe {k:K} {c:K→Prop}:aEd k c↔c k:=by
 cases k<;>simp only[aEd]
 exact oj
def mB:St→List (dD×K)→(St→Prop)→Prop
 |σ,[],c=>c σ
 |σ,p::r,c=>aEd p.2 fun k=>mw σ p.1 k fun σ'=>mB σ' r c
theorem jW: ∀{W:List (dD×K)} {σ:St} {c:St→Prop},mB σ W c↔c (hD σ W)
 | [],σ,c=>Iff.rfl
 |p::r,σ,c=>by unfold mB hD;rw[aEe,nM];exact jW
def aGk (P:Program) (T:gB) (o:Oper) (σ:St) (k:List (dD×Option K)→List (dD×K)→Prop):Prop:=
 match yo T o σ with
 |some (p,R,W)=>p∧k R W
 |none=> ∃R W,wG P o R W∧bJ R σ∧k R W
theorem lv {P:Program} {T:gB} (hT:dK P T) {o:Oper} {σ:St} {k:List (dD×Option K)→List (dD×K)→Prop} (h:aGk P T o σ k): ∃R W,wG P o R W∧bJ R σ∧k R W:=by
 unfold aGk at h
 split at h
 · rename_i p R W he
   obtain⟨h1,h2⟩:=lu hT o σ p R W he h.1
   exact⟨R,W,h1,h2,h.2⟩
 · exact h
def goS (P:Program) (T:gB) (ops:List Oper) (dr:Bool):List Oper→St→List bv→(St→List bv→Prop)→Prop
 | [],σ,acc,k=>k σ acc
 |o::os,σ,acc,k=>match o.guard with
  |none=>aGk P T o σ fun R W=>mB σ W fun σ'=>goS P T ops dr os σ' (match dr with|true=>acc++[oG (R,W)]|false=>[]) k
  |some (j,want)=>match(ops[j]?).bind (·.dst) with
   |some s=>match aS σ (.t s) with
    |some (.v (.e (.c (.d (.b x)))))=>
     (x=want→aGk P T o σ fun R W=>mB σ W fun σ'=>goS P T ops dr os σ' (match dr with|true=>acc++[oG ((.t s,none)::R,W)]|false=>[]) k)∧
     (x= !want→mB σ (vv o) fun σ'=>goS P T ops dr os σ' (match dr with|true=>acc++[oG ([(.t s,none)],vv o)]|false=>[]) k)
    |_=>False
   |none=>False
theorem vT {P:Program} {T:gB} (hT:dK P T) {ops:Array Oper} {dr:Bool} {k:St→List bv→Prop}: ∀(l:List Oper) (σ:St) (acc:List bv),goS P T ops.toList dr l σ acc k→
 ∃ts:List lE,yB P ops l ts∧jH ts σ∧ ∃acc',(dr=true→acc'=acc++ts.map oG)∧k (eQ ts σ) acc'
 | [],σ,acc,h=>⟨[],trivial,trivial,acc,fun _=>by simp,by simpa[goS,eQ] using h⟩
 |o::os,σ,acc,h=>by
  simp only[goS] at h
  split at h
  · rename_i hg
    obtain⟨R,W,h1,h2,h3⟩:=lv hT h
    rw[jW] at h3
    obtain⟨ts,q1,q2,acc',q3,q4⟩:=vT hT os _ _ h3
    refine⟨(R,W)::ts,⟨yU hg h1,q1⟩,⟨h2,q2⟩,acc',fun hd=> ?_,by simpa[eQ] using q4⟩
    rw[q3 hd];subst hd;simp
  · rename_i j want hg
    split at h<;>try(exact h.elim)
    rename_i s hs
    split at h<;>try(exact h.elim)
    rename_i x hl
    have hs': (ops[j]?).bind (·.dst)=some s:=by simpa using hs
    by_cases hx:x=want
    · subst hx
      obtain⟨R,W,h1,h2,h3⟩:=lv hT (h.1 rfl)
      rw[jW] at h3
      obtain⟨ts,q1,q2,acc',q3,q4⟩:=vT hT os _ _ h3
      refine⟨((.t s,some (.v (B x)))::R,W)::ts,⟨aA3 hg hs' h1,q1⟩,⟨fun p hp=> ?_,q2⟩,acc',fun hd=> ?_,by simpa[eQ] using q4⟩
      · rcases aSw.1 hp with rfl|hp
        · exact hl
        · exact h2 p hp
      · rw[q3 hd];subst hd;simp[oG]
    · have hx':x= !want:=by cases x<;>cases want<;>simp_all
      have h3:=h.2 hx'
      rw[jW] at h3
      obtain⟨ts,q1,q2,acc',q3,q4⟩:=vT hT os _ _ h3
      subst hx'
      refine⟨([(.t s,some (.v (B (!want))))],vv o)::ts,⟨aGd hg hs' rfl,q1⟩,⟨bJ.one hl,q2⟩,acc',fun hd=> ?_,by simpa[eQ] using q4⟩
      rw[q3 hd];subst hd;simp[oG]
section
variable {P:Program} {io:List Nat} {Q:Ex→St→Prop} {σ:St}
theorem SW.text {T:gB} (hT:dK P T) (hm:P.follows .mixedOrders=true) {id:Nat} {ops:Array Oper} (h:goS P T ops.toList false ops.toList σ [] fun σ' _=>Q .norm σ'):SW P io (.region id ops false) Q σ:=by
 intro cx ι S a w hio hw hf
 have hfit: ∀o∈ops.toList,∀d,o.dst=some d→d<cx.N:=fun o ho=>wK (by simpa[rR] using hf) ho
 obtain⟨ts,h1,h2,acc,_,h4⟩:=vT hT ops.toList σ [] h
 exact wp_region_list (wL ops.toList ts σ ι S a w h1 h2 hw hfit fun ι' S' a' w' hw'=>⟨_,ι',S',h4,hw'⟩)
theorem SW.drawn {T:gB} (hT:dK P T) (hm:P.follows .mixedOrders=true) {id:Nat} {ops:Array Oper} (h:goS P T ops.toList true ops.toList σ [] fun σ' ns=>vB ops.toList ns=true∧Q .norm σ'):SW P io (.region id ops true) Q σ:=by
 intro cx ι S a w hio hw hf
 have hfit: ∀o∈ops.toList,∀d,o.dst=some d→d<cx.N:=fun o ho=>wK (by simpa[rR] using hf) ho
 obtain⟨ts,h1,h2,acc,h3,h4,h5⟩:=vT hT ops.toList σ [] h
 have h3:=h3 rfl
 rw[List.nil_append] at h3
 subst h3
 have hlen: ∀(l:List Oper) (ts:List lE),yB P ops l ts→ts.length=l.length∧ ∀(i:Nat) o t,l[i]? =some o→ts[i]? =some t→ItT P ops o t:=by
  intro l
  induction l with
  |nil=>intro ts h;cases ts with
   |nil=>exact⟨rfl,by simp⟩
   |cons t ts=>exact h.elim
  |cons o os ih=>intro ts h;cases ts with
   |nil=>exact h.elim
   |cons t ts=>
    obtain⟨q1,q2⟩:=ih ts h.2
    refine⟨by simp[q1],fun i o' t' ho ht=> ?_⟩
    cases i with
    |zero=>simp at ho ht;subst ho;subst ht;exact h.1
    |succ i=>exact q2 i o' t' (by simpa using ho) (by simpa using ht)
 obtain⟨q1,q2⟩:=hlen _ _ h1
 refine wp_region_any hm (au (cx:=cx) (σ:=σ) (ts:=ts) (by simpa using q1) (fun i o t ho ht=>q2 i o t (by simpa using ho) ht) h2 (by simpa[oP,vB] using h4) hfit (fun ι' S' a' w' hw'=>⟨_,ι',S',h5,hw'⟩)
  ops.size (Array.replicate ops.size false) σ ι S a _ (by simp) (fun l=> ?_) hw.drew (fun k o ho hk=> ?_) ?_)
 · have hL: ∀i,(Array.replicate ops.size false).getD i false=false:=fun i=>by
    rw[Array.getD_eq_getD_getElem?,Array.getElem?_replicate];split<;>rfl
   have: ∀n,part ts (fun i=>(Array.replicate ops.size false).getD i false) σ l n=aS σ l:=by
    intro n
    induction n with
    |zero=>rfl
    |succ n ih=>rw[lM,if_neg (by rw[hL];simp),ih]
   rw[this]
 · rw[Array.getD_eq_getD_getElem?,Array.getElem?_replicate] at hk;split at hk<;>cases hk
 · exact Nat.le_trans (List.length_filter_le _ _) (by simp)
end
end Go.Ab
