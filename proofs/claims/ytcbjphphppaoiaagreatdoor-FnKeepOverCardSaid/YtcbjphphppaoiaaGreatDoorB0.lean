/- The framework: abstract states over plain data, the operations, the rules for code; plain data and plain functions. -/
import Derived.Tactics
import Derived.Orders
import Derived.Laws.AppendOwn
import Derived.Laws.MakeOwn
import Derived.Laws.BytesString
import Derived.Laws.Slices
import Derived.Below
import Derived.Lib.LaidTab
import Derived.Lib.ItoaNum
import Derived.Laws.Tables
import Derived.Great.BuildSlice
import Derived.RowKit3
import Derived.Laws.BitsLemmas
import Derived.Lib.ConvBytes
import Derived.Conc.MuLone
import Derived.Test.YtcbjphphppaoiaaGreatDoorProg
namespace Go.Ab
open Int renaming toNat_natCast→aU4,tmod→aVg
open List renaming length_append→aU5,length_nil→aU8,length_cons→aU9,getD_eq_getElem?_getD→aVb,length_take→aVc,getElem?_eq_getElem→aVd,getElem?_eq_some_iff→aVe,range→aVh,all_eq_true→aVi,mem_map→aVj,length_drop→aVk,take_length→aVl,mem_cons→aVm,mem_singleton→aVn,mem_iff_getElem?→aVp
open Nat renaming le_of_ble_eq_true→aU6,zero_le→aVa,le_refl→aVf,add_mul→aVo
open Bool renaming and_eq_true→aU7
open Go Go.RowKit
set_option linter.unusedVariables false
inductive D where
 |i (n:Int)
 |u (n:Int)
 |b (x:Bool)
 |s (l:List UInt8)
 |x (v:Value)
 |sl (rows:List (List D))
inductive C where
 |d (x:D)
 |nil
 |own (o n:Nat)
 |pt (o k:Nat)
 |pe (o n i k:Nat)
 |rp (cs:List D)
 |z (o:Nat) (Q:Value→Value→Prop)
inductive E where
 |c (x:C)
 |agg (cs:List C)
inductive V where
 |e (x:E)
 |tup (xs:List E)
def blk:Value→Option Nat
 | .pointer (some a)=>some a.block
 | .slice (some a) _ _=>some a.block
 |_=>none
def xT:Value→Nat→Prop
 | .pointer (some a),b=>a.block=b
 | .slice (some a) _ _,b=>a.block=b
 | .tuple vs,b=> ∃v∈vs.toList,blk v=some b
 |_,_=>False
structure ia where
 le:Value→Value→Prop
 R:World→(Nat→Prop)→Value→Prop
 refl: ∀p,le p p
 trans: ∀{p q r},le p q→le q r→le p r
 mono: ∀{w w':World} {S S':Nat→Prop} {p:Value},(∀b,S b→S' b)→(∀b,S b→w'.heap[b]? =w.heap[b]?)→(∀b,xT p b→w'.heap[b]? =w.heap[b]?)→R w S p→R w' S' p
 lt: ∀{w:World} {S:Nat→Prop} {p:Value} {b:Nat},R w S p→xT p b→b<w.heap.size
inductive K where
 |v (x:V)
 |box (ty:TypeId) (cs:List C)
 |row (e:TypeId) (es:Nat) (rows:List (List D))
 |dead
 |cv (s:Nat) (want b:Bool) (x:V)
 |zone (Z:ia)
inductive dF where
 |t (s:Nat)
 |o (n:Nat)
 deriving DecidableEq
abbrev St:=List (dF×K)
def aU:St→dF→Option K
 | [],_=>none
 |p::r,m=>if p.1=m then some p.2 else aU r m
def pM:St→dF→K→St
 | [],m,k=>[(m,k)]
 |p::r,m,k=>if p.1=m then(m,k)::r else p::pM r m k
def iL:St→List (dF×K)→St
 |s,[]=>s
 |s,p::r=>iL (pM s p.1 p.2) r
theorem oI (s:St) (m:dF) (k:K) (l:dF):aU (pM s m k) l=if m=l then some k else aU s l:=by
 induction s with
 |nil=>simp[aU,pM]
 |cons p r ih=>
  unfold pM
  by_cases h:p.1=m
  · rw[if_pos h]
    by_cases h2:m=l
    · simp[aU,h2]
    · simp[aU,h2,h]
  · rw[if_neg h]
    by_cases h2:p.1=l
    · have:m≠l:=fun e=>h (h2.trans e.symm)
      simp[aU,h2,this]
    · simp[aU,h2,ih]
theorem cX (s:St) (m:dF) (k:K):aU (pM s m k) m=some k:=by rw[oI,if_pos rfl]
theorem cM (s:St) {m l:dF} (k:K) (h:m≠l):aU (pM s m k) l=aU s l:=by rw[oI,if_neg h]
inductive DR (w:World) (S:Nat→Prop):D→Value→Prop
 |i (n:Int):DR w S (.i n) (.int .i64 n)
 |u (n:Int):DR w S (.u n) (.int .u8 n)
 |b (x:Bool):DR w S (.b x) (.bool x)
 |s (l:List UInt8):DR w S (.s l) (.string ⟨l.toArray⟩)
 |x (v:Value) (h:v.oneCell'=true):DR w S (.x v) v
 |sl (rows:List (List D)) (a:Option Addr) (cap es:Nat) (ad:Addr) (u:Nat→Nat→Value)
  (hc:rows.length≤cap) (hm:cap≤maxLen) (he: ∀r∈rows,r.length=es)
  (ha:rows≠[]→a=some ad) (hw: ∀i r k d,rows[i]? =some r→r[k]? =some d→S ad.block∧w.cell? (ad.add (i*es+k))=some (u i k))
  (hd: ∀i r k d,rows[i]? =some r→r[k]? =some d→DR w S d (u i k)):DR w S (.sl rows) (.slice a rows.length cap)
theorem DR.oneCell {w:World} {S:Nat→Prop} {d:D} {v:Value} (h:DR w S d v):v.oneCell'=true:=by
 cases h<;>first|rfl|assumption
theorem DR.mono {w w':World} {S S':Nat→Prop} (hS: ∀b,S b→S' b) (hw: ∀b,S b→w'.heap[b]? =w.heap[b]?) {d:D} {v:Value} (h:DR w S d v):DR w' S' d v:=by
 induction h with
 |i n=>exact .i n
 |u n=>exact .u n
 |b x=>exact .b x
 |s l=>exact .s l
 |x v h=>exact .x v h
 |sl rows a cap es ad u hc hm he ha h1 hd ih=>
  refine .sl rows a cap es ad u hc hm he ha (fun i r k d hi hk=> ?_) ih
  obtain⟨hs,hcell⟩:=h1 i r k d hi hk
  refine⟨hS _ hs,?_⟩
  have hb: (ad.add (i*es+k)).block=ad.block:=by unfold Addr.add;split<;>rfl
  rw[World.cell?_of_block (w:=w) (by rw[hb];exact hw _ hs)]
  exact hcell
def CR (σ:St) (ι:Nat→Value) (w:World) (S:Nat→Prop):C→Value→Prop
 | .d x,v=>DR w S x v
 | .nil,v=>v= .slice none 0 0
 | .own o n,v=>v.oneCell'=true∧((∃e es rows,aU σ (.o o)=some (.row e es rows)∧n≤rows.length∧(rows.length=n→v=ι o))∨aU σ (.o o)=some .dead)
 | .pt o k,v=>v.oneCell'=true∧((∃ty cs,aU σ (.o o)=some (.box ty cs)∧ ∃b,ι o= .pointer (some ⟨b,0,none⟩)∧v= .pointer (some ⟨b,k,none⟩))∨aU σ (.o o)=some .dead)
 | .pe o n i k,v=>v.oneCell'=true∧((∃e es rows,aU σ (.o o)=some (.row e es rows)∧n≤rows.length∧(rows.length=n→ ∃g off cap,ι o= .slice (some ⟨g,off,none⟩) n cap∧v= .pointer (some ⟨g,off+i*es+k,none⟩)))∨aU σ (.o o)=some .dead)
 | .rp cs,v=> ∃ad,v= .pointer (some ad)∧ ∀(k:Nat) d,cs[k]? =some d→S ad.block∧ ∃u,w.cell? (ad.add k)=some u∧DR w S d u
 | .z o Q,v=>v.oneCell'=true∧((∃Z,aU σ (.o o)=some (.zone Z)∧ ∀p,Z.le (ι o) p→Q p v)∨aU σ (.o o)=some .dead)
def ER (σ:St) (ι:Nat→Value) (w:World) (S:Nat→Prop):E→Value→Prop
 | .c x,v=>CR σ ι w S x v
 | .agg cs,v=> ∃vs:List Value,v= .agg vs.toArray∧vs.length=cs.length∧ ∀(k:Nat) c u,cs[k]? =some c→vs[k]? =some u→CR σ ι w S c u
def lR (σ:St) (ι:Nat→Value) (w:World) (S:Nat→Prop):V→Value→Prop
 | .e x,v=>ER σ ι w S x v
 | .tup xs,v=> ∃vs:List Value,v= .tuple vs.toArray∧vs.length=xs.length∧ ∀(k:Nat) x u,xs[k]? =some x→vs[k]? =some u→ER σ ι w S x u
def aL3 (fz:Nat×Nat) (n:Nat):Prop:=fz=(0,0)∨n≤fz.1
def OR (σ:St) (ι:Nat→Value) (w:World) (S:Nat→Prop) (p:Value):K→Prop
 | .v _=>True
 | .dead=>True
 | .cv .. =>True
 | .zone Z=>Z.R w S p
 | .box ty cs=> ∃(b:Nat) (vs:Array Value),p= .pointer (some ⟨b,0,none⟩)∧w.heap[b]? =some (.cells vs ty (0,0))∧vs.size=cs.length∧ ∀(k:Nat) c u,cs[k]? =some c→vs[k]? =some u→CR σ ι w S c u
 | .row e es rows=>(p= .slice none 0 0∧rows=[])∨ ∃(g off cap:Nat) (cur:Array Value) (fz:Nat×Nat),p= .slice (some ⟨g,off,none⟩) rows.length cap∧w.heap[g]? =some (.cells cur e fz)∧aL3 fz cur.size∧
  rows.length≤cap∧cap≤maxLen∧off+cap*es≤cur.size∧ ∀(i:Nat) r,rows[i]? =some r→r.length=es∧ ∀(k:Nat) d,r[k]? =some d→ ∃u,cur[off+i*es+k]? =some u∧DR w S d u
def K.live:K→Prop
 | .box .. | .row .. | .zone .. =>True
 |_=>False
def kR (σ:St) (ι:Nat→Value) (o b:Nat):Prop:=(∃k,aU σ (.o o)=some k∧k.live)∧xT (ι o) b
def qU (σ:St) (ι:Nat→Value) (w:World) (S:Nat→Prop):K→Value→Prop
 | .v x,v=>lR σ ι w S x v
 | .cv _ _ b x,v=>(b=true→lR σ ι w S x v)∧(b=false→v=undef)
 |_,_=>True
structure VR (σ:St) (ι ν:Nat→Value) (S:Nat→Prop) (w:World):Prop where
 slots: ∀s k,aU σ (.t s)=some k→qU σ ι w S k (ν s)
 objs: ∀o k,aU σ (.o o)=some k→OR σ ι w S (ι o) k
 mutS: ∀o b,kR σ ι o b→ ¬S b
 inj: ∀o o' b,kR σ ι o b→kR σ ι o' b→o=o'
 sz: ∀b,S b→b<w.heap.size
def nA (p p':Value):K→K→Prop
 |_,.dead=>True
 | .box _ _,.box _ _=>p'=p
 | .row _ es r,.row _ es' r'=>es'=es∧r.length≤r'.length∧(r'.length=r.length→p'=p)
 | .zone Z,.zone Z'=>Z'.le=Z.le∧Z.le p p'
 | .v _,_=>True
 | .cv ..,_=>True
 | .dead,_=>False
 |_,_=>False
structure qT (σ:St) (ι:Nat→Value) (S:Nat→Prop) (w:World) (σ':St) (ι':Nat→Value) (S':Nat→Prop) (w':World):Prop where
 sub: ∀b,S b→S' b
 keep: ∀b,S b→w'.heap[b]? =w.heap[b]?
 evo: ∀o k,aU σ (.o o)=some k→ ∃k',aU σ' (.o o)=some k'∧nA (ι o) (ι' o) k k'
section
variable {σ σ':St} {ι ι' ν:Nat→Value} {S S':Nat→Prop} {w w':World}
theorem CR.step (h:qT σ ι S w σ' ι' S' w') {c:C} {v:Value} (hc:CR σ ι w S c v):CR σ' ι' w' S' c v:=by
 cases c with
 |d x=>exact DR.mono h.sub h.keep hc
 |nil=>exact hc
 |own o n=>
  obtain⟨h1,h2⟩:=hc
  refine⟨h1,?_⟩
  rcases h2 with⟨e,es,rows,hl,hn,hv⟩|hl
  · obtain⟨k',hl',hev⟩:=h.evo o _ hl
    cases k'<;>simp only[nA] at hev
    case dead=>exact .inr hl'
    case row e' es' rows'=>exact .inl ⟨e',es',rows',hl',by omega,fun hh=>by rw[hv (by omega)];exact(hev.2.2 (by omega)).symm⟩
  · obtain⟨k',hl',hev⟩:=h.evo o _ hl
    cases k'<;>simp only[nA] at hev
    exact .inr hl'
 |pt o k=>
  obtain⟨h1,h2⟩:=hc
  refine⟨h1,?_⟩
  rcases h2 with⟨ty,cs,hl,b,hi,hv⟩|hl
  · obtain⟨k',hl',hev⟩:=h.evo o _ hl
    cases k'<;>simp only[nA] at hev
    case dead=>exact .inr hl'
    case box ty' cs'=>exact .inl ⟨ty',cs',hl',b,by rw[hev];exact hi,hv⟩
  · obtain⟨k',hl',hev⟩:=h.evo o _ hl
    cases k'<;>simp only[nA] at hev
    exact .inr hl'
 |pe o n i k=>
  obtain⟨h1,h2⟩:=hc
  refine⟨h1,?_⟩
  rcases h2 with⟨e,es,rows,hl,hn,hv⟩|hl
  · obtain⟨k',hl',hev⟩:=h.evo o _ hl
    cases k'<;>simp only[nA] at hev
    case dead=>exact .inr hl'
    case row e' es' rows'=>
     refine .inl ⟨e',es',rows',hl',by omega,fun hh=> ?_⟩
     obtain⟨g,off,cap,hi,hvv⟩:=hv (by omega)
     exact⟨g,off,cap,by rw[hev.2.2 (by omega)];exact hi,by rw[hev.1];exact hvv⟩
  · obtain⟨k',hl',hev⟩:=h.evo o _ hl
    cases k'<;>simp only[nA] at hev
    exact .inr hl'
 |rp cs=>
  obtain⟨ad,hv,hk⟩:=hc
  refine⟨ad,hv,fun k d hd=> ?_⟩
  obtain⟨hs,u,hu,hdr⟩:=hk k d hd
  refine⟨h.sub _ hs,u,?_,DR.mono h.sub h.keep hdr⟩
  have hb: (ad.add k).block=ad.block:=by unfold Addr.add;split<;>rfl
  rw[World.cell?_of_block (w:=w) (by rw[hb];exact h.keep _ hs)]
  exact hu
 |z o Q=>
  obtain⟨h1,h2⟩:=hc
  refine⟨h1,?_⟩
  rcases h2 with⟨Z,hl,hq⟩|hl
  · obtain⟨k',hl',hev⟩:=h.evo o _ hl
    cases k'<;>simp only[nA] at hev
    case dead=>exact .inr hl'
    case zone Z'=>exact .inl ⟨Z',hl',fun p hp=>hq p (Z.trans hev.2 (by rw[← hev.1];exact hp))⟩
  · obtain⟨k',hl',hev⟩:=h.evo o _ hl
    cases k'<;>simp only[nA] at hev
    exact .inr hl'
theorem ER.step (h:qT σ ι S w σ' ι' S' w') {c:E} {v:Value} (hc:ER σ ι w S c v):ER σ' ι' w' S' c v:=by
 cases c with
 |c x=>exact CR.step h hc
 |agg cs=>
  obtain⟨vs,hv,hl,hk⟩:=hc
  exact⟨vs,hv,hl,fun k c u h1 h2=>CR.step h (hk k c u h1 h2)⟩
theorem lR.step (h:qT σ ι S w σ' ι' S' w') {c:V} {v:Value} (hc:lR σ ι w S c v):lR σ' ι' w' S' c v:=by
 cases c with
 |e x=>exact ER.step h hc
 |tup cs=>
  obtain⟨vs,hv,hl,hk⟩:=hc
  exact⟨vs,hv,hl,fun k c u h1 h2=>ER.step h (hk k c u h1 h2)⟩
theorem qU.step (h:qT σ ι S w σ' ι' S' w') {k:K} {v:Value} (hc:qU σ ι w S k v):qU σ' ι' w' S' k v:=by
 cases k with
 |v x=>exact lR.step h hc
 |cv s want b x=>exact⟨fun hb=>lR.step h (hc.1 hb),hc.2⟩
 |_=>trivial
theorem OR.step (h:qT σ ι S w σ' ι' S' w') {p:Value} {k:K} (hb: ∀b,xT p b→w'.heap[b]? =w.heap[b]?) (hk:OR σ ι w S p k):OR σ' ι' w' S' p k:=by
 cases k with
 |v _=>trivial
 |dead=>trivial
 |cv _ _ _ _=>trivial
 |zone Z=>exact Z.mono h.sub h.keep hb hk
 |box ty cs=>
  obtain⟨b,vs,rfl,hh,hs,hc⟩:=hk
  exact⟨b,vs,rfl,by rw[hb b rfl];exact hh,hs,fun k c u h1 h2=>CR.step h (hc k c u h1 h2)⟩
 |row e es rows=>
  rcases hk with hn|⟨g,off,cap,cur,fz,rfl,hh,hfz,h1,h2,h3,h4⟩
  · exact .inl hn
  · refine .inr ⟨g,off,cap,cur,fz,rfl,by rw[hb g rfl];exact hh,hfz,h1,h2,h3,fun i r hr=>⟨(h4 i r hr).1,fun k d hd=> ?_⟩⟩
    obtain⟨u,hu,hdr⟩:=(h4 i r hr).2 k d hd
    exact⟨u,hu,DR.mono h.sub h.keep hdr⟩
theorem nA.refl (p:Value) {k:K}:k≠ .dead→nA p p k k:=by
 intro h
 cases k<;>simp_all[nA,ia.refl]
theorem nA.refl' (p:Value) (k:K):nA p p k k:=by cases k<;>simp[nA,ia.refl]
end
structure Fr (M:Nat→Prop) (w0 w:World):Prop where
 os:w.os=w0.os
 tape:w.tape=w0.tape
 output:w.output=w0.output
 size:w0.heap.size≤w.heap.size
 block: ∀b,b<w0.heap.size→ ¬M b→w.heap[b]? =w0.heap[b]?
theorem Fr.refl (M:Nat→Prop) (w:World):Fr M w w:=⟨rfl,rfl,rfl,aVf _,fun _ _ _=>rfl⟩
theorem Fr.trans {M M':Nat→Prop} {a b c:World} (h:Fr M a b) (k:Fr M' b c) (hM: ∀x,x<a.heap.size→M' x→M x):Fr M a c:=
 ⟨k.os.trans h.os,k.tape.trans h.tape,k.output.trans h.output,Nat.le_trans h.size k.size,
  fun x hx hm=>(k.block x (Nat.lt_of_lt_of_le hx h.size) (fun h'=>hm (hM x hx h'))).trans (h.block x hx hm)⟩
theorem Fr.weak {M M':Nat→Prop} {a b:World} (h:Fr M' a b) (hM: ∀x,M' x→M x):Fr M a b:=(Fr.refl M a).trans h fun x _ hx=>hM x hx
def aJq (P:Program) (w:World):Prop:=Lib.TabIs P w "internal/strconv.uint64pow10" .u64 Lib.pow10Tab∧ ∃m,w.var? P "internal/bytealg.MaxLen" =some #[.int .i64 m]
def GB (P:Program) (w:World) (M:Nat→Prop):Prop:= ∀w',Fr M w w'→aJq P w'
theorem GB.weak {P:Program} {w:World} {M M':Nat→Prop} (h:GB P w M) (hM: ∀x,M' x→M x):GB P w M':=fun w' h'=>h w' (h'.weak hM)
structure Cx (P:Program) where
 N:Nat
 w0:World
 S0:Nat→Prop
 k0:Nat→Option K
 kio:Nat→Option K
 ι0:Nat→Value
 gb:GB P w0 fun b=> ∃o k,k0 o=some k∧k.live∧xT (ι0 o) b
def Cx.M {P:Program} (cx:Cx P) (b:Nat):Prop:= ∃o k,cx.k0 o=some k∧k.live∧xT (cx.ι0 o) b
def iJ (a:Act):Nat→Value:=fun s=>a.tmps.getD s undef
structure RW {P:Program} (cx:Cx P) (σ:St) (ι:Nat→Value) (S:Nat→Prop) (a:Act) (w:World):Prop where
 vr:VR σ ι (iJ a) S w
 size:a.tmps.size=cx.N
 defers:a.defers=[]
 fr:Fr cx.M cx.w0 w
 own: ∀o b,kR σ ι o b→cx.w0.heap.size≤b∨cx.M b
 rd: ∀b,S b→cx.S0 b∨cx.w0.heap.size≤b∨cx.M b
 io: ∀o k,cx.kio o=some k→ ∃k',aU σ (.o o)=some k'∧nA (cx.ι0 o) (ι o) k k'
theorem nA.trans {p q r:Value} {a b c:K} (h:nA p q a b) (k:nA q r b c):nA p r a c:=by
 cases a<;>cases b<;>cases c<;>simp_all[nA]
 · obtain⟨h1,h2,h3⟩:=h
   obtain⟨k1,k2,k3⟩:=k
   exact⟨by omega,fun hh=>(k3 (by omega)).trans (h3 (by omega))⟩
 · exact ia.trans _ h.2 k.2
theorem fh {a:Act} {d:Nat} (hd:d<a.tmps.size) (v:Value) (s:Nat):iJ (a.put (some d) v) s=if s=d then v else iJ a s:=by
 unfold iJ Act.put
 by_cases h:s=d
 · subst h;simp[hd]
 · rw[if_neg h]
   simp only[Array.getD_eq_getD_getElem?]
   rw[Array.getElem?_setIfInBounds_ne (fun e=>h e.symm)]
theorem aC2 (a:Act) (v:Value):a.put none v=a:=rfl
section
variable {P:Program} {cx:Cx P} {σ:St} {ι:Nat→Value} {S:Nat→Prop} {a:Act} {w:World}
theorem oe {s:Nat} {k:K} {o b:Nat}:kR (pM σ (.t s) k) ι o b↔kR σ ι o b:=by
 unfold kR
 rw[cM _ _ (by simp)]
theorem qT.t {s:Nat} {k:K}:qT σ ι S w (pM σ (.t s) k) ι S w:=
 ⟨fun _ h=>h,fun _ _=>rfl,fun o k h=>⟨k,by rw[cM _ _ (by simp)];exact h,nA.refl' _ _⟩⟩
theorem OR.t {s:Nat} {k k':K} {p:Value} (h:OR σ ι w S p k'):OR (pM σ (.t s) k) ι w S p k':=OR.step qT.t (fun _ _=>rfl) h
theorem RW.put (h:RW cx σ ι S a w) {d:Nat} (hd:d<cx.N) {x:V} {v:Value} (hx:lR σ ι w S x v):RW cx (pM σ (.t d) (.v x)) ι S (a.put (some d) v) w:=by
 have hd':d<a.tmps.size:=by rw[h.size];exact hd
 refine⟨⟨fun s y hy=> ?_,fun o k hk=> ?_,fun o b hm=> ?_,fun o o' b hm hm'=> ?_,h.vr.sz⟩,?_,h.defers,h.fr,fun o b hm=>h.own o b (oe.1 hm),h.rd,fun o k ho=>by rw[cM _ _ (by simp)];exact h.io o k ho⟩
 · rw[fh hd']
   rw[oI] at hy
   by_cases e:d=s
   · subst e
     simp at hy
     subst hy
     rw[if_pos rfl]
     exact lR.step qT.t hx
   · rw[if_neg (by simpa using e)] at hy
     rw[if_neg (fun h=>e h.symm)]
     exact qU.step qT.t (h.vr.slots s y hy)
 · rw[cM _ _ (by simp)] at hk
   exact OR.t (h.vr.objs o k hk)
 · exact h.vr.mutS o b (oe.1 hm)
 · exact h.vr.inj o o' b (oe.1 hm) (oe.1 hm')
 · simpa[Act.put] using h.size
theorem RW.putDead (h:RW cx σ ι S a w) {d:Nat} (hd:d<cx.N) (v:Value):RW cx (pM σ (.t d) .dead) ι S (a.put (some d) v) w:=by
 have hd':d<a.tmps.size:=by rw[h.size];exact hd
 refine⟨⟨fun s y hy=> ?_,fun o k hk=> ?_,fun o b hm=> ?_,fun o o' b hm hm'=> ?_,h.vr.sz⟩,?_,h.defers,h.fr,fun o b hm=>h.own o b (oe.1 hm),h.rd,fun o k ho=>by rw[cM _ _ (by simp)];exact h.io o k ho⟩
 · rw[fh hd']
   rw[oI] at hy
   by_cases e:d=s
   · subst e
     simp at hy
     subst hy
     trivial
   · rw[if_neg (by simpa using e)] at hy
     rw[if_neg (fun h=>e h.symm)]
     exact qU.step qT.t (h.vr.slots s y hy)
 · rw[cM _ _ (by simp)] at hk
   exact OR.t (h.vr.objs o k hk)
 · exact h.vr.mutS o b (oe.1 hm)
 · exact h.vr.inj o o' b (oe.1 hm) (oe.1 hm')
 · simpa[Act.put] using h.size
theorem VR.of_heap {ν:Nat→Value} {w':World} (h:VR σ ι ν S w) (hh:w'.heap=w.heap):VR σ ι ν S w':=by
 have st:qT σ ι S w σ ι S w':=⟨fun _ h=>h,fun _ _=>by rw[hh],fun o k h=>⟨k,h,nA.refl' _ _⟩⟩
 exact⟨fun s x hx=>qU.step st (h.slots s x hx),fun o k hk=>OR.step st (fun _ _=>by rw[hh]) (h.objs o k hk),h.mutS,h.inj,fun b hb=>by rw[hh];exact h.sz b hb⟩
theorem RW.drew (h:RW cx σ ι S a w):RW cx σ ι S a {w with drawn:=w.drawn+1}:=
 ⟨h.vr.of_heap rfl,h.size,h.defers,⟨h.fr.os,h.fr.tape,h.fr.output,h.fr.size,h.fr.block⟩,h.own,h.rd,h.io⟩
theorem OR.lt {p:Value} {k:K} {b:Nat} (h:OR σ ι w S p k) (hl:k.live) (hb:xT p b):b<w.heap.size:=by
 cases k with
 |v _=>exact hl.elim
 |dead=>exact hl.elim
 |cv _ _ _ _=>exact hl.elim
 |zone Z=>exact Z.lt h hb
 |box ty cs=>
  obtain⟨b',vs,rfl,hh,_⟩:=h
  simp[xT] at hb;subst hb
  exact(Array.getElem?_eq_some_iff.1 hh).1
 |row e es rows=>
  rcases h with⟨rfl,_⟩|⟨g,off,cap,cur,fz,rfl,hh,_⟩
  · simp[xT] at hb
  · simp[xT] at hb;subst hb
    exact(Array.getElem?_eq_some_iff.1 hh).1
structure aJr (σ:St) (ι:Nat→Value) (S:Nat→Prop) (w:World) (id:Nat) (old:Option Nat) (k:K) (p:Value) (w':World):Prop where
 os:w'.os=w.os
 tape:w'.tape=w.tape
 output:w'.output=w.output
 size:w.heap.size≤w'.heap.size
 block: ∀b,b<w.heap.size→some b≠old→w'.heap[b]? =w.heap[b]?
 mine: ∀b,old=some b→kR σ ι id b
 evo:aU σ (.o id)=none∨ ∃k0,aU σ (.o id)=some k0∧nA (ι id) p k0 k
 new: ∀b,xT p b→some b=old∨w.heap.size≤b
 or_:OR (pM σ (.o id) k) (fun o=>if o=id then p else ι o) w' S p k
theorem VR.turn {ν:Nat→Value} (h:VR σ ι ν S w) {id:Nat} {old:Option Nat} {k:K} {p:Value} {w':World} (t:aJr σ ι S w id old k p w'):
 VR (pM σ (.o id) k) (fun o=>if o=id then p else ι o) ν S w':=by
 have keepS: ∀b,S b→w'.heap[b]? =w.heap[b]?:=fun b hb=>t.block b (h.sz b hb) (fun e=>h.mutS id b (t.mine b e.symm) hb)
 have st:qT σ ι S w (pM σ (.o id) k) (fun o=>if o=id then p else ι o) S w':=by
  refine⟨fun _ h=>h,keepS,fun o k0 hk=> ?_⟩
  by_cases e:o=id
  · subst e
    refine⟨k,cX _ _ _,?_⟩
    rcases t.evo with hn|⟨k1,hk1,hev⟩
    · rw[hn] at hk;cases hk
    · rw[hk1] at hk;cases hk;rw[if_pos rfl];exact hev
  · refine⟨k0,by rw[cM _ _ (by simpa using fun h=>e h.symm)];exact hk,?_⟩
    rw[if_neg e];exact nA.refl' _ _
 have mut_ne: ∀o b,o≠id→kR (pM σ (.o id) k) (fun o=>if o=id then p else ι o) o b→kR σ ι o b:=by
  intro o b ne hm
  obtain⟨⟨k0,hk,hl⟩,hb⟩:=hm
  rw[cM _ _ (by simpa using fun h=>ne h.symm)] at hk
  dsimp only at hb
  rw[if_neg ne] at hb
  exact⟨⟨k0,hk,hl⟩,hb⟩
 have mlt: ∀o b,kR σ ι o b→b<w.heap.size:=fun o b ⟨⟨k0,hk,hl⟩,hb⟩=>OR.lt (h.objs o k0 hk) hl hb
 have mid: ∀b,kR (pM σ (.o id) k) (fun o=>if o=id then p else ι o) id b→some b=old∨w.heap.size≤b:=by
  intro b hm
  have hb:=hm.2
  dsimp only at hb
  rw[if_pos rfl] at hb
  exact t.new b hb
 refine⟨fun s x hx=> ?_,fun o k0 hk=> ?_,fun o b hm hS=> ?_,fun o o' b hm hm'=> ?_,fun b hb=>Nat.lt_of_lt_of_le (h.sz b hb) t.size⟩
 · rw[cM _ _ (by simp)] at hx
   exact qU.step st (h.slots s x hx)
 · by_cases e:o=id
   · subst e
     rw[cX] at hk;cases hk
     rw[if_pos rfl]
     exact t.or_
   · rw[cM _ _ (by simpa using fun h=>e h.symm)] at hk
     rw[if_neg e]
     have ho:=h.objs o k0 hk
     by_cases hl:k0.live
     · refine OR.step st (fun b hb=> ?_) ho
       have hmut:kR σ ι o b:=⟨⟨k0,hk,hl⟩,hb⟩
       exact t.block b (mlt o b hmut) (fun e2=>e (h.inj o id b hmut (t.mine b e2.symm)))
     · cases k0<;>simp[K.live] at hl<;>trivial
 · by_cases e:o=id
   · subst e
     rcases mid b hm with h1|h1
     · exact h.mutS o b (t.mine b h1.symm) hS
     · have:=h.sz b hS;omega
   · exact h.mutS o b (mut_ne o b e hm) hS
 · by_cases e:o=id
   · by_cases e':o'=id
     · rw[e,e']
     · subst e
       have h2:=mut_ne o' b e' hm'
       rcases mid b hm with h1|h1
       · exact absurd (h.inj o' o b h2 (t.mine b h1.symm)) e'
       · have:=mlt o' b h2;omega
   · by_cases e':o'=id
     · subst e'
       have h2:=mut_ne o b e hm
       rcases mid b hm' with h1|h1
       · exact absurd (h.inj o o' b h2 (t.mine b h1.symm)) e
       · have:=mlt o b h2;omega
     · exact h.inj o o' b (mut_ne o b e hm) (mut_ne o' b e' hm')
theorem RW.turn (h:RW cx σ ι S a w) {id:Nat} {old:Option Nat} {k:K} {p:Value} {w':World} (t:aJr σ ι S w id old k p w'):
 RW cx (pM σ (.o id) k) (fun o=>if o=id then p else ι o) S a w':=by
 refine⟨h.vr.turn t,h.size,h.defers,⟨t.os.trans h.fr.os,t.tape.trans h.fr.tape,t.output.trans h.fr.output,Nat.le_trans h.fr.size t.size,fun b hb hm=> ?_⟩,fun o b hm=> ?_,h.rd,fun o k1 ho=> ?_⟩
 · rw[t.block b (Nat.lt_of_lt_of_le hb h.fr.size) (fun e=> ?_)]
   · exact h.fr.block b hb hm
   · rcases h.own id b (t.mine b e.symm) with h1|h1
     · omega
     · exact hm h1
 · by_cases e:o=id
   · subst e
     have hb:=hm.2
     dsimp only at hb
     rw[if_pos rfl] at hb
     rcases t.new b hb with h1|h1
     · exact h.own o b (t.mine b h1.symm)
     · exact .inl (Nat.le_trans h.fr.size h1)
   · obtain⟨⟨k0,hk,hl⟩,hb⟩:=hm
     rw[cM _ _ (by simpa using fun h=>e h.symm)] at hk
     dsimp only at hb
     rw[if_neg e] at hb
     exact h.own o b ⟨⟨k0,hk,hl⟩,hb⟩
 · obtain⟨k',hk',hev⟩:=h.io o k1 ho
   by_cases e:o=id
   · subst e
     refine⟨k,cX _ _ _,?_⟩
     rw[if_pos rfl]
     rcases t.evo with hn|⟨k2,hk2,hev2⟩
     · rw[hn] at hk';cases hk'
     · rw[hk2] at hk';cases hk';exact hev.trans hev2
   · refine⟨k',by rw[cM _ _ (by simpa using fun h=>e h.symm)];exact hk',?_⟩
     rw[if_neg e];exact hev
end
abbrev I (n:Int):V:= .e (.c (.d (.i n)))
abbrev B (x:Bool):V:= .e (.c (.d (.b x)))
abbrev Dv (x:D):V:= .e (.c (.d x))
def bL (R:List (dF×Option K)) (σ:St):Prop:= ∀p∈R,aU σ p.1=p.2
theorem bL.left {R R':List (dF×Option K)} {σ:St} (h:bL (R++R') σ):bL R σ:=fun p hp=>h p (List.mem_append_left _ hp)
theorem bL.right {R R':List (dF×Option K)} {σ:St} (h:bL (R++R') σ):bL R' σ:=fun p hp=>h p (List.mem_append_right _ hp)
def wY (P:Program) (o:Oper) (R:List (dF×Option K)) (W:List (dF×K)):Prop:=
 ∀(cx:Cx P) (σ:St) (ι:Nat→Value) (S:Nat→Prop) (a:Act) (w:World),bL R σ→RW cx σ ι S a w→(∀d,o.dst=some d→d<cx.N)→
  ∀(next:Act→World→Prop) (Q:Exit→Act→World→Prop),(∀ι' S' a' w',RW cx (iL σ W) ι' S' a' w'→next a' w')→o.wp P a w next Q
theorem nS {P:Program} {o:Oper} {d:Nat} {R:List (dF×Option K)} {x:V} (hd:o.dst=some d)
 (h: ∀(cx:Cx P) (σ:St) (ι:Nat→Value) (S:Nat→Prop) (a:Act) (w:World),bL R σ→RW cx σ ι S a w→ ∃v,(execOp a.eval o).run P w= .ok (.value v) w∧lR σ ι w S x v):
 wY P o R [(.t d,.v x)]:=by
 intro cx σ ι S a w hr hw hb next Q hn
 obtain⟨v,he,hx⟩:=h cx σ ι S a w hr hw
 unfold Oper.wp
 rw[he]
 simp only[Oper.upon,hd]
 exact hn ι S _ w (hw.put (hb d hd) hx)
def aA3:Value→C
 | .int .i64 n=> .d (.i n)
 | .int .u8 n=> .d (.u n)
 | .bool x=> .d (.b x)
 | .string s=> .d (.s s.data.toList)
 | .slice none 0 0=> .nil
 |v=> .d (.x v)
def ev (σ:St):Operand→Option (V×List (dF×Option K))
 | .tmp t=>match aU σ (.t t) with
  |some (.v X)=>some (X,[(.t t,some (.v X))])
  |_=>none
 | .const v=>if v.oneCell' then some (.e (.c (aA3 v)),[]) else none
 |_=>none
theorem ib {σ:St} {ι:Nat→Value} {w:World} {S:Nat→Prop} {v:Value} (h:v.oneCell'=true):CR σ ι w S (aA3 v) v:=by
 unfold aA3
 split
 · exact .i _
 · exact .u _
 · exact .b _
 · exact .s _
 · rfl
 · exact .x _ h
theorem cZ {σ:St} {x:Operand} {X:V} {R:List (dF×Option K)} (h:ev σ x=some (X,R)):bL R σ:=by
 intro p hp
 cases x with
 |tmp t=>
  simp only[ev] at h
  split at h
  · rename_i X' hl
    simp at h
    obtain⟨rfl,rfl⟩:=h
    simp at hp
    subst hp
    exact hl
  · cases h
 |const v=>
  simp only[ev] at h
  split at h
  · simp at h;obtain⟨rfl,rfl⟩:=h;simp at hp
  · cases h
 |global g=>simp[ev] at h
 |func f=>simp[ev] at h
theorem dG {σ0:St} {x:Operand} {X:V} {R:List (dF×Option K)} (h:ev σ0 x=some (X,R)) {P:Program} {cx:Cx P} {σ:St} {ι:Nat→Value} {S:Nat→Prop} {a:Act} {w:World}
 (hr:bL R σ) (hw:RW cx σ ι S a w):lR σ ι w S X (a.eval x):=by
 cases x with
 |tmp t=>
  simp only[ev] at h
  split at h
  · rename_i X' hl
    simp at h
    obtain⟨rfl,rfl⟩:=h
    exact hw.vr.slots t _ (hr (.t t,some (.v X')) (by simp))
  · cases h
 |const v=>
  simp only[ev] at h
  split at h
  · rename_i hv
    simp at h;obtain⟨rfl,rfl⟩:=h
    exact ib hv
  · cases h
 |global g=>simp[ev] at h
 |func f=>simp[ev] at h
inductive TK where
 |int (k:IntKind)
 |bool
 |str
 |sl (e:TypeId)
 |st (fs:List (Nat×TypeId))
 |arr (n:Nat) (e:TypeId)
 |ptr (e:TypeId)
structure TI where
 kind:TK
 size:Nat
 bytes:Nat
 zero:List C
abbrev gQ:=TypeId→Option TI
def TK.agg:TK→Bool
 | .st _| .arr _ _=>true
 |_=>false
def zv:C→Value
 | .d (.i n)=> .int .i64 n
 | .d (.u n)=> .int .u8 n
 | .d (.b x)=> .bool x
 | .d (.s l)=> .string ⟨l.toArray⟩
 | .d (.x v)=>v
 |_=> .slice none 0 0
def aA4:C→Bool
 | .nil=>true
 | .d (.sl _)=>false
 | .d (.x v)=>v.oneCell'
 | .d _=>true
 |_=>false
theorem tK {σ:St} {ι:Nat→Value} {w:World} {S:Nat→Prop} {c:C} (h:aA4 c=true):CR σ ι w S c (zv c):=by
 cases c with
 |d x=>cases x<;>simp[aA4] at h<;>(simp only[zv,CR];constructor)<;>assumption
 |nil=>rfl
 |_=>simp[aA4] at h
def lU (P:Program) (t:TypeId):TK→Prop
 | .int k=>P.underlying t=some (.int k)
 | .bool=>P.underlying t=some .bool
 | .str=>P.underlying t=some .string
 | .sl e=>P.underlying t=some (.slice e)
 | .st fs=> ∃fields,P.underlying t=some (.struct fields)∧fields.toList.map (fun f=>(f.offset,f.type))=fs
 | .arr n e=>P.underlying t=some (.array n e)
 | .ptr e=>P.underlying t=some (.pointer e)
structure eV (P:Program) (t:TypeId) (x:TI):Prop where
 kind:lU P t x.kind
 info: ∃i z,P.info? t=some i∧i.size=x.size∧i.bytes=x.bytes∧i.zero=some z∧z.cells.toList=x.zero.map zv
 zlen:x.zero.length=x.size
 zok:x.zero.all aA4=true
 pos:0<x.size
 bpos:0<x.bytes
def dR (P:Program) (T:gQ):Prop:= ∀t x,T t=some x→eV P t x
section
variable {P:Program} {T:gQ} {t:TypeId} {x:TI} {w:World}
theorem fO (h:eV P t x): (sizeOf t).run P w= .ok x.size w:=by
 obtain⟨i,z,hi,hs,_⟩:=h.info
 simp[sizeOf,typeInfo,hi,hs]
theorem qZ (h:eV P t x): (isAgg t).run P w= .ok x.kind.agg w:=by
 have hk:=h.kind
 unfold isAgg
 cases hx:x.kind<;>rw[hx] at hk<;>simp only[lU] at hk
 case st fs=>
  obtain⟨fields,hu,_⟩:=hk
  rw[Sem.run_bind,run_underlying hu];rfl
 all_goals(rw[Sem.run_bind,run_underlying hk];rfl)
theorem aJs (h:eV P t x): ∃z,(zeroValue t).run P w= .ok z w∧z.cells.toList=x.zero.map zv:=by
 obtain⟨i,z,hi,_,_,hz,hc⟩:=h.info
 exact⟨z,by simp[zeroValue,typeInfo,hi,hz],hc⟩
theorem mA (h:eV P t x) (hg:x.kind.agg=true) (a:Addr) (cells:List Value) (hl:cells.length=x.size) (hc: ∀(j:Nat) v,cells[j]? =some v→w.cell? (a.add j)=some v):
 (loadVar t a).run P w= .ok (.agg cells.toArray) w:=by
 have:=run_loadCells_list (P:=P) w a cells hc
 simp[loadVar,qZ h,hg,fO h,← hl,this]
theorem sV (h:eV P t x) (hg:x.kind.agg=false) (a:Addr) (v:Value) (hc:w.cell? a=some v): (loadVar t a).run P w= .ok v w:=by
 simp[loadVar,qZ h,hg,run_load,hc]
end
set_option linter.unusedSimpArgs false
abbrev xg:=Option (Prop×List (dF×Option K)×List (dF×K))
def lS (P:Program) (o:Oper) (σ:St) (r:xg):Prop:= ∀p R W,r=some (p,R,W)→p→wY P o R W∧bL R σ
def kJ (σ:St) (x:Operand) (d:Option Tmp) (f:V→Option (Prop×List (dF×Option K)×V)):xg:=
 match ev σ x,d with
 |some (X,R),some d=>match f X with
  |some (p,R',Y)=>some (p,R++R',[(.t d,.v Y)])
  |none=>none
 |_,_=>none
def qW (σ:St) (x y:Operand) (d:Option Tmp) (f:V→V→Option (Prop×List (dF×Option K)×V)):xg:=
 match ev σ x,ev σ y,d with
 |some (X,R),some (Y,R2),some d=>match f X Y with
  |some (p,R',Z)=>some (p,R++R2++R',[(.t d,.v Z)])
  |none=>none
 |_,_,_=>none
theorem bL.append {R R':List (dF×Option K)} {σ:St} (h:bL R σ) (h':bL R' σ):bL (R++R') σ:=fun p hp=>(List.mem_append.1 hp).elim (h p) (h' p)
theorem bL.nil {σ:St}:bL [] σ:=fun _ h=>by cases h
theorem bL.one {σ:St} {l:dF} {k:Option K} (h:aU σ l=k):bL [(l,k)] σ:=fun p hp=>by simp at hp;subst hp;exact h
theorem kZ {P:Program} {o:Oper} {σ0:St} {x:Operand} {f:V→Option (Prop×List (dF×Option K)×V)}
 (hf: ∀X p R Y,f X=some (p,R,Y)→p→bL R σ0∧ ∀(cx:Cx P) (σ:St) (ι:Nat→Value) (S:Nat→Prop) (a:Act) (w:World),bL R σ→RW cx σ ι S a w→lR σ ι w S X (a.eval x)→
  ∃v,(execOp a.eval o).run P w= .ok (.value v) w∧lR σ ι w S Y v):lS P o σ0 (kJ σ0 x o.dst f):=by
 intro p R W h hp
 unfold kJ at h
 split at h
 · rename_i X Rx d hx hd
   split at h
   · rename_i p' R' Y hfx
     simp only[Option.some.injEq,Prod.mk.injEq] at h
     obtain⟨rfl,rfl,rfl⟩:=h
     obtain⟨h1,h2⟩:=hf X p' R' Y hfx hp
     exact⟨nS hd fun cx σ ι S a w hr hw=>h2 cx σ ι S a w hr.right hw (dG hx hr.left hw),(cZ hx).append h1⟩
   · cases h
 · cases h
theorem rA {P:Program} {o:Oper} {σ0:St} {x y:Operand} {f:V→V→Option (Prop×List (dF×Option K)×V)}
 (hf: ∀X Y p R Z,f X Y=some (p,R,Z)→p→bL R σ0∧ ∀(cx:Cx P) (σ:St) (ι:Nat→Value) (S:Nat→Prop) (a:Act) (w:World),bL R σ→RW cx σ ι S a w→lR σ ι w S X (a.eval x)→lR σ ι w S Y (a.eval y)→
  ∃v,(execOp a.eval o).run P w= .ok (.value v) w∧lR σ ι w S Z v):lS P o σ0 (qW σ0 x y o.dst f):=by
 intro p R W h hp
 unfold qW at h
 split at h
 · rename_i X Rx Y Ry d hx hy hd
   split at h
   · rename_i p' R' Z hfx
     simp only[Option.some.injEq,Prod.mk.injEq] at h
     obtain⟨rfl,rfl,rfl⟩:=h
     obtain⟨h1,h2⟩:=hf X Y p' R' Z hfx hp
     exact⟨nS hd fun cx σ ι S a w hr hw=>h2 cx σ ι S a w hr.right hw (dG hx hr.left.left hw) (dG hy hr.left.right hw),((cZ hx).append (cZ hy)).append h1⟩
   · cases h
 · cases h
def fId:V→Option (Prop×List (dF×Option K)×V):=fun X=>some (True,[],X)
theorem yu {P:Program} {o:Oper} {σ:St} {x:Operand} (ho:o.op= .move x∨o.op= .assign x):lS P o σ (kJ σ x o.dst fId):=
 kZ fun X p R Y h _=>by
  cases h
  refine⟨bL.nil,fun cx σ ι S a w _ _ hx=>⟨a.eval x,?_,hx⟩⟩
  rcases ho with ho|ho<;>simp[execOp,ho]
theorem xh {P:Program} {T:gQ} {o:Oper} {σ0:St} {x:Operand} (ho:o.op= .nilCheck x):
 lS P o σ0 (kJ σ0 x o.dst fun X=>match X with
  | .e (.c (.pt ob k))=>match aU σ0 (.o ob) with
   |some (.box ty cs)=>some (True,[(.o ob,some (.box ty cs))],.e (.c (.pt ob k)))
   |_=>none
  |_=>none):=
 kZ fun X p R Y h _=>by
  split at h
  · rename_i ob k
    split at h
    · rename_i ty cs hl
      cases h
      refine⟨bL.one hl,fun cx σ ι S a w hr hw hx=> ?_⟩
      have hl':=hr (.o ob,some (.box ty cs)) (by simp)
      have hx':CR σ ι w S (.pt ob k) (a.eval x):=hx
      obtain⟨_,h2⟩:=hx'
      rcases h2 with⟨ty',cs',hl2,b,hi,hv⟩|hd
      · exact⟨a.eval x,by simp[execOp,ho,hv],hx⟩
      · dsimp only at hl';rw[hl'] at hd;cases hd
    · cases h
  · cases h
def ri (i:Nat):V→Option (Prop×List (dF×Option K)×V)
 | .tup xs=>match xs[i]? with
  |some x=>some (True,[],.e x)
  |none=>none
 |_=>none
theorem aA5 {P:Program} {o:Oper} {σ:St} {x:Operand} {i:Nat} (ho:o.op= .extract x i):lS P o σ (kJ σ x o.dst (ri i)):=
 kZ fun X p R Y h _=>by
  unfold ri at h
  split at h
  · rename_i xs
    split at h
    · rename_i y hy
      cases h
      refine⟨bL.nil,fun cx σ ι S a w _ _ hx=> ?_⟩
      obtain⟨vs,hv,hl,hk⟩:=hx
      have hi:i<vs.length:=by rw[hl];exact(aVe.1 hy).1
      exact⟨vs[i],by simp[execOp,ho,hv,Instr.extract,hi],hk i y _ hy (aVd hi)⟩
    · cases h
  · cases h
def yv (m n:Int):Int:=IntKind.i64.wrap ((BitVec.ofInt IntKind.i64.bits m ^^^ BitVec.ofInt IntKind.i64.bits n).toNat)
def lq (m n:Int):Int:=IntKind.u8.wrap ((BitVec.ofInt IntKind.u8.bits m ^^^ BitVec.ofInt IntKind.u8.bits n).toNat)
def iM (n:Int):Int:=n % 256
theorem wZ (n:Int):IntKind.i64.wrap n=wrap64 n:=IntKind.wrap_i64 n
theorem ic (n:Int):IntKind.u8.wrap n=iM n:=by
 simp[IntKind.wrap,IntKind.bits,IntKind.signed,iM]
def aL4:Nat:=9223372036854775807
def bin:BinOp→D→D→Option (Prop×D)
 | .add,.i m,.i n=>some (True,.i (wrap64 (m+n)))
 | .sub,.i m,.i n=>some (True,.i (wrap64 (m - n)))
 | .mul,.i m,.i n=>some (True,.i (wrap64 (m*n)))
 | .quo,.i m,.i n=>some (n≠0,.i (wrap64 (m.tdiv n)))
 | .rem,.i m,.i n=>some (n≠0,.i (m.tmod n))
 | .xor,.i m,.i n=>some (True,.i (yv m n))
 | .eql,.i m,.i n=>some (True,.b (m==n))
 | .neq,.i m,.i n=>some (True,.b (m != n))
 | .lss,.i m,.i n=>some (True,.b (decide (m<n)))
 | .leq,.i m,.i n=>some (True,.b (decide (m≤n)))
 | .gtr,.i m,.i n=>some (True,.b (decide (m>n)))
 | .geq,.i m,.i n=>some (True,.b (decide (m≥n)))
 | .add,.u m,.u n=>some (True,.u (iM (m+n)))
 | .sub,.u m,.u n=>some (True,.u (iM (m - n)))
 | .xor,.u m,.u n=>some (True,.u (lq m n))
 | .eql,.u m,.u n=>some (True,.b (m==n))
 | .neq,.u m,.u n=>some (True,.b (m != n))
 | .lss,.u m,.u n=>some (True,.b (decide (m<n)))
 | .leq,.u m,.u n=>some (True,.b (decide (m≤n)))
 | .gtr,.u m,.u n=>some (True,.b (decide (m>n)))
 | .geq,.u m,.u n=>some (True,.b (decide (m≥n)))
 | .add,.s l,.s r=>some (l.length+r.length≤aL4,.s (l++r))
 | .eql,.s l,.s r=>some (True,.b (l==r))
 | .neq,.s l,.s r=>some (True,.b (!(l==r)))
 |_,_,_=>none
theorem aJt (l:List UInt8): (⟨l.toArray⟩:ByteArray).toList=l:=by
 have h: ∀(n i:Nat) (acc:List UInt8),l.length - i=n→ByteArray.toList.loop ⟨l.toArray⟩ i acc=acc.reverse++l.drop i:=by
  intro n
  induction n with
  |zero=>
   intro i acc hn
   unfold ByteArray.toList.loop
   have: ¬i< (⟨l.toArray⟩:ByteArray).size:=by show ¬i<l.toArray.size;simp;omega
   rw[if_neg this,List.drop_eq_nil_of_le (by omega)]
   simp
  |succ n ih=>
   intro i acc hn
   unfold ByteArray.toList.loop
   have hi:i<l.length:=by omega
   have:i< (⟨l.toArray⟩:ByteArray).size:=by show i<l.toArray.size;simpa using hi
   rw[if_pos this,ih (i+1) _ (by omega),List.drop_eq_getElem_cons hi]
   have hg: (⟨l.toArray⟩:ByteArray).get! i=l[i]:=by
    show l.toArray[i]! =l[i]
    simp[hi]
   rw[hg];simp
 unfold ByteArray.toList
 rw[h _ 0 [] rfl];simp
theorem xU (l:List UInt8): (⟨l.toArray⟩:ByteArray).size=l.length:=by show l.toArray.size=l.length;simp
theorem aJu (l r:List UInt8): (⟨l.toArray⟩:ByteArray)++⟨r.toArray⟩=⟨(l++r).toArray⟩:=by
 apply ByteArray.ext
 rw[ByteArray.data_append]
 simp
theorem mB {P:Program} {w:World} (op:BinOp) (t:TypeId) (x y:Operand) (k k':IntKind) (m n:Int): (eqGuard op t x y (.int k m) (.int k' n)).run P w= .ok () w:=by
 cases op<;>rfl
theorem zN {P:Program} {w:World} (op:BinOp) (t:TypeId) (x y:Operand) (m n:ByteArray): (eqGuard op t x y (.string m) (.string n)).run P w= .ok () w:=by
 cases op<;>rfl
theorem xA {P:Program} {w:World} (op:BinOp) (t:TypeId) (x y:Operand) (m n:Bool): (eqGuard op t x y (.bool m) (.bool n)).run P w= .ok () w:=by
 cases op<;>rfl
theorem aJv {P:Program} {w:World} {S:Nat→Prop} {op:BinOp} {x y z:D} {p:Prop} {vx vy:Value} (h:bin op x y=some (p,z)) (hp:p) (hx:DR w S x vx) (hy:DR w S y vy) (t:TypeId) (ox oy:Operand):
 ∃v,(do eqGuard op t ox oy vx vy;binOp op t vx vy:Sem Value).run P w= .ok v w∧DR w S z v:=by
 cases hx<;>cases hy<;>cases op<;>first
  |(simp only[bin] at h;cases h;done)
  |(simp only[bin,Option.some.injEq,Prod.mk.injEq] at h
    obtain⟨rfl,rfl⟩:=h
    first
     |(refine⟨_,?_,DR.i _⟩;rw[Sem.run_bind,mB];rfl)
     |(refine⟨_,?_,DR.u _⟩;rw[Sem.run_bind,mB];rfl)
     |(refine⟨_,?_,DR.i _⟩;simp[mB,binOp,Op.intArith,Op.intDiv,Op.intBits,Op.intCmp,wZ,hp,yv,IntKind.bits];done)
     |(refine⟨_,?_,DR.b _⟩;simp[mB,binOp,Op.intArith,Op.intDiv,Op.intBits,Op.intCmp,zN,Op.stringOp,aJt];done)
     |(refine⟨_,?_,DR.u _⟩;simp[mB,binOp,Op.intArith,Op.intDiv,Op.intBits,Op.intCmp,ic,lq,IntKind.bits,iM];done)
     |(refine⟨_,?_,DR.s _⟩;simp only[aL4] at hp;simp[zN,binOp,Op.stringOp,aJu,xU,IntKind.max,IntKind.bits,IntKind.signed];omega))
set_option linter.unusedSimpArgs false
def fUn:UnOp→V→Option (Prop×List (dF×Option K)×V)
 | .not,.e (.c (.d (.b x)))=>some (True,[],B (!x))
 | .neg,.e (.c (.d (.i n)))=>some (True,[],I (wrap64 (0 - n)))
 |_,_=>none
theorem aOi {P:Program} {o:Oper} {σ:St} {x:Operand} {u:UnOp} {t:TypeId} (ho:o.op= .unOp u t x):lS P o σ (kJ σ x o.dst (fUn u)):=
 kZ fun X p R Y h _=>by
  unfold fUn at h
  split at h
  · cases h
    refine⟨bL.nil,fun cx σ ι S a w _ _ hx=> ?_⟩
    simp only[lR,ER,CR] at hx
    cases hv:a.eval x<;>rw[hv] at hx<;>cases hx
    exact⟨_,by simp[execOp,ho,hv,Op.unary]<;>rfl,.b _⟩
  · cases h
    refine⟨bL.nil,fun cx σ ι S a w _ _ hx=> ?_⟩
    simp only[lR,ER,CR] at hx
    cases hv:a.eval x<;>rw[hv] at hx<;>cases hx
    exact⟨_,by simp[execOp,ho,hv,Op.unary,Op.intArith,wZ]<;>rfl,.i _⟩
  · cases h
def aOj (op:BinOp):V→V→Option (Prop×List (dF×Option K)×V)
 | .e (.c (.d x)),.e (.c (.d y))=>match bin op x y with
  |some (p,z)=>some (p,[],Dv z)
  |none=>none
 |_,_=>none
theorem aC3 {P:Program} {o:Oper} {σ:St} {x y:Operand} {op:BinOp} {t u:TypeId} (ho:o.op= .binOp op t x y u):lS P o σ (qW σ x y o.dst (aOj op)):=
 rA fun X Y p R Z h hp=>by
  unfold aOj at h
  split at h
  · split at h
    · rename_i p' z hb
      cases h
      refine⟨bL.nil,fun cx σ ι S a w _ _ hx hy=> ?_⟩
      obtain⟨v,hr,hz⟩:=aJv (P:=P) hb hp hx hy t x y
      exact⟨v,by unfold execOp;simp only[ho];rw[Sem.run_bind,hr];rfl,hz⟩
    · cases h
  · cases h
def aL5 (T:gQ) (dst:TypeId):V→Option (Prop×List (dF×Option K)×V)
 | .e (.c (.d (.i n)))=>match T dst with
  |some ⟨.int .i64,_,_,_⟩=>some (True,[],I (wrap64 n))
  |some ⟨.int .u8,_,_,_⟩=>some (True,[],Dv (.u (iM n)))
  |_=>none
 | .e (.c (.d (.u n)))=>match T dst with
  |some ⟨.int .i64,_,_,_⟩=>some (True,[],I (wrap64 n))
  |some ⟨.int .u8,_,_,_⟩=>some (True,[],Dv (.u (iM n)))
  |_=>none
 |_=>none
theorem aC4 {P:Program} {w:World} {src dst:TypeId} {k k':IntKind} {n:Int} (hs: (P.underlying src).isSome=true) (hd:P.underlying dst=some (.int k')): (convert src dst (.int k n)).run P w= .ok (.int k' (k'.wrap n)) w:=by
 obtain⟨d,hd'⟩:=Option.isSome_iff_exists.mp hs
 simp[convert,run_underlying hd',run_underlying hd,Conv.intToInt]
theorem aJw {P:Program} {T:gQ} (hT:dR P T) {o:Oper} {σ:St} {x:Operand} {src dst:TypeId} (ho:o.op= .convert src dst x) (hs: (T src).isSome=true):lS P o σ (kJ σ x o.dst (aL5 T dst)):=by
 obtain⟨si,hsi⟩:=Option.isSome_iff_exists.mp hs
 have hsrc: (P.underlying src).isSome=true:=by
  have:=(hT src si hsi).kind
  cases hk:si.kind<;>rw[hk] at this<;>simp only[lU] at this<;>(try(obtain⟨_,this,_⟩:=this))<;>simp[this]
 refine kZ fun X p R Y h _=> ?_
 unfold aL5 at h
 split at h<;>try(cases h;done)
 all_goals
  split at h<;>try(cases h;done)
  all_goals
   rename_i ht
   cases h
   refine⟨bL.nil,fun cx σ ι S a w _ _ hx=> ?_⟩
   have hk:=(hT dst _ ht).kind
   simp only[lU] at hk
   simp only[lR,ER,CR] at hx
   cases hv:a.eval x<;>rw[hv] at hx<;>cases hx
   first
    |exact⟨_,by simp[execOp,ho,hv,aC4 hsrc hk,wZ,ic]<;>rfl,.i _⟩
    |exact⟨_,by simp[execOp,ho,hv,aC4 hsrc hk,wZ,ic]<;>rfl,.u _⟩
def aL6:V→V→Option (Prop×List (dF×Option K)×V)
 | .e (.c (.d (.s l))),.e (.c (.d (.i n)))=>some (0≤n∧n<l.length,[],Dv (.u ((l.getD n.toNat 0).toNat:Int)))
 |_,_=>none
theorem aJx {P:Program} {T:gQ} (hT:dR P T) {o:Oper} {σ:St} {x y:Operand} {t:TypeId} {ti:TI} (ho:o.op= .index t x y) (ht:T t=some ti) (hk:ti.kind= .str):lS P o σ (qW σ x y o.dst aL6):=
 rA fun X Y p R Z h hp=>by
  unfold aL6 at h
  split at h
  · rename_i l n
    cases h
    refine⟨bL.nil,fun cx σ ι S a w _ _ hx hy=> ?_⟩
    have hu:=(hT t ti ht).kind
    rw[hk] at hu;simp only[lU] at hu
    simp only[lR,ER,CR] at hx hy
    cases hv:a.eval x<;>rw[hv] at hx<;>cases hx
    cases hv2:a.eval y<;>rw[hv2] at hy<;>cases hy
    have hlt:n.toNat<l.length:=by omega
    have hg: (⟨l.toArray⟩:ByteArray)[n.toNat]? =some l[n.toNat]:=by
     have hsz:n.toNat< (⟨l.toArray⟩:ByteArray).size:=by rw[xU];exact hlt
     rw[getElem?_pos (⟨l.toArray⟩:ByteArray) n.toNat hsz];rfl
    refine⟨.int .u8 (l[n.toNat].toNat),?_,?_⟩
    · simp[execOp,ho,hv,hv2,Instr.index,asIntOf,run_underlying hu,hp.1,hg]
    · have:l.getD n.toNat 0=l[n.toNat]:=by simp[hlt]
      rw[this];exact .u _
  · cases h
def lr (σ:St):V→Option (Prop×List (dF×Option K)×V)
 | .e (.c (.d (.s l)))=>some (True,[],I l.length)
 | .e (.c (.d (.sl rows)))=>some (True,[],I rows.length)
 | .e (.c .nil)=>some (True,[],I 0)
 | .e (.c (.own ob n))=>match aU σ (.o ob) with
  |some (.row e es rows)=>some (rows.length=n,[(.o ob,some (.row e es rows))],I n)
  |_=>none
 |_=>none
theorem aL7 {P:Program} {T:gQ} (hT:dR P T) {o:Oper} {σ0:St} {x:Operand} {t:TypeId} {ti:TI} (ho:o.op= .call {callee:= .builtin .len,args:= #[x],argTypes:= #[t]}) (ht:T t=some ti)
 (hk:ti.kind= .str∨ ∃e,ti.kind= .sl e):lS P o σ0 (kJ σ0 x o.dst fun X=>match ti.kind,X with
  | .str,.e (.c (.d (.s l)))=>lr σ0 (.e (.c (.d (.s l))))
  | .sl _,.e (.c (.d (.sl rows)))=>lr σ0 (.e (.c (.d (.sl rows))))
  | .sl _,.e (.c .nil)=>lr σ0 (.e (.c .nil))
  | .sl _,.e (.c (.own ob n))=>lr σ0 (.e (.c (.own ob n)))
  |_,_=>none):=
 kZ fun X p R Y h hp=>by
  have hu:=(hT t ti ht).kind
  split at h<;>try(cases h;done)
  · rename_i hkk
    rw[hkk] at hu;simp only[lU] at hu
    cases h
    refine⟨bL.nil,fun cx σ ι S a w _ _ hx=> ?_⟩
    simp only[lR,ER,CR] at hx
    cases hv:a.eval x<;>rw[hv] at hx<;>cases hx
    exact⟨_,by simp[execOp,ho,hv,resolve,invoke,builtin,Builtin.len_,run_underlying hu,xU]<;>rfl,.i _⟩
  · rename_i hkk
    rw[hkk] at hu;simp only[lU] at hu
    cases h
    refine⟨bL.nil,fun cx σ ι S a w _ _ hx=> ?_⟩
    simp only[lR,ER,CR] at hx
    cases hv:a.eval x<;>rw[hv] at hx<;>cases hx
    exact⟨_,by simp[execOp,ho,hv,resolve,invoke,builtin,Builtin.len_,run_underlying hu]<;>rfl,.i _⟩
  · rename_i hkk
    rw[hkk] at hu;simp only[lU] at hu
    cases h
    refine⟨bL.nil,fun cx σ ι S a w _ _ hx=> ?_⟩
    simp only[lR,ER,CR] at hx
    exact⟨_,by simp[execOp,ho,hx,resolve,invoke,builtin,Builtin.len_,run_underlying hu]<;>rfl,.i _⟩
  · rename_i e ob n hkk
    rw[hkk] at hu;simp only[lU] at hu
    simp only[lr] at h
    split at h
    · rename_i e' es rows hl
      cases h
      refine⟨bL.one hl,fun cx σ ι S a w hr hw hx=> ?_⟩
      have hl':=hr (.o ob,some (.row e' es rows)) (by simp)
      dsimp only at hl'
      obtain⟨_,h2⟩:=(show CR σ ι w S (.own ob n) (a.eval x) from hx)
      rcases h2 with⟨e2,es2,rows2,hl2,hn,hv⟩|hd
      · rw[hl'] at hl2;cases hl2
        have hv:=hv hp
        have ho2:=hw.vr.objs ob _ hl'
        have hlen: ∃a0 c0,ι ob= .slice a0 n c0:=by
         rcases ho2 with⟨hn2,hr2⟩|⟨g,off,cap,cur,fz,hg,_⟩
         · subst hr2;simp at hp;subst hp;exact⟨_,_,hn2⟩
         · rw[hp] at hg;exact⟨_,_,hg⟩
        obtain⟨a0,c0,hi⟩:=hlen
        exact⟨_,by simp[execOp,ho,hv,hi,resolve,invoke,builtin,Builtin.len_,run_underlying hu]<;>rfl,.i _⟩
      · rw[hl'] at hd;cases hd
    · cases h
set_option linter.unusedSimpArgs false
theorem lF (b k n:Nat): (⟨b,k,none⟩:Addr).add n=⟨b,k+n,none⟩:=by unfold Addr.add;split<;>simp_all
theorem add_add (a:Addr) (m n:Nat): (a.add m).add n=a.add (m+n):=by
 unfold Addr.add
 by_cases h:m=0
 · subst h;simp
 · by_cases h2:n=0
   · subst h2;simp[h]
   · simp[h,h2,Nat.add_assoc,show m+n≠0 by omega]
theorem lu (a:Addr) (n:Nat): (a.add n).block=a.block:=by unfold Addr.add;split<;>rfl
theorem DR.sl_inv {w:World} {S:Nat→Prop} {rows:List (List D)} {v:Value} (h:DR w S (.sl rows) v):
 ∃(a:Option Addr) (cap es:Nat) (ad:Addr) (u:Nat→Nat→Value),v= .slice a rows.length cap∧rows.length≤cap∧cap≤maxLen∧(∀r∈rows,r.length=es)∧(rows≠[]→a=some ad)∧
  (∀(i:Nat) r (k:Nat) d,rows[i]? =some r→r[k]? =some d→S ad.block∧w.cell? (ad.add (i*es+k))=some (u i k))∧(∀(i:Nat) r (k:Nat) d,rows[i]? =some r→r[k]? =some d→DR w S d (u i k)):=by
 generalize hq:D.sl rows=q at h
 cases h with
 |sl rows' a cap es ad u h1 h2 h3 h4 h5 h6=>cases hq;exact⟨a,cap,es,ad,u,rfl,h1,h2,h3,h4,h5,h6⟩
 |_=>cases hq
def tL (T:gQ) (s f:Nat):Option (Nat×TI):=
 match T s with
 |some ⟨.st fs,_,_,_⟩=>match fs[f]? with
  |some (off,ft)=>match T ft with
   |some ti=>some (off,ti)
   |none=>none
  |none=>none
 |_=>none
theorem wG {P:Program} {T:gQ} (hT:dR P T) {s f off:Nat} {ti:TI} (h:tL T s f=some (off,ti)):
 ∃(fields:Array Field) (fl:Field),P.underlying s=some (.struct fields)∧fields[f]? =some fl∧fl.offset=off∧eV P fl.type ti:=by
 unfold tL at h
 split at h
 · rename_i fs _ _ _ hs
   split at h
   · rename_i off' ft hf
     split at h
     · rename_i ti' ht
       cases h
       obtain⟨fields,hu,hm⟩:=(hT s _ hs).kind
       rw[← hm,List.getElem?_map] at hf
       cases hq:fields.toList[f]? with
       |none=>rw[hq] at hf;cases hf
       |some fl=>
        rw[hq] at hf
        simp at hf
        refine⟨fields,fl,hu,by simpa using hq,hf.1,?_⟩
        rw[hf.2];exact hT ft _ ht
     · cases h
   · cases h
 · cases h
def fj (T:gQ) (σ:St) (s f:Nat):V→Option (Prop×List (dF×Option K)×V)
 | .e (.c (.pt ob k))=>match tL T s f,aU σ (.o ob) with
  |some (off,_),some (.box ty cs)=>some (True,[(.o ob,some (.box ty cs))],.e (.c (.pt ob (k+off))))
  |_,_=>none
 | .e (.c (.pe ob n i k))=>match tL T s f,aU σ (.o ob) with
  |some (off,_),some (.row e es rows)=>some (rows.length=n,[(.o ob,some (.row e es rows))],.e (.c (.pe ob n i (k+off))))
  |_,_=>none
 | .e (.c (.rp cs))=>match tL T s f with
  |some (off,_)=>some (True,[],.e (.c (.rp (cs.drop off))))
  |_=>none
 |_=>none
theorem vK {P:Program} {w:World} {T:gQ} (hT:dR P T) {s f off:Nat} {ti:TI} (h:tL T s f=some (off,ti)) (a:Addr): (Instr.fieldAt s (.pointer (some a)) f).run P w= .ok (.pointer (some (a.add off))) w:=by
 obtain⟨fields,fl,hu,hf,ho,hti⟩:=wG hT h
 have hp:=hti.pos
 have hne: ¬ti.size=0:=by omega
 simp[Instr.fieldAt,run_underlying hu,hf,Instr.sureAddr,fieldPlace,fO hti,hne,ho]
theorem rj {P:Program} {T:gQ} (hT:dR P T) {o:Oper} {σ0:St} {x:Operand} {s f:Nat} (ho:o.op= .fieldAddr s x f):lS P o σ0 (kJ σ0 x o.dst (fj T σ0 s f)):=
 kZ fun X p R Y h hp=>by
  unfold fj at h
  split at h
  · rename_i ob k
    split at h
    · rename_i off ti ty cs hf hl
      cases h
      refine⟨bL.one hl,fun cx σ ι S a w hr hw hx=> ?_⟩
      have hl':=hr (.o ob,some (.box ty cs)) (by simp)
      dsimp only at hl'
      obtain⟨_,h2⟩:=(show CR σ ι w S (.pt ob k) (a.eval x) from hx)
      rcases h2 with⟨ty2,cs2,hl2,b,hi,hv⟩|hd
      · refine⟨.pointer (some ⟨b,k+off,none⟩),by simp[execOp,ho,hv,vK hT hf,lF],rfl,.inl ⟨ty2,cs2,hl2,b,hi,rfl⟩⟩
      · rw[hl'] at hd;cases hd
    · cases h
  · rename_i ob n i k
    split at h
    · rename_i off ti e es rows hf hl
      cases h
      refine⟨bL.one hl,fun cx σ ι S a w hr hw hx=> ?_⟩
      have hl':=hr (.o ob,some (.row e es rows)) (by simp)
      dsimp only at hl'
      obtain⟨_,h2⟩:=(show CR σ ι w S (.pe ob n i k) (a.eval x) from hx)
      rcases h2 with⟨e2,es2,rows2,hl2,hn,hv⟩|hd
      · rw[hl'] at hl2;cases hl2
        obtain⟨g,off',cap,hi,hvv⟩:=hv hp
        refine⟨.pointer (some ⟨g,off'+i*es+(k+off),none⟩),by simp[execOp,ho,hvv,vK hT hf,lF];omega,rfl,.inl ⟨e,es,rows,hl',hn,fun _=>⟨g,off',cap,hi,rfl⟩⟩⟩
      · rw[hl'] at hd;cases hd
    · cases h
  · rename_i cs
    split at h
    · rename_i off ti hf
      cases h
      refine⟨bL.nil,fun cx σ ι S a w _ hw hx=> ?_⟩
      obtain⟨ad,hv,hk⟩:=(show CR σ ι w S (.rp cs) (a.eval x) from hx)
      refine⟨.pointer (some (ad.add off)),by simp[execOp,ho,hv,vK hT hf],ad.add off,rfl,fun k d hd=> ?_⟩
      rw[List.getElem?_drop] at hd
      obtain⟨hs,u,hu,hdr⟩:=hk (off+k) d hd
      refine⟨by rw[lu];exact hs,u,by rw[add_add];exact hu,hdr⟩
    · cases h
  · cases h
def aF0 (T:gQ) (s f:Nat):V→Option (Prop×List (dF×Option K)×V)
 | .e (.agg cs)=>match tL T s f with
  |some (off,ti)=>if ti.kind.agg then some (off+ti.size≤cs.length,[],.e (.agg ((cs.drop off).take ti.size))) else some (off<cs.length,[],.e (.c (cs.getD off .nil)))
  |none=>none
 |_=>none
theorem aF1 {P:Program} {T:gQ} (hT:dR P T) {o:Oper} {σ0:St} {x:Operand} {s f:Nat} (ho:o.op= .field s x f):lS P o σ0 (kJ σ0 x o.dst (aF0 T s f)):=
 kZ fun X p R Y h hp=>by
  unfold aF0 at h
  split at h
  · rename_i cs
    split at h
    · rename_i off ti hf
      obtain⟨fields,fl,hu,hfl,hoff,hti⟩:=wG hT hf
      split at h
      · rename_i hag
        cases h
        refine⟨bL.nil,fun cx σ ι S a w _ hw hx=> ?_⟩
        obtain⟨vs,hv,hl,hk⟩:=(show ER σ ι w S (.agg cs) (a.eval x) from hx)
        refine⟨.agg ((vs.drop off).take ti.size).toArray,?_,(vs.drop off).take ti.size,rfl,by simp[hl],fun k c u h1 h2=> ?_⟩
        · simp[execOp,ho,hv,Instr.field,run_underlying hu,hfl,asAgg,part,qZ hti,hag,fO hti,hoff,List.extract_eq_take_drop]
        · rw[List.getElem?_take] at h1 h2
          split at h1
          · rename_i hlt
            rw[if_pos hlt] at h2
            rw[List.getElem?_drop] at h1 h2
            exact hk _ c u h1 h2
          · cases h1
      · rename_i hag
        cases h
        refine⟨bL.nil,fun cx σ ι S a w _ hw hx=> ?_⟩
        obtain⟨vs,hv,hl,hk⟩:=(show ER σ ι w S (.agg cs) (a.eval x) from hx)
        have hlt:off<vs.length:=by rw[hl];exact hp
        have hag':ti.kind.agg=false:=by simpa using hag
        refine⟨vs[off],?_,?_⟩
        · simp[execOp,ho,hv,Instr.field,run_underlying hu,hfl,asAgg,part,qZ hti,hag',hoff,hlt]
        · have:cs.getD off .nil=cs[off]:=by simp[hp]
          rw[this]
          exact hk off _ _ (aVd hp) (aVd hlt)
    · cases h
  · cases h
def fk (T:gQ) (σ:St) (t:TypeId):V→V→Option (Prop×List (dF×Option K)×V)
 | .e (.c (.own ob n)),.e (.c (.d (.i j)))=>match T t,aU σ (.o ob) with
  |some ⟨.sl e,_,_,_⟩,some (.row e' es rows)=>match T e with
   |some ti=>if ti.size=es then some (rows.length=n∧0≤j∧j<n,[(.o ob,some (.row e' es rows))],.e (.c (.pe ob n j.toNat 0))) else none
   |none=>none
  |_,_=>none
 | .e (.c (.d (.sl rows))),.e (.c (.d (.i j)))=>match T t with
  |some ⟨.sl e,_,_,_⟩=>match T e with
   |some ti=>some ((0≤j∧j<rows.length)∧(rows.getD j.toNat []).length=ti.size,[],.e (.c (.rp (rows.getD j.toNat []))))
   |none=>none
  |_=>none
 | .e (.c (.pt ob k)),.e (.c (.d (.i j)))=>match T t,aU σ (.o ob) with
  |some ⟨.arr n e,_,_,_⟩,some (.box ty cs)=>match T e with
   |some ti=>some (0≤j∧j<n,[(.o ob,some (.box ty cs))],.e (.c (.pt ob (k+j.toNat*ti.size))))
   |none=>none
  |_,_=>none
 |_,_=>none
theorem uL {P:Program} {w:World} {t e:TypeId} {ti:TI} (hu:P.underlying t=some (.slice e)) (he:eV P e ti) (a:Addr) (len cap:Nat) (j:Int) (h0:0≤j) (h1:j<len):
 (Instr.indexAt t (.slice (some a) len cap) (.int .i64 j)).run P w= .ok (.pointer (some (a.add (j.toNat*ti.size)))) w:=by
 simp[Instr.indexAt,run_underlying hu,asIntOf,h0,h1,fO he]
theorem rm {P:Program} {T:gQ} (hT:dR P T) {o:Oper} {σ0:St} {x y:Operand} {t:TypeId} (ho:o.op= .indexAddr t x y):lS P o σ0 (qW σ0 x y o.dst (fk T σ0 t)):=
 rA fun X Y p R Z h hp=>by
  unfold fk at h
  split at h
  · rename_i ob n j
    split at h<;>try(cases h;done)
    rename_i e _ _ _ e' es rows ht hl
    split at h<;>try(cases h;done)
    rename_i ti hte
    split at h<;>try(cases h;done)
    rename_i hes
    cases h
    have hu:=(hT t _ ht).kind
    simp only[lU] at hu
    refine⟨bL.one hl,fun cx σ ι S a w hr hw hx hy=> ?_⟩
    have hl':=hr (.o ob,some (.row e' es rows)) (by simp)
    dsimp only at hl'
    simp only[lR,ER,CR] at hy
    cases hv2:a.eval y<;>rw[hv2] at hy<;>cases hy
    obtain⟨_,h2⟩:=(show CR σ ι w S (.own ob n) (a.eval x) from hx)
    rcases h2 with⟨e2,es2,rows2,hl2,hn,hv⟩|hd
    · rw[hl'] at hl2;cases hl2
      have hv:=hv hp.1
      rcases hw.vr.objs ob _ hl' with⟨hn2,hr2⟩|⟨g,off,cap,cur,fz,hg,_⟩
      · subst hr2;have h1:=hp.1;have h3:=hp.2.2;have h4:=hp.2.1;simp at h1;omega
      · rw[hp.1] at hg
        refine⟨.pointer (some ⟨g,off+j.toNat*es+0,none⟩),?_,rfl,.inl ⟨e',es,rows,hl',hn,fun _=>⟨g,off,cap,hg,rfl⟩⟩⟩
        simp[execOp,ho,hv,hv2,hg,uL hu (hT e ti hte) ⟨g,off,none⟩ n cap j hp.2.1 hp.2.2,lF,hes]
    · rw[hl'] at hd;cases hd
  · rename_i rows j
    split at h<;>try(cases h;done)
    rename_i e _ _ _ ht
    split at h<;>try(cases h;done)
    rename_i ti hte
    cases h
    have hu:=(hT t _ ht).kind
    simp only[lU] at hu
    refine⟨bL.nil,fun cx σ ι S a w hr hw hx hy=> ?_⟩
    simp only[lR,ER,CR] at hx hy
    cases hv2:a.eval y<;>rw[hv2] at hy<;>cases hy
    obtain⟨⟨h0,h1⟩,hlen⟩:=hp
    have hlt:j.toNat<rows.length:=by omega
    have hrow:rows.getD j.toNat []=rows[j.toNat]:=by simp[hlt]
    obtain⟨a0,cap,es,ad,u,hv,hc,hm,he,ha,hw1,hd1⟩:=hx.sl_inv
    have ha0:=ha (by intro e;rw[e] at hlt;simp at hlt)
    subst ha0
    refine⟨.pointer (some (ad.add (j.toNat*ti.size))),?_,ad.add (j.toNat*ti.size),rfl,fun k d hd=> ?_⟩
    · simp[execOp,ho,hv,hv2,uL hu (hT e ti hte) ad rows.length cap j h0 h1]
    · rw[hrow] at hd hlen
      have hes:es=ti.size:=by rw[← hlen];exact(he _ (List.getElem_mem hlt)).symm
      obtain⟨hs,hcell⟩:=hw1 j.toNat _ k d (aVd hlt) hd
      rw[hes] at hcell
      exact⟨by rw[lu];exact hs,_,by rw[add_add];exact hcell,hd1 j.toNat _ k d (aVd hlt) hd⟩
  · rename_i ob k j
    split at h<;>try(cases h;done)
    rename_i n e _ _ _ ty cs ht hl
    split at h<;>try(cases h;done)
    rename_i ti hte
    cases h
    have hu:=(hT t _ ht).kind
    simp only[lU] at hu
    refine⟨bL.one hl,fun cx σ ι S a w hr hw hx hy=> ?_⟩
    have hl':=hr (.o ob,some (.box ty cs)) (by simp)
    dsimp only at hl'
    simp only[lR,ER,CR] at hy
    cases hv2:a.eval y<;>rw[hv2] at hy<;>cases hy
    obtain⟨_,h2⟩:=(show CR σ ι w S (.pt ob k) (a.eval x) from hx)
    rcases h2 with⟨ty2,cs2,hl2,b,hi,hv⟩|hd
    · refine⟨.pointer (some ⟨b,k+j.toNat*ti.size,none⟩),?_,rfl,.inl ⟨ty2,cs2,hl2,b,hi,rfl⟩⟩
      simp[execOp,ho,hv,hv2,Instr.indexAt,run_underlying hu,asIntOf,Instr.sureAddr,hp.1,hp.2,fO (hT e ti hte),lF]
    · rw[hl'] at hd;cases hd
  · cases h
set_option linter.unusedSimpArgs false
def rn (T:gQ) (σ:St) (t:TypeId):V→Option (Prop×List (dF×Option K)×V)
 | .e (.c (.pt ob k))=>match T t,aU σ (.o ob) with
  |some ti,some (.box ty cs)=>if ti.kind.agg then some (k+ti.size≤cs.length,[(.o ob,some (.box ty cs))],.e (.agg ((cs.drop k).take ti.size)))
   else some (k<cs.length,[(.o ob,some (.box ty cs))],.e (.c (cs.getD k .nil)))
  |_,_=>none
 | .e (.c (.pe ob n i k))=>match T t,aU σ (.o ob) with
  |some ti,some (.row e es rows)=>if ti.kind.agg then some (rows.length=n∧i<n∧k+ti.size≤(rows.getD i []).length,[(.o ob,some (.row e es rows))],.e (.agg ((((rows.getD i []).drop k).take ti.size).map C.d)))
   else some (rows.length=n∧i<n∧k< (rows.getD i []).length,[(.o ob,some (.row e es rows))],Dv ((rows.getD i []).getD k (.i 0)))
  |_,_=>none
 | .e (.c (.rp cs))=>match T t with
  |some ti=>if ti.kind.agg then some (ti.size≤cs.length,[],.e (.agg ((cs.take ti.size).map C.d))) else some (0<cs.length,[],Dv (cs.getD 0 (.i 0)))
  |_=>none
 |_=>none
theorem yw {P:Program} {T:gQ} (hT:dR P T) {o:Oper} {σ0:St} {x:Operand} {t:TypeId} (ho:o.op= .load t x):lS P o σ0 (kJ σ0 x o.dst (rn T σ0 t)):=
 kZ fun X p R Y h hp=>by
  unfold rn at h
  split at h
  · rename_i ob k
    split at h<;>try(cases h;done)
    rename_i ti ty cs ht hl
    have hti:=hT t ti ht
    have main: ∀(cx:Cx P) (σ:St) (ι:Nat→Value) (S:Nat→Prop) (a:Act) (w:World),bL [(.o ob,some (.box ty cs))] σ→RW cx σ ι S a w→lR σ ι w S (.e (.c (.pt ob k))) (a.eval x)→
     ∃(b:Nat) (vs:List Value),a.eval x= .pointer (some ⟨b,k,none⟩)∧vs.length=cs.length∧(∀(j:Nat) v,vs[j]? =some v→w.cell? ⟨b,j,none⟩=some v)∧ ∀(j:Nat) c u,cs[j]? =some c→vs[j]? =some u→CR σ ι w S c u:=by
     intro cx σ ι S a w hr hw hx
     have hl':=hr (.o ob,some (.box ty cs)) (by simp)
     dsimp only at hl'
     obtain⟨_,h2⟩:=(show CR σ ι w S (.pt ob k) (a.eval x) from hx)
     rcases h2 with⟨ty2,cs2,hl2,b,hi,hv⟩|hd
     · obtain⟨b',vs,hi',hh,hsz,hc⟩:=hw.vr.objs ob _ hl'
       rw[hi] at hi'
       cases hi'
       refine⟨b,vs.toList,hv,by simpa using hsz,fun j v hj=> ?_,fun j c u h1 h2=>hc j c u h1 (by simpa using h2)⟩
       rw[cell_of_row w b j vs ty (0,0) hh];simpa using hj
     · rw[hl'] at hd;cases hd
    split at h
    · rename_i hag
      cases h
      refine⟨bL.one hl,fun cx σ ι S a w hr hw hx=> ?_⟩
      obtain⟨b,vs,hv,hlen,hcell,hc⟩:=main cx σ ι S a w hr hw hx
      refine⟨.agg ((vs.drop k).take ti.size).toArray,?_,(vs.drop k).take ti.size,rfl,by simp[hlen],fun j c u h1 h2=> ?_⟩
      · have:=mA (w:=w) hti hag ⟨b,k,none⟩ ((vs.drop k).take ti.size) (by simp[hlen];omega) (fun j v hj=>by
         rw[lF]
         rw[List.getElem?_take] at hj
         split at hj
         · rw[List.getElem?_drop] at hj;exact hcell _ _ hj
         · cases hj)
        simp[execOp,ho,hv,Instr.loadAt,Instr.sureAddr,this]
      · rw[List.getElem?_take] at h1 h2
        split at h1
        · rename_i hlt
          rw[if_pos hlt] at h2
          rw[List.getElem?_drop] at h1 h2
          exact hc _ c u h1 h2
        · cases h1
    · rename_i hag
      have hag':ti.kind.agg=false:=by simpa using hag
      cases h
      refine⟨bL.one hl,fun cx σ ι S a w hr hw hx=> ?_⟩
      obtain⟨b,vs,hv,hlen,hcell,hc⟩:=main cx σ ι S a w hr hw hx
      have hlt:k<vs.length:=by rw[hlen];exact hp
      refine⟨vs[k],?_,?_⟩
      · have:=sV (w:=w) hti hag' ⟨b,k,none⟩ vs[k] (hcell k _ (aVd hlt))
        simp[execOp,ho,hv,Instr.loadAt,Instr.sureAddr,this]
      · have:cs.getD k .nil=cs[k]:=by simp[hp]
        rw[this]
        exact hc k _ _ (aVd hp) (aVd hlt)
  · rename_i ob n i k
    split at h<;>try(cases h;done)
    rename_i ti e es rows ht hl
    have hti:=hT t ti ht
    have main: ∀(cx:Cx P) (σ:St) (ι:Nat→Value) (S:Nat→Prop) (a:Act) (w:World),bL [(.o ob,some (.row e es rows))] σ→RW cx σ ι S a w→lR σ ι w S (.e (.c (.pe ob n i k))) (a.eval x)→rows.length=n→i<n→
     ∃(b off:Nat),a.eval x= .pointer (some ⟨b,off+k,none⟩)∧(∀(j:Nat) d,(rows.getD i [])[j]? =some d→ ∃u,w.cell? ⟨b,off+j,none⟩=some u∧DR w S d u):=by
     intro cx σ ι S a w hr hw hx hn hi
     have hl':=hr (.o ob,some (.row e es rows)) (by simp)
     dsimp only at hl'
     obtain⟨_,h2⟩:=(show CR σ ι w S (.pe ob n i k) (a.eval x) from hx)
     rcases h2 with⟨e2,es2,rows2,hl2,hn2,hv⟩|hd
     · rw[hl'] at hl2;cases hl2
       obtain⟨g,off,cap,hig,hvv⟩:=hv hn
       rcases hw.vr.objs ob _ hl' with⟨hn3,_⟩|⟨g',off',cap',cur,fz,hg,hh,_,_,_,_,hrows⟩
       · rw[hig] at hn3;cases hn3
       · rw[hig] at hg;cases hg
         have hlt:i<rows.length:=by omega
         have hrow:rows.getD i []=rows[i]:=by simp[hlt]
         refine⟨g,off+i*es,hvv,fun j d hd=> ?_⟩
         rw[hrow] at hd
         obtain⟨u,hu,hdr⟩:=(hrows i _ (aVd hlt)).2 j d hd
         exact⟨u,by rw[cell_of_row w g _ cur e fz hh];exact hu,hdr⟩
     · rw[hl'] at hd;cases hd
    split at h
    · rename_i hag
      cases h
      refine⟨bL.one hl,fun cx σ ι S a w hr hw hx=> ?_⟩
      obtain⟨b,off,hv,hcell⟩:=main cx σ ι S a w hr hw hx hp.1 hp.2.1
      have hex: ∃vs:List Value,vs.length=ti.size∧(∀(j:Nat) v,vs[j]? =some v→w.cell? ⟨b,off+k+j,none⟩=some v)∧ ∀(j:Nat) d u,(((rows.getD i []).drop k).take ti.size)[j]? =some d→vs[j]? =some u→DR w S d u:=by
       refine⟨(aVh ti.size).map fun j=>(w.cell? ⟨b,off+k+j,none⟩).getD undef,by simp,fun j v hj=> ?_,fun j d u h1 h2=> ?_⟩
       · have hjl:j<ti.size:=by have:=(aVe.1 hj).1;simpa using this
         simp[hjl] at hj
         have hlt:k+j< (rows.getD i []).length:=by omega
         obtain⟨u,hu,_⟩:=hcell (k+j) _ (aVd hlt)
         rw[← Nat.add_assoc] at hu
         rw[hu] at hj ⊢
         simpa using hj
       · have hjl:j<ti.size:=by have:=(aVe.1 h2).1;simpa using this
         rw[List.getElem?_take,if_pos hjl,List.getElem?_drop] at h1
         obtain⟨u',hu,hdr⟩:=hcell (k+j) d h1
         rw[← Nat.add_assoc] at hu
         simp[hjl,hu] at h2
         subst h2;exact hdr
      obtain⟨vs,hvl,hvc,hvd⟩:=hex
      refine⟨.agg vs.toArray,?_,vs,rfl,by rw[List.length_map,aVc,aVk,hvl];omega,fun j c u h1 h2=> ?_⟩
      · have:=mA (w:=w) hti hag ⟨b,off+k,none⟩ vs hvl (fun j v hj=>by rw[lF];exact hvc j v hj)
        simp[execOp,ho,hv,Instr.loadAt,Instr.sureAddr,this]
      · rw[List.getElem?_map] at h1
        cases hq: (((rows.getD i []).drop k).take ti.size)[j]? with
        |none=>rw[hq] at h1;cases h1
        |some d=>rw[hq] at h1;cases h1;exact hvd j d u hq h2
    · rename_i hag
      have hag':ti.kind.agg=false:=by simpa using hag
      cases h
      refine⟨bL.one hl,fun cx σ ι S a w hr hw hx=> ?_⟩
      obtain⟨b,off,hv,hcell⟩:=main cx σ ι S a w hr hw hx hp.1 hp.2.1
      have hlt:=hp.2.2
      obtain⟨u,hu,hdr⟩:=hcell k _ (aVd hlt)
      refine⟨u,?_,?_⟩
      · have:=sV (w:=w) hti hag' ⟨b,off+k,none⟩ u hu
        simp[execOp,ho,hv,Instr.loadAt,Instr.sureAddr,this]
      · have: (rows.getD i []).getD k (.i 0)=(rows.getD i [])[k]:=by
         rw[aVb,aVd hlt];rfl
        simp only[Dv,lR,ER,CR]
        rw[this];exact hdr
  · rename_i cs
    split at h<;>try(cases h;done)
    rename_i ti ht
    have hti:=hT t ti ht
    split at h
    · rename_i hag
      cases h
      refine⟨bL.nil,fun cx σ ι S a w hr hw hx=> ?_⟩
      obtain⟨ad,hv,hk⟩:=(show CR σ ι w S (.rp cs) (a.eval x) from hx)
      have hex: ∃vs:List Value,vs.length=ti.size∧(∀(j:Nat) v,vs[j]? =some v→w.cell? (ad.add j)=some v)∧ ∀(j:Nat) d u,(cs.take ti.size)[j]? =some d→vs[j]? =some u→DR w S d u:=by
       refine⟨(aVh ti.size).map fun j=>(w.cell? (ad.add j)).getD undef,by simp,fun j v hj=> ?_,fun j d u h1 h2=> ?_⟩
       · have hjl:j<ti.size:=by have:=(aVe.1 hj).1;simpa using this
         simp[hjl] at hj
         have hlt:j<cs.length:=by omega
         obtain⟨_,u,hu,_⟩:=hk j _ (aVd hlt)
         rw[hu] at hj ⊢
         simpa using hj
       · have hjl:j<ti.size:=by have:=(aVe.1 h2).1;simpa using this
         rw[List.getElem?_take,if_pos hjl] at h1
         obtain⟨_,u',hu,hdr⟩:=hk j d h1
         simp[hjl,hu] at h2
         subst h2;exact hdr
      obtain⟨vs,hvl,hvc,hvd⟩:=hex
      refine⟨.agg vs.toArray,?_,vs,rfl,by simp[hvl];omega,fun j c u h1 h2=> ?_⟩
      · have:=mA (w:=w) hti hag ad vs hvl hvc
        simp[execOp,ho,hv,Instr.loadAt,Instr.sureAddr,this]
      · rw[List.getElem?_map] at h1
        cases hq: (cs.take ti.size)[j]? with
        |none=>rw[hq] at h1;cases h1
        |some d=>rw[hq] at h1;cases h1;exact hvd j d u hq h2
    · rename_i hag
      have hag':ti.kind.agg=false:=by simpa using hag
      cases h
      refine⟨bL.nil,fun cx σ ι S a w hr hw hx=> ?_⟩
      obtain⟨ad,hv,hk⟩:=(show CR σ ι w S (.rp cs) (a.eval x) from hx)
      obtain⟨_,u,hu,hdr⟩:=hk 0 _ (aVd hp)
      have ha0:ad.add 0=ad:=by simp[Addr.add]
      rw[ha0] at hu
      refine⟨u,?_,?_⟩
      · have:=sV (w:=w) hti hag' ad u hu
        simp[execOp,ho,hv,Instr.loadAt,Instr.sureAddr,this]
      · have:cs.getD 0 (.i 0)=cs[0]:=by
         rw[aVb,aVd hp];rfl
        simp only[Dv,lR,ER,CR]
        rw[this];exact hdr
  · cases h
def aIr (σ:St) (c x y:Operand) (d:Option Tmp):xg:=
 match ev σ c,d with
 |some (.e (.c (.d (.b b))),R),some d=>match(if b then ev σ x else ev σ y) with
  |some (Y,R')=>some (True,R++R',[(.t d,.v Y)])
  |none=>none
 |_,_=>none
theorem yx {P:Program} {o:Oper} {σ0:St} {c x y:Operand} (ho:o.op= .pick c x y):lS P o σ0 (aIr σ0 c x y o.dst):=by
 intro p R W h hp
 unfold aIr at h
 split at h
 · rename_i b Rc d hc hd
   split at h
   · rename_i Y R' hy
     cases h
     cases b with
     |true=>
      have hy:ev σ0 x=some (Y,R'):=hy
      refine⟨nS hd fun cx σ ι S a w hr hw=>⟨a.eval x,?_,dG hy hr.right hw⟩,(cZ hc).append (cZ hy)⟩
      have hcv:=dG hc hr.left hw
      simp only[lR,ER,CR] at hcv
      cases hv:a.eval c<;>rw[hv] at hcv<;>cases hcv
      simp[execOp,ho,hv,asBool]
     |false=>
      have hy:ev σ0 y=some (Y,R'):=hy
      refine⟨nS hd fun cx σ ι S a w hr hw=>⟨a.eval y,?_,dG hy hr.right hw⟩,(cZ hc).append (cZ hy)⟩
      have hcv:=dG hc hr.left hw
      simp only[lR,ER,CR] at hcv
      cases hv:a.eval c<;>rw[hv] at hcv<;>cases hcv
      simp[execOp,ho,hv,asBool]
   · cases h
 · cases h
set_option linter.unusedSimpArgs false
def wH (σ:St) (l:dF):Bool:=(aU σ l).isNone
def jB (σ:St) (d:Nat):Nat:=if wH σ (.o d) then d else if wH σ (.o (d+1000)) then d+1000 else d+2000
theorem pD {σ:St} {l:dF} (h:wH σ l=true):aU σ l=none:=by simpa[wH] using h
theorem ie {P:Program} {o:Oper} {d id:Nat} {R:List (dF×Option K)} {k:K} {X:V} (hd:o.dst=some d) (habs: (dF.o id,none)∈R)
 (h: ∀(cx:Cx P) (σ:St) (ι:Nat→Value) (S:Nat→Prop) (a:Act) (w:World),bL R σ→RW cx σ ι S a w→ ∃v p w',(execOp a.eval o).run P w= .ok (.value v) w'∧aJr σ ι S w id none k p w'∧
  lR (pM σ (.o id) k) (fun o=>if o=id then p else ι o) w' S X v):wY P o R [(.o id,k),(.t d,.v X)]:=by
 intro cx σ ι S a w hr hw hb next Q hn
 obtain⟨v,p,w',he,ht,hx⟩:=h cx σ ι S a w hr hw
 unfold Oper.wp
 rw[he]
 simp only[Oper.upon,hd]
 exact hn _ S _ w' ((hw.turn ht).put (hb d hd) hx)
theorem CR.one {σ:St} {ι:Nat→Value} {w:World} {S:Nat→Prop} {c:C} {v:Value} (h:CR σ ι w S c v):v.oneCell'=true:=by
 cases c with
 |d x=>exact DR.oneCell h
 |nil=>have h:v= .slice none 0 0:=h;rw[h];rfl
 |own o n=>exact h.1
 |pt o k=>exact h.1
 |pe o n i k=>exact h.1
 |rp cs=>obtain⟨ad,hv,_⟩:=h;rw[hv];rfl
 |z o Q=>exact h.1
def cellsOf:V→Option (List C)
 | .e (.c c)=>some [c]
 | .e (.agg cs)=>some cs
 |_=>none
theorem mO {σ:St} {ι:Nat→Value} {w:World} {S:Nat→Prop} {X:V} {cs:List C} {v:Value} (h:cellsOf X=some cs) (hx:lR σ ι w S X v):
 ∃vs:List Value,v.cells=vs.toArray∧vs.length=cs.length∧ ∀(k:Nat) c u,cs[k]? =some c→vs[k]? =some u→CR σ ι w S c u:=by
 unfold cellsOf at h
 split at h
 · rename_i c
   cases h
   have h1:=CR.one (show CR σ ι w S c v from hx)
   refine⟨[v],?_,rfl,fun k c' u h2 h3=> ?_⟩
   · cases v<;>first|rfl|(simp[Value.oneCell'] at h1)
   · cases k with
     |zero=>simp at h2 h3;subst h2;subst h3;exact hx
     |succ k=>simp at h2
 · rename_i cs'
   cases h
   obtain⟨vs,hv,hl,hk⟩:=(show ER σ ι w S (.agg cs) v from hx)
   exact⟨vs,by rw[hv];rfl,hl,hk⟩
 · cases h
theorem xV {σ:St} {ι ν:Nat→Value} {S:Nat→Prop} {w w0:World} {id:Nat} {k:K} {p:Value} {o:Obj} (hw:w0.heap=w.heap∧w0.os=w.os∧w0.tape=w.tape∧w0.output=w.output) (hno:aU σ (.o id)=none)
 (hp: ∀b,xT p b→b=w.heap.size) (hor:qT σ ι S w (pM σ (.o id) k) (fun o=>if o=id then p else ι o) S (w0.alloc o)→OR (pM σ (.o id) k) (fun o=>if o=id then p else ι o) (w0.alloc o) S p k)
 (hsz: ∀b,S b→b<w.heap.size):aJr σ ι S w id none k p (w0.alloc o)∧qT σ ι S w (pM σ (.o id) k) (fun o=>if o=id then p else ι o) S (w0.alloc o):=by
 obtain⟨hh,ho,ht,hu⟩:=hw
 have hold: ∀b,b<w.heap.size→(w0.alloc o).heap[b]? =w.heap[b]?:=fun b hb=>by rw[heap_alloc_old w0 o b (by rw[hh];exact hb),hh]
 have st:qT σ ι S w (pM σ (.o id) k) (fun o=>if o=id then p else ι o) S (w0.alloc o):=by
  refine⟨fun _ h=>h,fun b hb=>hold b (hsz b hb),fun o' k0 hk=> ?_⟩
  by_cases e:o'=id
  · subst e;rw[hno] at hk;cases hk
  · refine⟨k0,by rw[cM _ _ (by simpa using fun h=>e h.symm)];exact hk,?_⟩
    rw[if_neg e];exact nA.refl' _ _
 exact⟨⟨ho,ht,hu,by simp[hh],fun b hb _=>hold b hb,(fun b hb=>by cases hb),.inl hno,(fun b hb=> .inr (by rw[hp b hb];exact aVf _)),hor st⟩,st⟩
def aRj (σ:St) (elem:TypeId) (x:Operand) (d:Option Tmp):xg:=
 match ev σ x,d with
 |some (X,R),some d=>match cellsOf X with
  |some cs=>if wH σ (.o (jB σ d)) then some (True,R++[(.o (jB σ d),none)],[(.o (jB σ d),.box elem cs),(.t d,.v (.e (.c (.pt (jB σ d) 0))))]) else none
  |none=>none
 |_,_=>none
theorem aL8 {P:Program} {o:Oper} {σ0:St} {elem:TypeId} {x:Operand} (ho:o.op= .box elem x):lS P o σ0 (aRj σ0 elem x o.dst):=by
 intro p R W h hp
 unfold aRj at h
 split at h<;>try(cases h;done)
 rename_i X Rx d hx hd
 split at h<;>try(cases h;done)
 rename_i cs hcs
 split at h<;>try(cases h;done)
 rename_i habs
 cases h
 refine⟨ie hd (by simp) fun cx σ ι S a w hr hw=> ?_,(cZ hx).append (bL.one (pD habs))⟩
 have hno:=hr.right (.o (jB σ0 d),none) (by simp)
 dsimp only at hno
 have hX:=dG hx hr.left hw
 obtain⟨vs,hv,hl,hk⟩:=mO hcs hX
 obtain⟨ht,st⟩:=xV (ν:=iJ a) (w:=w) (w0:=w) (σ:=σ) (ι:=ι) (S:=S) (id:=jB σ0 d) (k:= .box elem cs) (p:= .pointer (some ⟨w.heap.size,0,none⟩)) (o:= .cells vs.toArray elem) ⟨rfl,rfl,rfl,rfl⟩ hno
  (fun b hb=>by simp[xT] at hb;exact hb.symm)
  (fun st=>⟨w.heap.size,vs.toArray,rfl,heap_alloc_new w _,by simpa using hl,fun k c u h1 h2=>CR.step st (hk k c u h1 (by simpa using h2))⟩) hw.vr.sz
 refine⟨_,_,_,?_,ht,rfl,.inl ⟨elem,cs,cX _ _ _,w.heap.size,by simp,rfl⟩⟩
 simp[execOp,ho,Instr.box,newVar,newRow,hv]
def aF2 (T:gQ) (σ:St) (elem:TypeId) (d:Option Tmp):xg:=
 match T elem,d with
 |some ti,some d=>if wH σ (.o (jB σ d)) then some (True,[(.o (jB σ d),none)],[(.o (jB σ d),.box elem ti.zero),(.t d,.v (.e (.c (.pt (jB σ d) 0))))]) else none
 |_,_=>none
theorem aF3 {P:Program} {T:gQ} (hT:dR P T) {o:Oper} {σ0:St} {elem:TypeId} (ho:o.op= .alloc elem):lS P o σ0 (aF2 T σ0 elem o.dst):=by
 intro p R W h hp
 unfold aF2 at h
 split at h<;>try(cases h;done)
 rename_i ti d hti hd
 split at h<;>try(cases h;done)
 rename_i habs
 cases h
 have hok:=hT elem ti hti
 refine⟨ie hd (by simp) fun cx σ ι S a w hr hw=> ?_,bL.one (pD habs)⟩
 have hno:=hr (.o (jB σ0 d),none) (by simp)
 dsimp only at hno
 obtain⟨z,hz,hzc⟩:=aJs (w:=w) hok
 obtain⟨ht,st⟩:=xV (ν:=iJ a) (w:=w) (w0:=w) (σ:=σ) (ι:=ι) (S:=S) (id:=jB σ0 d) (k:= .box elem ti.zero) (p:= .pointer (some ⟨w.heap.size,0,none⟩)) (o:= .cells z.cells elem) ⟨rfl,rfl,rfl,rfl⟩ hno
  (fun b hb=>by simp[xT] at hb;exact hb.symm)
  (fun st=>⟨w.heap.size,z.cells,rfl,heap_alloc_new w _,by rw[← Array.length_toList,hzc];simp,fun k c u h1 h2=>by
   rw[← Array.getElem?_toList,hzc,List.getElem?_map,h1] at h2
   cases h2
   exact tK (aVi.1 hok.zok c (List.mem_of_getElem? h1))⟩) hw.vr.sz
 refine⟨_,_,_,?_,ht,rfl,.inl ⟨elem,ti.zero,cX _ _ _,w.heap.size,by simp,rfl⟩⟩
 simp[execOp,ho,Instr.alloc,newVar,newRow,hz]
set_option linter.unusedSimpArgs false
theorem rB {σ:St} {ι ν:Nat→Value} {S:Nat→Prop} {w w':World} (h:VR σ ι ν S w) {id:Nat} {old:Option Nat} {k:K} {p:Value}
 (block: ∀b,b<w.heap.size→some b≠old→w'.heap[b]? =w.heap[b]?) (mine: ∀b,old=some b→kR σ ι id b) (evo:aU σ (.o id)=none∨ ∃k0,aU σ (.o id)=some k0∧nA (ι id) p k0 k):
 qT σ ι S w (pM σ (.o id) k) (fun o=>if o=id then p else ι o) S w':=by
 refine⟨fun _ h=>h,fun b hb=>block b (h.sz b hb) (fun e=>h.mutS id b (mine b e.symm) hb),fun o k0 hk=> ?_⟩
 by_cases e:o=id
 · subst e
   refine⟨k,cX _ _ _,?_⟩
   rcases evo with hn|⟨k1,hk1,hev⟩
   · rw[hn] at hk;cases hk
   · rw[hk1] at hk;cases hk;rw[if_pos rfl];exact hev
 · refine⟨k0,by rw[cM _ _ (by simpa using fun h=>e h.symm)];exact hk,?_⟩
   rw[if_neg e];exact nA.refl' _ _
def dC {α:Type} (cs:List α) (k:Nat) (vs:List α):List α:=cs.take k++vs++cs.drop (k+vs.length)
theorem fK {α:Type} {cs vs:List α} {k:Nat} (h:k+vs.length≤cs.length): (dC cs k vs).length=cs.length:=by
 simp[dC];omega
theorem iP {α:Type} {cs vs:List α} {k:Nat} (h:k+vs.length≤cs.length) (j:Nat):
 (dC cs k vs)[j]? =if j<k then cs[j]? else if j<k+vs.length then vs[j - k]? else cs[j]?:=by
 have hk: (cs.take k).length=k:=by simp;omega
 unfold dC
 by_cases h1:j<k
 · rw[if_pos h1,List.append_assoc,List.getElem?_append_left (by rw[hk];exact h1),List.getElem?_take,if_pos h1]
 · rw[if_neg h1]
   by_cases h2:j<k+vs.length
   · rw[if_pos h2,List.append_assoc,List.getElem?_append_right (by rw[hk];omega),hk,List.getElem?_append_left (by omega)]
   · rw[if_neg h2,List.getElem?_append_right (by simp;omega),List.getElem?_drop]
     congr 1
     simp;omega
theorem ro {α β:Type} (r:α→β→Prop) {cs vs:List α} {us ws:List β} {k:Nat} (hl:us.length=cs.length) (hv:ws.length=vs.length) (hk:k+vs.length≤cs.length)
 (h1: ∀(j:Nat) c u,cs[j]? =some c→us[j]? =some u→r c u) (h2: ∀(j:Nat) c u,vs[j]? =some c→ws[j]? =some u→r c u):
 ∀(j:Nat) c u,(dC cs k vs)[j]? =some c→(dC us k ws)[j]? =some u→r c u:=by
 intro j c u hc hu
 rw[iP hk] at hc
 rw[iP (by omega)] at hu
 rw[hv] at hu
 split at hc
 · rename_i h;rw[if_pos h] at hu;exact h1 j c u hc hu
 · rename_i h
   rw[if_neg h] at hu
   split at hc
   · rename_i h';rw[if_pos h'] at hu;exact h2 _ c u hc hu
   · rename_i h';rw[if_neg h'] at hu;exact h1 j c u hc hu
def toD:C→Option D
 | .d x=>some x
 | .nil=>some (.sl [])
 |_=>none
def lv:List C→Option (List D)
 | []=>some []
 |c::cs=>match toD c,lv cs with
  |some x,some xs=>some (x::xs)
  |_,_=>none
theorem xB {σ:St} {ι:Nat→Value} {w:World} {S:Nat→Prop} {c:C} {x:D} {v:Value} (h:toD c=some x) (hc:CR σ ι w S c v):DR w S x v:=by
 cases c with
 |d y=>cases h;exact hc
 |nil=>
  cases h
  have hc:v= .slice none 0 0:=hc
  subst hc
  exact .sl [] none 0 0 ⟨0,0,none⟩ (fun _ _=>undef) (by simp) (by simp[maxLen]) (by simp) (by simp) (by simp) (by simp)
 |_=>cases h
theorem pE: ∀{cs:List C} {xs:List D},lv cs=some xs→xs.length=cs.length
 | [],xs,h=>by cases h;rfl
 |c::cs,xs,h=>by
  simp only[lv] at h
  split at h<;>try(cases h;done)
  rename_i x ys h1 h2
  cases h
  simp[pE h2]
theorem xC: ∀{cs:List C} {xs:List D},lv cs=some xs→ ∀(k:Nat) x,xs[k]? =some x→ ∃c,cs[k]? =some c∧toD c=some x
 | [],xs,h,k,x,hx=>by cases h;simp at hx
 |c::cs,xs,h,k,x,hx=>by
  simp only[lv] at h
  split at h<;>try(cases h;done)
  rename_i y ys h1 h2
  cases h
  cases k with
  |zero=>simp at hx;subst hx;exact⟨c,rfl,h1⟩
  |succ k=>simpa using xC h2 k x (by simpa using hx)
theorem mX {P:Program} (g o:Nat) (t:TypeId) (fz:Nat×Nat): ∀(vs:List Value) (i:Nat) (cur:Array Value) (w:World),w.heap[g]? =some (.cells cur t fz)→aL3 fz cur.size→o+i+vs.length≤cur.size→(∀v∈vs,v.oneCell'=true)→
 (storeCells ⟨g,o,none⟩ vs i).run P w= .ok () (w.setRow g (dC cur.toList (o+i) vs).toArray)
 | [],i,cur,w,hg,hfz,_,_=>by
  simp only[storeCells,dC,List.append_nil,aU8,Nat.add_zero,List.take_append_drop,Array.toArray_toList]
  rw[setRow_self w g cur t fz hg]
  rfl
 |v::rest,i,cur,w,hg,hfz,hl,h1=>by
  have hi:o+i<cur.size:=by simp at hl;omega
  have hadd: (⟨g,o,none⟩:Addr).add i=⟨g,o+i,none⟩:=by unfold Addr.add;split<;>simp_all
  have hcell:w.cell? ⟨g,o+i,none⟩=some cur[o+i]:=by simp[World.cell?,hg,hi]
  have hfro:w.frozen? ⟨g,o+i,none⟩=false:=by
   obtain⟨lo,hi'⟩:=fz
   simp only[World.frozen?,hg]
   rcases hfz with h|h
   · cases h;simp
   · simp only at h
     rw[Bool.and_eq_false_iff]
     left;rw[decide_eq_false_iff_not];omega
  have hst: (store ((⟨g,o,none⟩:Addr).add i) v).run P w= .ok () (w.setRow g (cur.setIfInBounds (o+i) v)):=by
   rw[hadd,run_store P w _ v _ (h1 v (by simp)),hcell]
   simp[hfro,setCell_eq_setRow w g (o+i) cur t fz v hg]
  have ih:=mX (P:=P) g o t fz rest (i+1) (cur.setIfInBounds (o+i) v) (w.setRow g (cur.setIfInBounds (o+i) v)) (setRow_heap w g cur _ t _ hg) (by simpa using hfz) (by simp at hl ⊢; omega) (fun x hx=>h1 x (by simp[hx]))
  simp only[storeCells,Sem.run_bind,hst,Result.andThen_ok,ih,setRow_setRow]
  congr 3
  rw[Array.toList_setIfInBounds]
  apply List.ext_getElem?
  intro j
  have hlen:cur.toList.length=cur.size:=Array.length_toList
  have hl':o+i+(rest.length+1)≤cur.size:=by simpa using hl
  rw[iP (by rw[List.length_set,hlen];omega),iP (by rw[hlen,aU9];omega),List.getElem?_set,aU9]
  by_cases c1:j<o+i
  · rw[if_pos (by omega),if_neg (by omega),if_pos (by omega)]
  · by_cases c2:j=o+i
    · subst c2
      rw[if_pos (by omega),if_pos rfl,if_pos (by omega),if_neg (by omega),if_pos (by omega)]
      simp
    · by_cases c3:j<o+i+(rest.length+1)
      · rw[if_neg (by omega),if_pos (by omega),if_neg (by omega),if_pos (by omega),show j - (o+i)=(j - (o+(i+1)))+1 by omega,List.getElem?_cons_succ]
      · rw[if_neg (by omega),if_neg (by omega),if_neg (by omega),if_neg (by omega),if_neg (by omega)]
theorem rC {P:Program} {w:World} {t ty:TypeId} {ti:TI} (hti:eV P t ti) (b off:Nat) (cur:Array Value) {fz:Nat×Nat} (hfz:aL3 fz cur.size) (hg:w.heap[b]? =some (.cells cur ty fz)) (v:Value) (vs:List Value) (hv:v.cells=vs.toArray)
 (hl:vs.length=ti.size) (hfit:off+vs.length≤cur.size) (h1: ∀u∈vs,u.oneCell'=true):
 (storeVar t ⟨b,off,none⟩ v).run P w= .ok () (w.setRow b (dC cur.toList off vs).toArray):=by
 have:=mX (P:=P) b off ty fz vs 0 cur w hg hfz (by simpa using hfit) h1
 simp only[Nat.add_zero] at this
 simp[storeVar,fO hti,hv,hl,this]
theorem aC5 {P:Program} {o:Oper} {id:Nat} {R:List (dF×Option K)} {k:K} (hd:o.dst=none)
 (h: ∀(cx:Cx P) (σ:St) (ι:Nat→Value) (S:Nat→Prop) (a:Act) (w:World),bL R σ→RW cx σ ι S a w→ ∃old p w',(execOp a.eval o).run P w= .ok .skip w'∧aJr σ ι S w id old k p w'):
 wY P o R [(.o id,k)]:=by
 intro cx σ ι S a w hr hw hb next Q hn
 obtain⟨old,p,w',he,ht⟩:=h cx σ ι S a w hr hw
 unfold Oper.wp
 rw[he]
 simp only[Oper.upon,hd,aC2]
 exact hn _ S _ w' (hw.turn ht)
def aF4 (T:gQ) (σ:St) (t:TypeId) (x y:Operand) (d:Option Tmp):xg:=
 match ev σ x,ev σ y,T t,d with
 |some (.e (.c (.pt ob k)),R),some (X,R2),some ti,none=>match cellsOf X,aU σ (.o ob) with
  |some vs,some (.box ty cs)=>some (vs.length=ti.size∧k+vs.length≤cs.length,R++R2++[(.o ob,some (.box ty cs))],[(.o ob,.box ty (dC cs k vs))])
  |_,_=>none
 |some (.e (.c (.pe ob n i k)),R),some (X,R2),some ti,none=>match(cellsOf X).bind lv,aU σ (.o ob) with
  |some vs,some (.row e es rows)=>some (rows.length=n∧i<n∧vs.length=ti.size∧k+vs.length≤(rows.getD i []).length,R++R2++[(.o ob,some (.row e es rows))],[(.o ob,.row e es (rows.set i (dC (rows.getD i []) k vs)))])
  |_,_=>none
 |_,_,_,_=>none
theorem aF5 {P:Program} {T:gQ} (hT:dR P T) {o:Oper} {σ0:St} {t:TypeId} {x y:Operand} (ho:o.op= .store t x y):lS P o σ0 (aF4 T σ0 t x y o.dst):=by
 intro p R W h hp
 unfold aF4 at h
 split at h
 · rename_i ob k Rx X Ry ti hx hy hti hd
   split at h<;>try(cases h;done)
   rename_i vs ty cs hvs hl
   cases h
   have hok:=hT t ti hti
   refine⟨aC5 hd fun cx σ ι S a w hr hw=> ?_,((cZ hx).append (cZ hy)).append (bL.one hl)⟩
   have hl':=hr.right (.o ob,some (.box ty cs)) (by simp)
   dsimp only at hl'
   have hX:=dG hx hr.left.left hw
   have hY:=dG hy hr.left.right hw
   obtain⟨us,hu,hul,huk⟩:=mO hvs hY
   obtain⟨b,cur,hi,hh,hsz,hc⟩:=hw.vr.objs ob _ hl'
   obtain⟨_,h2⟩:=(show CR σ ι w S (.pt ob k) (a.eval x) from hX)
   rcases h2 with⟨ty2,cs2,hl2,b',hi',hv⟩|hdd
   · rw[hi] at hi';cases hi'
     have hone: ∀u∈us,u.oneCell'=true:=fun u hu'=>by
      obtain⟨j,hj⟩:=aVp.1 hu'
      have hlt:j<vs.length:=by rw[← hul];exact(aVe.1 hj).1
      exact CR.one (huk j _ u (aVd hlt) hj)
     have hrun:=rC (P:=P) hok b k cur (.inl rfl) hh (a.eval y) us hu (by rw[hul];exact hp.1) (by rw[hul,hsz];exact hp.2) hone
     have hmine: ∀b',some b=some b'→kR σ ι ob b':=fun b' e=>by cases e;exact⟨⟨_,hl',trivial⟩,by rw[hi];rfl⟩
     have hblock: ∀b',b'<w.heap.size→some b'≠some b→(w.setRow b (dC cur.toList k us).toArray).heap[b']? =w.heap[b']?:=fun b' _ hne=>setRow_other w b b' _ (fun e=>hne (by rw[e]))
     have hevo:aU σ (.o ob)=none∨ ∃k0,aU σ (.o ob)=some k0∧nA (ι ob) (ι ob) k0 (.box ty (dC cs k vs)):= .inr ⟨_,hl',rfl⟩
     have st:=rB hw.vr (p:=ι ob) hblock hmine hevo
     refine⟨some b,ι ob,w.setRow b (dC cur.toList k us).toArray,by simp[execOp,ho,hv,Instr.storeAt,Instr.sureAddr,hrun],⟨rfl,rfl,rfl,by simp,hblock,hmine,hevo,fun b' hb=> .inl (by rw[hi] at hb;exact congrArg some hb.symm),?_⟩⟩
     refine⟨b,(dC cur.toList k us).toArray,hi,setRow_heap w b cur _ ty _ hh,?_,?_⟩
     · rw[List.size_toArray,fK (by have h9:cur.toList.length=cur.size:=Array.length_toList;have:=hp.2;omega),fK hp.2];exact(Array.length_toList (xs:=cur)).trans hsz
     · intro j c u h1 h2
       have h2': (dC cur.toList k us)[j]? =some u:=by simpa using h2
       exact ro (fun c u=>CR (pM σ (.o ob) (.box ty (dC cs k vs))) (fun o=>if o=ob then ι ob else ι o) (w.setRow b (dC cur.toList k us).toArray) S c u) (by simpa using hsz) hul hp.2
        (fun j c u h1 h2=>CR.step st (hc j c u h1 (by simpa using h2))) (fun j c u h1 h2=>CR.step st (huk j c u h1 h2)) j c u h1 h2'
   · rw[hl'] at hdd;cases hdd
 · rename_i ob n i k Rx X Ry ti hx hy hti hd
   split at h<;>try(cases h;done)
   rename_i vs e es rows hvs hl
   cases h
   have hok:=hT t ti hti
   obtain⟨h1,h2,h3,h4⟩:=hp
   cases hcs:cellsOf X with
   |none=>rw[hcs] at hvs;cases hvs
   |some ccs=>
   rw[hcs] at hvs
   have hvs:lv ccs=some vs:=hvs
   refine⟨aC5 hd fun cx σ ι S a w hr hw=> ?_,((cZ hx).append (cZ hy)).append (bL.one hl)⟩
   have hl':=hr.right (.o ob,some (.row e es rows)) (by simp)
   dsimp only at hl'
   have hX:=dG hx hr.left.left hw
   have hY:=dG hy hr.left.right hw
   obtain⟨us,hu,hul,huk⟩:=mO hcs hY
   have hvl:=pE hvs
   have hdr: ∀(j:Nat) d u,vs[j]? =some d→us[j]? =some u→DR w S d u:=fun j d u hj hu'=>by
    obtain⟨c,hc,htd⟩:=xC hvs j d hj
    exact xB htd (huk j c u hc hu')
   obtain⟨_,hpe⟩:=(show CR σ ι w S (.pe ob n i k) (a.eval x) from hX)
   rcases hpe with⟨e2,es2,rows2,hl2,hn,hv⟩|hdd
   · rw[hl'] at hl2;cases hl2
     obtain⟨g,off,cap,hig,hvv⟩:=hv h1
     rcases hw.vr.objs ob _ hl' with⟨hn3,_⟩|⟨g',off',cap',cur,fz,hg,hh,hfz,hc1,hc2,hc3,hrows⟩
     · rw[hig] at hn3;cases hn3
     · have hg':=hg
       rw[hig] at hg;cases hg
       have hlt:i<rows.length:=by omega
       have hrow:rows.getD i []=rows[i]:=by simp[hlt]
       rw[hrow] at h4
       have hri:=hrows i _ (aVd hlt)
       have hone: ∀u∈us,u.oneCell'=true:=fun u hu'=>by
        obtain⟨j,hj⟩:=aVp.1 hu'
        have hlt:j<ccs.length:=by rw[← hul];exact(aVe.1 hj).1
        exact CR.one (huk j _ u (aVd hlt) hj)
       have hin:i*es+es≤cap*es:=by
        have: (i+1)*es≤cap*es:=Nat.mul_le_mul_right _ (by omega)
        rw[aVo,Nat.one_mul] at this;exact this
       have hfit:off+i*es+k+us.length≤cur.size:=by rw[hul,← hvl];rw[hri.1] at h4;omega
       have hrun:=rC (P:=P) hok g (off+i*es+k) cur hfz hh (a.eval y) us hu (by rw[hul,← hvl];exact h3) hfit hone
       have hmine: ∀b',some g=some b'→kR σ ι ob b':=fun b' e=>by cases e;exact⟨⟨_,hl',trivial⟩,by rw[hig];rfl⟩
       have hblock: ∀b',b'<w.heap.size→some b'≠some g→(w.setRow g (dC cur.toList (off+i*es+k) us).toArray).heap[b']? =w.heap[b']?:=fun b' _ hne=>setRow_other w g b' _ (fun e=>hne (by rw[e]))
       have hevo:aU σ (.o ob)=none∨ ∃k0,aU σ (.o ob)=some k0∧nA (ι ob) (ι ob) k0 (.row e es (rows.set i (dC (rows.getD i []) k vs))):= .inr ⟨_,hl',rfl,by simp,fun _=>rfl⟩
       have st:=rB hw.vr (p:=ι ob) hblock hmine hevo
       refine⟨some g,ι ob,w.setRow g (dC cur.toList (off+i*es+k) us).toArray,by simp[execOp,ho,hvv,Instr.storeAt,Instr.sureAddr,hrun],⟨rfl,rfl,rfl,by simp,hblock,hmine,hevo,fun b' hb=> .inl (by rw[hig] at hb;exact congrArg some hb.symm),?_⟩⟩
       · refine .inr ⟨g,off,cap,(dC cur.toList (off+i*es+k) us).toArray,fz,by rw[hg'];simp,setRow_heap w g cur _ e _ hh,by rw[List.size_toArray,fK (by have h9:cur.toList.length=cur.size:=Array.length_toList;omega),Array.length_toList];exact hfz,by simpa using hc1,hc2,?_,fun i2 r2 hr2=> ?_⟩
         · rw[List.size_toArray,fK (by have h9:cur.toList.length=cur.size:=Array.length_toList;omega)];exact(Array.length_toList (xs:=cur))▸hc3
         · rw[List.getElem?_set] at hr2
           have get: ∀j,(dC cur.toList (off+i*es+k) us).toArray[j]? =if j<off+i*es+k then cur[j]? else if j<off+i*es+k+us.length then us[j - (off+i*es+k)]? else cur[j]?:=fun j=>by
            rw[← Array.getElem?_toList,List.toList_toArray,iP (by have h9:cur.toList.length=cur.size:=Array.length_toList;omega)]
            simp
           by_cases hii:i=i2
           · subst hii
             simp[hlt] at hr2
             have hr2:dC rows[i] k vs=r2:=by rw[← hr2]
             subst hr2
             refine⟨by rw[fK h4];exact hri.1,fun j d hd=> ?_⟩
             rw[iP h4] at hd
             rw[get]
             split at hd
             · rename_i hjk
               obtain⟨u,hu1,hu2⟩:=hri.2 j d hd
               exact⟨u,by rw[if_pos (by omega)];exact hu1,DR.mono st.sub st.keep hu2⟩
             · rename_i hjk
               split at hd
               · rename_i hjk2
                 have hjl:j - k<us.length:=by omega
                 refine⟨us[j - k],?_,DR.mono st.sub st.keep (hdr _ d _ hd (aVd hjl))⟩
                 rw[if_neg (by omega),if_pos (by omega),show off+i*es+j - (off+i*es+k)=j - k by omega]
                 exact aVd hjl
               · rename_i hjk2
                 obtain⟨u,hu1,hu2⟩:=hri.2 j d hd
                 exact⟨u,by rw[if_neg (by omega),if_neg (by omega)];exact hu1,DR.mono st.sub st.keep hu2⟩
           · rw[if_neg hii] at hr2
             have hr3:=hrows i2 r2 hr2
             refine⟨hr3.1,fun j d hd=> ?_⟩
             obtain⟨u,hu1,hu2⟩:=hr3.2 j d hd
             refine⟨u,?_,DR.mono st.sub st.keep hu2⟩
             rw[get]
             have hjes:j<es:=by rw[← hr3.1];exact(aVe.1 hd).1
             rw[hri.1] at h4
             rcases Nat.lt_or_gt_of_ne hii with hlt2|hgt2
             · have: (i+1)*es≤i2*es:=Nat.mul_le_mul_right _ hlt2
               rw[aVo,Nat.one_mul] at this
               rw[if_neg (by omega),if_neg (by omega)];exact hu1
             · have: (i2+1)*es≤i*es:=Nat.mul_le_mul_right _ hgt2
               rw[aVo,Nat.one_mul] at this
               rw[if_pos (by omega)];exact hu1
   · rw[hl'] at hdd;cases hdd
 · cases h
set_option linter.unusedSimpArgs false
def evs (σ:St):List (Nat×Operand)→Option (List (Nat×V)×List (dF×Option K))
 | []=>some ([],[])
 |(i,x)::r=>match ev σ x,evs σ r with
  |some (X,R),some (Xs,R')=>some ((i,X)::Xs,R++R')
  |_,_=>none
theorem lw {σ:St}: ∀{ps:List (Nat×Operand)} {Xs:List (Nat×V)} {R:List (dF×Option K)},evs σ ps=some (Xs,R)→bL R σ
 | [],Xs,R,h=>by cases h;exact bL.nil
 |(i,x)::r,Xs,R,h=>by
  simp only[evs] at h
  split at h<;>try(cases h;done)
  rename_i X R1 Ys R2 h1 h2
  cases h
  exact(cZ h1).append (lw h2)
def aA6 (σ:St) (ι:Nat→Value) (w:World) (S:Nat→Prop):List (Nat×V)→List (Nat×Value)→Prop
 | [],[]=>True
 |(i,X)::r,(j,v)::r'=>i=j∧lR σ ι w S X v∧aA6 σ ι w S r r'
 |_,_=>False
theorem lx {σ0:St} {P:Program} {cx:Cx P} {σ:St} {ι:Nat→Value} {S:Nat→Prop} {a:Act} {w:World} (hw:RW cx σ ι S a w):
 ∀{ps:List (Nat×Operand)} {Xs:List (Nat×V)} {R:List (dF×Option K)},evs σ0 ps=some (Xs,R)→bL R σ→aA6 σ ι w S Xs (ps.map fun x=>(x.1,a.eval x.2))
 | [],Xs,R,h,_=>by cases h;trivial
 |(i,x)::r,Xs,R,h,hr=>by
  simp only[evs] at h
  split at h<;>try(cases h;done)
  rename_i X R1 Ys R2 h1 h2
  cases h
  exact⟨rfl,dG h1 hr.left hw,lx hw h2 hr.right⟩
def vL:List C→Nat→List C→List C
 | [],_,_=>[]
 |c::cs,n+1,vs=>c::vL cs n vs
 |c::cs,0,[]=>c::cs
 |_::cs,0,v::vs=>v::vL cs 0 vs
theorem fm: ∀{cs:List C} {k:Nat} {vs:List C},k+vs.length≤cs.length→vL cs k vs=dC cs k vs
 | [],k,vs,h=>by
  obtain rfl:vs=[]:=by simp at h;exact h.2
  simp[vL,dC]
 |c::cs,n+1,vs,h=>by
  have:=fm (cs:=cs) (k:=n) (vs:=vs) (by simp at h;omega)
  simp[vL,this,dC,Nat.add_right_comm]
 |c::cs,0,[],h=>by simp[vL,dC]
 |c::cs,0,v::vs,h=>by
  have:=fm (cs:=cs) (k:=0) (vs:=vs) (by simp at h ⊢; omega)
  simp[vL,this,dC]
def aIs (T:gQ) (t:TypeId):List C→List (Nat×V)→Option (Prop×List C)
 |cs,[]=>some (True,cs)
 |cs,(i,X)::rest=>match tL T t i,cellsOf X with
  |some (off,ti),some vs=>match aIs T t (vL cs off vs) rest with
   |some (p,r)=>some ((vs.length=ti.size∧off+vs.length≤cs.length)∧p,r)
   |none=>none
  |_,_=>none
def ig (T:gQ):List (Nat×TypeId)→Option (List (Nat×Nat))
 | []=>some []
 |(off,t)::r=>match T t,ig T r with
  |some ti,some ps=>some ((off,ti.size)::ps)
  |_,_=>none
theorem al {P:Program} {T:gQ} (hT:dR P T): ∀(fs:List Field) (ps:List (Nat×Nat)),ig T (fs.map fun f=>(f.offset,f.type))=some ps→
 fs.mapM (fun f=>(P.info? f.type).map fun i=>(f.offset,i.size))=some ps∧ ∀(i:Nat) f,fs[i]? =some f→ ∃ti,T f.type=some ti∧ps[i]? =some (f.offset,ti.size)
 | [],ps,h=>by cases h;exact⟨rfl,by simp⟩
 |f::fs,ps,h=>by
  simp only[List.map_cons,ig] at h
  split at h<;>try(cases h;done)
  rename_i ti ps' h1 h2
  cases h
  obtain⟨g1,g2⟩:=al hT fs ps' h2
  obtain⟨i,z,hi,hs,_⟩:=(hT _ _ h1).info
  refine⟨by simp[hi,g1,hs],fun j f' hj=> ?_⟩
  cases j with
  |zero=>simp at hj;subst hj;exact⟨ti,h1,rfl⟩
  |succ j=>simpa using g2 j f' (by simpa using hj)
theorem aL9 (off:Nat) (vs:List Value) (cells:Array Value) (h:off+vs.length≤cells.size):
 (vs.toArray.zipIdx.foldl (fun cs (x:Value×Nat)=>cs.setIfInBounds (off+x.2) x.1) cells)=(dC cells.toList off vs).toArray:=by
 rw[← Array.foldl_toList,Array.toList_zipIdx]
 obtain⟨h1,h2⟩:=Go.Great.foldl_set off vs 0 cells
 apply Array.ext_getElem?
 intro k
 have h9:cells.toList.length=cells.size:=Array.length_toList
 have e9: (dC cells.toList off vs).toArray[k]? =(dC cells.toList off vs)[k]?:=by simp
 rw[h2 k,e9,iP (by omega)]
 simp only[Nat.add_zero]
 by_cases e1:k<off
 · rw[if_neg (by omega),if_pos e1];simp
 · rw[if_neg e1]
   by_cases e2:k<off+vs.length
   · rw[if_pos ⟨by omega,e2,by omega⟩,if_pos e2]
   · rw[if_neg (by omega),if_neg e2];simp
theorem og {P:Program} {T:gQ} (hT:dR P T) {t:TypeId} {fields:Array Field} (hu:P.underlying t=some (.struct fields)) {ps:List (Nat×Nat)}
 (hps: ∀(i:Nat) f,fields.toList[i]? =some f→ ∃ti,T f.type=some ti∧ps[i]? =some (f.offset,ti.size)) {σ:St} {ι:Nat→Value} {w:World} {S:Nat→Prop}:
 ∀(Xs:List (Nat×V)) (vals:List (Nat×Value)) (cs:List C) (cells:Array Value) (p:Prop) (r:List C),aA6 σ ι w S Xs vals→cells.size=cs.length→
  (∀(j:Nat) c u,cs[j]? =some c→cells[j]? =some u→CR σ ι w S c u)→aIs T t cs Xs=some (p,r)→p→
  ∃rc:List Value,Instr.fill (ps.toArray[·]?) cells vals=some rc.toArray∧rc.length=r.length∧ ∀(j:Nat) c u,r[j]? =some c→rc[j]? =some u→CR σ ι w S c u
 | [],[],cs,cells,p,r,_,hsz,hc,h,_=>by
  cases h
  exact⟨cells.toList,by simp[Instr.fill],by simpa using hsz,fun j c u h1 h2=>hc j c u h1 (by simpa using h2)⟩
 |(i,X)::Xs,(j,v)::vals,cs,cells,p,r,hp,hsz,hc,h,hpp=>by
  obtain⟨rfl,hX,hp⟩:=hp
  simp only[aIs] at h
  split at h<;>try(cases h;done)
  rename_i off ti vs hf hvs
  split at h<;>try(cases h;done)
  rename_i p' r' hrest
  cases h
  obtain⟨⟨h1,h2⟩,hp'⟩:=hpp
  rw[fm h2] at hrest
  obtain⟨us,hu',hul,huk⟩:=mO hvs hX
  obtain⟨fields',fl,hu2,hfl,hoff,hti⟩:=wG hT hf
  rw[hu] at hu2;cases hu2
  obtain⟨ti',hti',hpl⟩:=hps i fl (by simpa using hfl)
  have hsize:ti'.size=ti.size:=by
   obtain⟨i1,z1,q1,q2,_⟩:=(hT _ _ hti').info
   obtain⟨i2,z2,q3,q4,_⟩:=hti.info
   rw[q1] at q3;cases q3
   rw[← q2,← q4]
  rw[hoff,hsize] at hpl
  have hfold:=aL9 off us cells (by rw[hul,hsz];exact h2)
  have h9:cells.toList.length=cells.size:=Array.length_toList
  obtain⟨rc,g1,g2,g3⟩:=og hT hu hps Xs vals (dC cs off vs) (dC cells.toList off us).toArray p' r hp
   (by rw[List.size_toArray,fK (by omega),fK h2];omega)
   (fun j c u hcj huj=>ro (CR σ ι w S) (by omega) hul h2 (fun j c u h1 h2=>hc j c u h1 (by simpa using h2)) huk j c u hcj (by simpa using huj)) hrest hp'
  refine⟨rc,?_,g2,g3⟩
  unfold Instr.fill
  have hpl':ps.toArray[i]? =some (off,ti.size):=by simpa using hpl
  simp only[hpl',hu']
  rw[if_neg (by simp[hul,h1];omega),← g1,← hfold]
 | [],_::_,_,_,_,_,hp,_,_,_,_=>hp.elim
 |_::_,[],_,_,_,_,hp,_,_,_,_=>hp.elim
def aF6 (T:gQ) (σ:St) (t:TypeId) (parts:List (Nat×Operand)) (d:Option Tmp):xg:=
 match T t,evs σ parts,d with
 |some ⟨.st fs,sz,by',zero⟩,some (Xs,R),some d=>match ig T fs,aIs T t zero Xs with
  |some _,some (p,r)=>some (p,R,[(.t d,.v (.e (.agg r)))])
  |_,_=>none
 |_,_,_=>none
theorem aF7 {P:Program} {T:gQ} (hT:dR P T) {o:Oper} {σ0:St} {t:TypeId} {parts:Array (Nat×Operand)} (ho:o.op= .build t parts):lS P o σ0 (aF6 T σ0 t parts.toList o.dst):=by
 intro p R W h hp
 unfold aF6 at h
 split at h<;>try(cases h;done)
 rename_i fs sz by' zero Xs Rx d ht hxs hd
 split at h<;>try(cases h;done)
 rename_i places p' r hpl hfill
 cases h
 have hok:=hT t _ ht
 obtain⟨fields,hu,hfs⟩:=hok.kind
 rw[← hfs] at hpl
 obtain⟨hm,hps⟩:=al hT fields.toList places hpl
 refine⟨nS hd fun cx σ ι S a w hr hw=> ?_,lw hxs⟩
 obtain⟨i,z,hi,_,_,hz,hzc⟩:=hok.info
 obtain⟨rc,g1,g2,g3⟩:=og (σ:=σ) (ι:=ι) (w:=w) (S:=S) hT hu hps Xs (parts.toList.map fun x=>(x.1,a.eval x.2)) zero z.cells p r (lx hw hxs hr)
  (by rw[← Array.length_toList,hzc];simp)
  (fun j c u h1 h2=>by
   rw[← Array.getElem?_toList,hzc,List.getElem?_map,h1] at h2
   cases h2
   exact tK (aVi.1 hok.zok c (List.mem_of_getElem? h1))) hfill hp
 have hb:P.built t (parts.map fun x=>(x.1,a.eval x.2)).toList=some rc.toArray:=by
  unfold Program.built
  simp only[hi,hu,hz,hm]
  rw[Array.toList_map]
  exact g1
 refine⟨.agg rc.toArray,?_,rc,rfl,g2,g3⟩
 have hrun:=run_build (P:=P) w t (parts.map fun x=>(x.1,a.eval x.2)) rc.toArray hb
 simp[execOp,ho]
 rw[hrun];rfl
def ly:List (Nat×V)→Option (List (List D))
 | []=>some []
 |(i,X)::r=>match(cellsOf X).bind lv,ly r with
  |some ds,some rs=>some (ds::rs)
  |_,_=>none
def cu:Nat→List (Nat×Operand)→Bool
 |_,[]=>true
 |k,(i,_)::r=>i==k&&cu (k+1) r
def am (T:gQ) (σ:St) (t:TypeId) (len:Nat) (parts:List (Nat×Operand)) (d:Option Tmp):xg:=
 match T t,evs σ parts,d with
 |some ⟨.sl e,_,_,_⟩,some (Xs,R),some d=>match T e,ly Xs with
  |some ti,some rows=>if wH σ (.o (jB σ d))&&cu 0 parts&&(len==parts.length) then
   some ((∀r∈rows,r.length=ti.size)∧rows.length*ti.size≤2 ^ 24,R++[(.o (jB σ d),none)],[(.o (jB σ d),.row e ti.size rows),(.t d,.v (.e (.c (.own (jB σ d) rows.length))))]) else none
  |_,_=>none
 |_,_,_=>none
theorem ef: ∀{Xs:List (Nat×V)} {rows:List (List D)},ly Xs=some rows→rows.length=Xs.length
 | [],rows,h=>by cases h;rfl
 |(i,X)::r,rows,h=>by
  simp only[ly] at h
  split at h<;>try(cases h;done)
  rename_i ds rs h1 h2
  cases h
  simp[ef h2]
theorem rr {σ:St}: ∀{ps:List (Nat×Operand)} {Xs:List (Nat×V)} {R:List (dF×Option K)},evs σ ps=some (Xs,R)→Xs.length=ps.length
 | [],Xs,R,h=>by cases h;rfl
 |(i,x)::r,Xs,R,h=>by
  simp only[evs] at h
  split at h<;>try(cases h;done)
  rename_i X R1 Ys R2 h1 h2
  cases h
  simp[rr h2]
theorem yy: ∀(k:Nat) (ps:List (Nat×Operand)) (f:Operand→Value),cu k ps=true→ps.map (fun x=>(x.1,f x.2))=((ps.map fun x=>f x.2).zipIdx k).map fun x=>(x.2,x.1)
 |k,[],f,_=>rfl
 |k,(i,x)::r,f,h=>by
  simp only[cu,aU7,beq_iff_eq] at h
  obtain⟨rfl,h⟩:=h
  simp[yy (i+1) r f h]
theorem ii {σ:St} {ι:Nat→Value} {w:World} {S:Nat→Prop}: ∀{Xs:List (Nat×V)} {vals:List (Nat×Value)} {rows:List (List D)},aA6 σ ι w S Xs vals→ly Xs=some rows→
 ∀(i:Nat) r,rows[i]? =some r→ ∃j v,vals[i]? =some (j,v)∧v.cells.size=r.length∧ ∀(k:Nat) d,r[k]? =some d→ ∃u,v.cells[k]? =some u∧DR w S d u
 | [],[],rows,_,h,i,r,hr=>by cases h;simp at hr
 |(i0,X)::Xs,(j0,v)::vals,rows,hp,h,i,r,hr=>by
  obtain⟨rfl,hX,hp⟩:=hp
  simp only[ly] at h
  split at h<;>try(cases h;done)
  rename_i ds rs h1 h2
  cases h
  cases i with
  |zero=>
   simp at hr;subst hr
   cases hcs:cellsOf X with
   |none=>rw[hcs] at h1;cases h1
   |some cs=>
    rw[hcs] at h1
    have h1:lv cs=some ds:=h1
    obtain⟨us,hu,hul,huk⟩:=mO hcs hX
    refine⟨i0,v,rfl,by rw[hu];simp[hul,pE h1],fun k d hd=> ?_⟩
    obtain⟨c,hc,htd⟩:=xC h1 k d hd
    have hlt:k<us.length:=by rw[hul];exact(aVe.1 hc).1
    exact⟨us[k],by rw[hu];simp[hlt],xB htd (huk k c _ hc (aVd hlt))⟩
  |succ i=>
   obtain⟨j,v',g1,g2,g3⟩:=ii hp h2 i r (by simpa using hr)
   exact⟨j,v',by simpa using g1,g2,g3⟩
 | [],_::_,_,hp,_,_,_,_=>hp.elim
 |_::_,[],_,hp,_,_,_,_=>hp.elim
theorem aC6 {w:World} {S:Nat→Prop} {es:Nat} (hes:0<es) {rows:List (List D)} {vs:List Value} (hl:vs.length=rows.length) (hlen: ∀r∈rows,r.length=es)
 (h: ∀(i:Nat) r,rows[i]? =some r→ ∃v,vs[i]? =some v∧v.cells.size=r.length∧ ∀(k:Nat) d,r[k]? =some d→ ∃u,v.cells[k]? =some u∧DR w S d u):
 ∀(i:Nat) r,rows[i]? =some r→r.length=es∧ ∀(k:Nat) d,r[k]? =some d→ ∃u,(vs.flatMap fun v=>v.cells.toList).toArray[0+i*es+k]? =some u∧DR w S d u:=by
 have hall: ∀v∈vs,v.cells.size=es:=by
  intro v hv
  obtain⟨i,hi⟩:=aVp.1 hv
  have hlt:i<rows.length:=by rw[← hl];exact(aVe.1 hi).1
  obtain⟨v',h1,h2,_⟩:=h i _ (aVd hlt)
  rw[hi] at h1;cases h1
  rw[h2];exact hlen _ (List.getElem_mem hlt)
 intro i r hr
 have hre:=hlen r (List.mem_of_getElem? hr)
 refine⟨hre,fun k d hd=> ?_⟩
 obtain⟨v,h1,h2,h3⟩:=h i r hr
 obtain⟨u,hu,hdr⟩:=h3 k d hd
 refine⟨u,?_,hdr⟩
 have hk:k<es:=by rw[← hre];exact(aVe.1 hd).1
 rw[List.getElem?_toArray,Go.Great.flat_get hes vs hall]
 have e1: (0+i*es+k) / es=i:=by
  rw[Nat.zero_add,Nat.mul_comm,Nat.mul_add_div hes,Nat.div_eq_of_lt hk];rfl
 have e2: (0+i*es+k) % es=k:=by
  rw[Nat.zero_add,Nat.mul_comm,Nat.mul_add_mod,Nat.mod_eq_of_lt hk]
 rw[e1,e2,h1];exact hu
theorem qa {P:Program} {T:gQ} (hT:dR P T) {o:Oper} {σ0:St} {t:TypeId} {len:Nat} {parts:Array (Nat×Operand)} (ho:o.op= .buildSlice t len parts):lS P o σ0 (am T σ0 t len parts.toList o.dst):=by
 intro p R W h hp
 unfold am at h
 split at h<;>try(cases h;done)
 rename_i e _ _ _ Xs Rx d ht hxs hd
 split at h<;>try(cases h;done)
 rename_i ti rows hte hrows
 split at h<;>try(cases h;done)
 rename_i hcond
 simp only[aU7,beq_iff_eq] at hcond
 obtain⟨⟨habs,hdense⟩,hlen⟩:=hcond
 cases h
 obtain⟨hp1,hp2⟩:=hp
 have hu:=(hT t _ ht).kind
 simp only[lU] at hu
 have hok:=hT e ti hte
 refine⟨ie hd (by simp) fun cx σ ι S a w hr hw=> ?_,(lw hxs).append (bL.one (pD habs))⟩
 have hno:=hr.right (.o (jB σ0 d),none) (by simp)
 dsimp only at hno
 have hpairs:=lx hw hxs hr.left
 have hrl:=ef hrows
 have hxl:=rr hxs
 have hrs:=ii hpairs hrows
 obtain⟨vs,hvs⟩: ∃vs:List Value,vs=parts.toList.map fun x=>a.eval x.2:=⟨_,rfl⟩
 have hvl:vs.length=rows.length:=by rw[hvs];simp;simp at hxl;omega
 have hcells: ∀(i:Nat) r,rows[i]? =some r→ ∃v,vs[i]? =some v∧v.cells.size=r.length∧ ∀(k:Nat) d,r[k]? =some d→ ∃u,v.cells[k]? =some u∧DR w S d u:=by
  intro i r hri
  obtain⟨j,v,g1,g2,g3⟩:=hrs i r hri
  refine⟨v,?_,g2,g3⟩
  rw[hvs]
  rw[List.getElem?_map] at g1 ⊢
  cases hq:parts.toList[i]? with
  |none=>rw[hq] at g1;cases g1
  |some x=>rw[hq] at g1;cases g1;rfl
 have hall: ∀v∈vs,v.cells.size=ti.size:=by
  intro v hv
  obtain⟨i,hi⟩:=aVp.1 hv
  have hlt:i<rows.length:=by rw[← hvl];exact(aVe.1 hi).1
  obtain⟨v',h1,h2,_⟩:=hcells i _ (aVd hlt)
  rw[hi] at h1;cases h1
  rw[h2];exact hp1 _ (List.getElem_mem hlt)
 obtain⟨cells,hcl⟩: ∃cells:Array Value,cells=(vs.flatMap fun v=>v.cells.toList).toArray:=⟨_,rfl⟩
 have hcsz:cells.size=rows.length*ti.size:=by
  rw[hcl,List.size_toArray,← hvl]
  clear hvs hcells hcl hvl
  induction vs with
  |nil=>simp
  |cons v vs ih=>
   rw[List.flatMap_cons,aU5,ih (fun v hv=>hall v (List.mem_cons_of_mem _ hv)),Array.length_toList,hall v (List.mem_cons_self ..),aU9,aVo,Nat.one_mul,Nat.add_comm]
 have hlen':len=rows.length:=by simp at hxl;rw[hlen];simp;omega
 have hrun: (Instr.buildSlice t len (parts.map fun x=>(x.1,a.eval x.2))).run P w= .ok (.slice (some ⟨w.heap.size,0,none⟩) len len) (w.alloc (.cells cells e)):=by
  obtain⟨i,z,hi,hs,_,hz,_⟩:=hok.info
  have hparts: (parts.map fun x=>(x.1,a.eval x.2)).toList=(vs.zipIdx 0).map fun x=>(x.2,x.1):=by
   rw[Array.toList_map,hvs];exact yy 0 parts.toList a.eval hdense
  by_cases h0:len*ti.size=0
  · have hrz:rows.length=0:=by
     rcases Nat.mul_eq_zero.1 h0 with h|h
     · omega
     · have:=hok.pos;omega
    have hvs0:vs=[]:=List.eq_nil_of_length_eq_zero (by omega)
    have hc0:cells= #[]:=by rw[hcl,hvs0];rfl
    rw[hvs0] at hparts
    simp only[List.zipIdx_nil,List.map_nil] at hparts
    simp only[Instr.buildSlice,Sem.run_bind,run_underlying hu,Result.andThen_ok,fO hok]
    rw[if_neg (by omega)]
    rw[Array.toList_map] at hparts
    simp[h0,hparts,Instr.fill,newRow,hc0,Array.range_zero']
  · refine run_buildSlice w t e len _ cells i z hu hi hz (by rw[hs,hlen'];omega) (by rw[hs];exact h0) ?_
    rw[hs,hparts,hcl]
    exact Go.Great.fill_whole hok.pos vs _ hall (by rw[Array.size_map,Array.size_range,hvl,hlen'])
 obtain⟨htt,st⟩:=xV (ν:=iJ a) (w:=w) (w0:=w) (σ:=σ) (ι:=ι) (S:=S) (id:=jB σ0 d) (k:= .row e ti.size rows) (p:= .slice (some ⟨w.heap.size,0,none⟩) len len) (o:= .cells cells e) ⟨rfl,rfl,rfl,rfl⟩ hno
  (fun b hb=>by simp[xT] at hb;exact hb.symm)
  (fun st=> .inr ⟨w.heap.size,0,len,cells,(0,0),by rw[hlen'],heap_alloc_new w _,.inl rfl,by omega,by
   have:=hp2;have h2:=hok.pos
   have h3:len≤len*ti.size:=Nat.le_mul_of_pos_right _ h2
   simp only[maxLen];rw[hlen'] at h3 ⊢; omega,by rw[hcsz,hlen'];omega,by
   intro i r hri
   have hflat:=aC6 (w:=w.alloc (.cells cells e)) (S:=S) hok.pos hvl hp1 (fun i r hri=>by
    obtain⟨v,g1,g2,g3⟩:=hcells i r hri
    exact⟨v,g1,g2,fun k d hd=>by obtain⟨u,hu1,hu2⟩:=g3 k d hd;exact⟨u,hu1,DR.mono st.sub st.keep hu2⟩⟩) i r hri
   rw[← hcl] at hflat
   exact hflat⟩) hw.vr.sz
 refine⟨.slice (some ⟨w.heap.size,0,none⟩) len len,_,_,?_,htt,rfl,.inl ⟨e,ti.size,rows,cX _ _ _,aVf _,fun _=>by simp⟩⟩
 simp[execOp,ho]
 rw[hrun];rfl
set_option linter.unusedSimpArgs false
def rV (T:gQ) (σ:St) (t2:TypeId):V→Option (Prop×List (List D)×List (dF×Option K))
 | .e (.c (.d (.sl rows)))=>match T t2 with
  |some ⟨.sl _,_,_,_⟩=>some (True,rows,[])
  |_=>none
 | .e (.c .nil)=>match T t2 with
  |some ⟨.sl _,_,_,_⟩=>some (True,[],[])
  |_=>none
 | .e (.c (.own ob n))=>match T t2,aU σ (.o ob) with
  |some ⟨.sl _,_,_,_⟩,some (.row e es rows)=>some (rows.length=n,rows,[(.o ob,some (.row e es rows))])
  |_,_=>none
 | .e (.c (.d (.s l)))=>match T t2 with
  |some ⟨.str,_,_,_⟩=>some (True,l.map fun b=>[.u b.toNat],[])
  |_=>none
 |_=>none
structure ij (P:Program) (w:World) (S:Nat→Prop) (es:Nat) (rows:List (List D)) (vx:Value) (news:List Value):Prop where
 len: (Builtin.lenOf vx).run P w= .ok rows.length w
 len': ∀w1,(Builtin.lenOf vx).run P w1= .ok rows.length w1
 pre: ∀w1 m,w1.heap=w.heap→m≤rows.length→(Builtin.firstCells es m vx).run P w1= .ok (news.take (m*es)).toArray w1
 size:news.length=rows.length*es
 one: ∀u∈news,u.oneCell'=true
 rel: ∀(i:Nat) r,rows[i]? =some r→ ∀(k:Nat) d,r[k]? =some d→ ∃u,news[i*es+k]? =some u∧DR w S d u
theorem ij.first {P:Program} {w:World} {S:Nat→Prop} {es:Nat} {rows:List (List D)} {vx:Value} {news:List Value} (h:ij P w S es rows vx news): ∀w1,w1.heap=w.heap→(Builtin.firstCells es rows.length vx).run P w1= .ok news.toArray w1:=fun w1 h1=>by
 have:=h.pre w1 rows.length h1 (aVf _)
 rwa [← h.size,aVl] at this
theorem uM {w w1:World} (h:w1.heap=w.heap) (a:Addr):w1.cell? a=w.cell? a:=by simp[World.cell?,h]
theorem lA {i n es k:Nat} (hi:i<n) (hk:k<es):i*es+k<n*es:=by
 have: (i+1)*es≤n*es:=Nat.mul_le_mul_right _ hi
 rw[aVo,Nat.one_mul] at this;omega
theorem cw {P:Program} {T:gQ} (hT:dR P T) {σ0:St} {t2:TypeId} {X:V} {p:Prop} {rows:List (List D)} {R:List (dF×Option K)} (h:rV T σ0 t2 X=some (p,rows,R)) (hp:p) {es:Nat} (hes:0<es) (hlen: ∀r∈rows,r.length=es)
 {cx:Cx P} {σ:St} {ι:Nat→Value} {S:Nat→Prop} {a:Act} {w:World} (hr:bL R σ) (hw:RW cx σ ι S a w) {vx:Value} (hX:lR σ ι w S X vx): ∃news,ij P w S es rows vx news:=by
 unfold rV at h
 split at h
 · split at h<;>try(cases h;done)
   cases h
   obtain⟨a0,cap,es',ad,u,hv,hc,hm,he,ha,hw1,hd1⟩:=(show DR w S (.sl rows) vx from hX).sl_inv
   by_cases hrz:rows=[]
   · subst hrz
     refine⟨[],⟨by rw[hv];simp[Builtin.lenOf],fun w1=>by rw[hv];simp[Builtin.lenOf],fun w1 m h1 hm=> ?_,by simp,by simp,by simp⟩⟩
     rw[hv]
     obtain rfl:m=0:=by simpa using hm
     cases a0<;>simp[Builtin.firstCells,loadCells,loadCellsFrom]
   · have ha0:=ha hrz
     subst ha0
     have hee:es'=es:=by
      obtain⟨r,hrm⟩:=List.exists_mem_of_ne_nil _ hrz
      rw[← he r hrm];exact hlen r hrm
     subst hee
     have hcell: ∀(j:Nat),j<rows.length*es'→w.cell? (ad.add j)=some (u (j / es') (j % es'))∧(u (j / es') (j % es')).oneCell'=true:=by
      intro j hj
      have h1:j / es'<rows.length:=(Nat.div_lt_iff_lt_mul hes).2 hj
      have h2:j % es'<es':=Nat.mod_lt _ hes
      have hrl:=he _ (List.getElem_mem h1)
      have h3:j % es'< (rows[j / es']).length:=by rw[hrl];exact h2
      obtain⟨_,hc⟩:=hw1 (j / es') _ (j % es') _ (aVd h1) (aVd h3)
      rw[Nat.div_add_mod'] at hc
      exact⟨hc,DR.oneCell (hd1 (j / es') _ (j % es') _ (aVd h1) (aVd h3))⟩
     refine⟨(aVh (rows.length*es')).map fun j=>u (j / es') (j % es'),⟨by rw[hv];simp[Builtin.lenOf],fun w1=>by rw[hv];simp[Builtin.lenOf],fun w1 m h1 hm=> ?_,by simp,?_,fun i r hri k d hk=> ?_⟩⟩
     · rw[hv]
       have hle:m*es'≤rows.length*es':=Nat.mul_le_mul_right _ hm
       refine run_firstCells_some (P:=P) w1 es' m ad rows.length cap _ (by rw[aVc,List.length_map,List.length_range];omega) (fun j v hj=> ?_)
       have hjl:j<m*es':=by have:=(aVe.1 hj).1;rw[aVc,List.length_map,List.length_range] at this;omega
       rw[List.getElem?_take,if_pos hjl] at hj
       have hjl:j<rows.length*es':=by omega
       simp[hjl] at hj
       rw[uM h1,(hcell j hjl).1,hj]
     · intro v hv2
       simp only[aVj,List.mem_range] at hv2
       obtain⟨j,hj,rfl⟩:=hv2
       exact(hcell j hj).2
     · have hil:i<rows.length:=(aVe.1 hri).1
       have hkl:k<es':=by rw[← hlen r (List.mem_of_getElem? hri)];exact(aVe.1 hk).1
       refine⟨u i k,?_,hd1 i r k d hri hk⟩
       have e1: (i*es'+k) / es'=i:=by rw[Nat.mul_comm,Nat.mul_add_div hes,Nat.div_eq_of_lt hkl];rfl
       have e2: (i*es'+k) % es'=k:=by rw[Nat.mul_comm,Nat.mul_add_mod,Nat.mod_eq_of_lt hkl]
       simp[lA hil hkl,e1,e2]
 · split at h<;>try(cases h;done)
   cases h
   have hv:vx= .slice none 0 0:=hX
   exact⟨[],⟨by rw[hv];simp[Builtin.lenOf],fun w1=>by rw[hv];simp[Builtin.lenOf],fun w1 m h1 hm=>by(obtain rfl:m=0:=by simpa using hm);rw[hv];simp[Builtin.firstCells],by simp,by simp,by simp⟩⟩
 · rename_i ob n
   split at h<;>try(cases h;done)
   rename_i e _ _ _ e' es' _ _ hl
   cases h
   have hl':=hr (.o ob,some (.row e' es' rows)) (by simp)
   dsimp only at hl'
   obtain⟨_,h2⟩:=(show CR σ ι w S (.own ob n) vx from hX)
   rcases h2 with⟨e2,es2,rows2,hl2,hn,hv⟩|hd
   · rw[hl'] at hl2;cases hl2
     have hv1:=hv hp
     clear hv
     have hv:=hv1
     clear hv1
     rcases hw.vr.objs ob _ hl' with⟨hn2,hr2⟩|⟨g,off,cap,cur,fz,hg,hh,hfz,hc1,hc2,hc3,hrows⟩
     · subst hr2
       rw[hn2] at hv
       exact⟨[],⟨by rw[hv];simp[Builtin.lenOf],fun w1=>by rw[hv];simp[Builtin.lenOf],fun w1 m h1 hm=>by(obtain rfl:m=0:=by simpa using hm);rw[hv];simp[Builtin.firstCells],by simp,by simp,by simp⟩⟩
     · rw[hg] at hv
       by_cases hrz:rows=[]
       · subst hrz
         exact⟨[],⟨by rw[hv];simp[Builtin.lenOf],fun w1=>by rw[hv];simp[Builtin.lenOf],fun w1 m h1 hm=>by(obtain rfl:m=0:=by simpa using hm);rw[hv];simp[Builtin.firstCells,loadCells,loadCellsFrom],by simp,by simp,by simp⟩⟩
       · have hee:es'=es:=by
          obtain⟨r,hrm⟩:=List.exists_mem_of_ne_nil _ hrz
          obtain⟨i,hi⟩:=aVp.1 hrm
          rw[← (hrows i r hi).1];exact hlen r hrm
         subst hee
         have hle:rows.length*es'≤cap*es':=Nat.mul_le_mul_right _ hc1
         have h9:cur.toList.length=cur.size:=Array.length_toList
         have hget: ∀j,j<rows.length*es'→((cur.toList.drop off).take (rows.length*es'))[j]? =cur[off+j]?:=by
          intro j hj
          rw[List.getElem?_take,if_pos hj,List.getElem?_drop];simp
         refine⟨(cur.toList.drop off).take (rows.length*es'),⟨by rw[hv];simp[Builtin.lenOf],fun w1=>by rw[hv];simp[Builtin.lenOf],fun w1 m h1 hm=> ?_,by simp;omega,?_,fun i r hri k d hk=> ?_⟩⟩
         · rw[hv]
           have hle2:m*es'≤rows.length*es':=Nat.mul_le_mul_right _ hm
           refine run_firstCells_some (P:=P) w1 es' m ⟨g,off,none⟩ rows.length cap _ (by rw[aVc,aVc,aVk];omega) (fun j v hj=> ?_)
           have hjl:j<m*es':=by have:=(aVe.1 hj).1;rw[aVc] at this;omega
           rw[List.getElem?_take,if_pos hjl] at hj
           have hjl:j<rows.length*es':=by omega
           rw[hget j hjl] at hj
           rw[uM h1,lF,cell_of_row w g _ cur e' fz hh];exact hj
         · intro v hv2
           obtain⟨j,hj⟩:=aVp.1 hv2
           have hjl:j<rows.length*es':=by have:=(aVe.1 hj).1;simp at this;omega
           rw[hget j hjl] at hj
           have h1:j / es'<rows.length:=(Nat.div_lt_iff_lt_mul hes).2 hjl
           have h2:j % es'<es':=Nat.mod_lt _ hes
           have hrr:=hrows (j / es') _ (aVd h1)
           have h3:j % es'< (rows[j / es']).length:=by rw[hrr.1];exact h2
           obtain⟨u,hu,hdr⟩:=hrr.2 (j % es') _ (aVd h3)
           rw[Nat.add_assoc,Nat.div_add_mod'] at hu
           rw[hu] at hj;cases hj
           exact DR.oneCell hdr
         · have hil:i<rows.length:=(aVe.1 hri).1
           have hkl:k<es':=by rw[← hlen r (List.mem_of_getElem? hri)];exact(aVe.1 hk).1
           obtain⟨u,hu,hdr⟩:=(hrows i r hri).2 k d hk
           exact⟨u,by rw[hget _ (lA hil hkl),← Nat.add_assoc];exact hu,hdr⟩
   · rw[hl'] at hd;cases hd
 · rename_i l
   split at h<;>try(cases h;done)
   cases h
   have hv:vx= .string ⟨l.toArray⟩:=by
    have hX:DR w S (.s l) vx:=hX
    cases hX;rfl
   by_cases hlz:l=[]
   · subst hlz
     refine⟨[],⟨by rw[hv];simp[Builtin.lenOf];rfl,fun w1=>by rw[hv];simp[Builtin.lenOf];rfl,fun w1 m h1 hm=> ?_,by simp,by simp,by simp⟩⟩
     rw[hv]
     obtain rfl:m=0:=by simpa using hm
     simp only[Builtin.firstCells,List.map_nil,aU8]
     have: ((⟨([]:List UInt8).toArray⟩:ByteArray).extract 0 0)=⟨([]:List UInt8).toArray⟩:=by
      apply ByteArray.ext
      simp
     rw[this];simp
   · have he1:es=1:=by
      obtain⟨b,hb⟩:=List.exists_mem_of_ne_nil _ hlz
      have:=hlen [.u b.toNat] (aVj.2 ⟨b,hb,rfl⟩)
      simpa using this.symm
     subst he1
     refine⟨l.map fun b=> .int .u8 b.toNat,⟨by rw[hv];simp[Builtin.lenOf,xU],fun w1=>by rw[hv];simp[Builtin.lenOf,xU],fun w1 m h1 hm=> ?_,by simp,by simp[Value.oneCell'],fun i r hri k d hk=> ?_⟩⟩
     · rw[hv]
       simp only[Builtin.firstCells,List.length_map]
       have: ((⟨l.toArray⟩:ByteArray).extract 0 m)=⟨(l.take m).toArray⟩:=by
        apply ByteArray.ext
        simp
       rw[this];simp
     · rw[List.getElem?_map] at hri
       cases hq:l[i]? with
       |none=>rw[hq] at hri;cases hri
       |some b=>
        rw[hq] at hri;cases hri
        cases k with
        |zero=>
         simp at hk;subst hk
         exact⟨.int .u8 b.toNat,by simp[hq],.u _⟩
        |succ k=>simp at hk
 · cases h
theorem zO {P:Program} {w:World} {t t2 ty e:TypeId} {ti:TI} {d2:TypeDesc} (hu:P.underlying t=some (.slice e)) (hok:eV P e ti) (hu2:P.underlying t2=some d2) (hd2: ∀k,d2≠ .int k)
 {S:Nat→Prop} {rows:List (List D)} {vx:Value} {news:List Value} (hs:ij P w S ti.size rows vx news)
 (g off sLen sCap:Nat) (cur:Array Value) (ce:TypeId) {fz:Nat×Nat} (hfz:aL3 fz cur.size) (hg:w.heap[g]? =some (.cells cur ce fz)) (hroom:sLen+rows.length≤sCap) (hfit:off+sCap*ti.size≤cur.size):
 (Builtin.append_ #[t,t2] ty #[.slice (some ⟨g,off,none⟩) sLen sCap,vx]).run P w= .ok (.slice (some ⟨g,off,none⟩) (sLen+rows.length) sCap) (w.setRow g (dC cur.toList (off+sLen*ti.size) news).toArray):=by
 have hmul: (sLen+rows.length)*ti.size≤sCap*ti.size:=Nat.mul_le_mul_right _ hroom
 rw[aVo,← hs.size] at hmul
 have hst:=mX (P:=P) g (off+sLen*ti.size) ce fz news 0 cur w hg hfz (by omega) hs.one
 simp only[Nat.add_zero,dC] at hst
 have hz: (match d2 with| .int _=>true|_=>false)=false:=by cases d2<;>first|rfl|exact absurd rfl (hd2 _)
 simp[Builtin.append_,run_underlying hu,run_underlying hu2,fO hok,hs.len,hroom,hs.first w rfl,lF,hst,dC,hz]
theorem sW {P:Program} {w:World} {t t2 ty e:TypeId} {ti:TI} {d2:TypeDesc} (hu:P.underlying t=some (.slice e)) (hok:eV P e ti) (hu2:P.underlying t2=some d2) (hd2: ∀k,d2≠ .int k)
 {S:Nat→Prop} {vx:Value} {news:List Value} (hs:ij P w S ti.size [] vx news):
 (Builtin.append_ #[t,t2] ty #[.slice none 0 0,vx]).run P w= .ok (.slice none 0 0) w:=by
 have hz: (match d2 with| .int _=>true|_=>false)=false:=by cases d2<;>first|rfl|exact absurd rfl (hd2 _)
 have h1:=hs.len
 have h2:=hs.first w rfl
 simp only[aU8] at h1 h2
 simp[Builtin.append_,run_underlying hu,run_underlying hu2,fO hok,h1,h2,hz]
theorem rG {P:Program} {w:World} {t t2 ty e:TypeId} {ti:TI} {d2:TypeDesc} (hu:P.underlying t=some (.slice e)) (hok:eV P e ti) (hu2:P.underlying t2=some d2) (hd2: ∀k,d2≠ .int k)
 {S:Nat→Prop} {rows:List (List D)} {vx:Value} {news:List Value} (hs:ij P w S ti.size rows vx news) (base:Option Addr) (sLen sCap:Nat) (olds:List Value)
 (hold: ∀w1,w1.heap=w.heap→(Builtin.firstCells ti.size sLen (.slice base sLen sCap)).run P w1= .ok olds.toArray w1)
 (hgrow:sCap<sLen+rows.length) (hbytes: (sLen+rows.length)*ti.bytes≤140737488355328):
 ∃cap zs,(Builtin.append_ #[t,t2] ty #[.slice base sLen sCap,vx]).run P w= .ok (.slice (some ⟨w.heap.size,0,none⟩) (sLen+rows.length) cap) (w.drew.alloc (.cells (olds++news++zs).toArray e))∧sLen+rows.length≤cap∧cap≤maxLen∧
  zs.length=(cap - (sLen+rows.length))*ti.size:=by
 have hz: (match d2 with| .int _=>true|_=>false)=false:=by cases d2<;>first|rfl|exact absurd rfl (hd2 _)
 obtain⟨i,z,hi,hsz,hby,hzero,hzc⟩:=hok.info
 have hb:=hok.bpos
 have hle:sLen+rows.length≤(sLen+rows.length)*ti.bytes:=Nat.le_mul_of_pos_right _ hb
 have hfit: ¬(281474976710656<Builtin.nextslicecap (sLen+rows.length) sCap*ti.bytes):=by
  have:=growslice_fits hgrow hbytes;omega
 have hcl:=grownCap_ge w (sLen+rows.length) sCap e
 have hcm:=grownCap_le_maxLen w (sLen+rows.length) sCap e (by simp only[maxLen];omega)
 have hzl:z.cells.size=ti.size:=by rw[← Array.length_toList,hzc,List.length_map,hok.zlen]
 refine⟨grownCap w (sLen+rows.length) sCap e,(Builtin.zeroCells z.cells (grownCap w (sLen+rows.length) sCap e - (sLen+rows.length))).toList,?_,hcl,hcm,?_⟩
 · have hn: ¬(sLen+rows.length≤sCap):=by omega
   have h63: ¬(9223372036854775807< ((sLen:Int)+(rows.length:Int))):=by omega
   have ho:=hold w.drew rfl
   have hf:=hs.first w.drew rfl
   simp[Builtin.append_,run_underlying hu,run_underlying hu2,fO hok,hs.len,hn,h63,typeInfo,hi,hby,hfit,hz,Question.forced,zeroValue,hzero,newRow,grownCap]
   rw[ho,Result.andThen_ok,hf,Result.andThen_ok]
   simp
   congr 2
   apply Array.toList_inj.1
   simp
 · simp[size_zeroCells,hzl]
set_option linter.unusedSimpArgs false
theorem xW {P:Program} {T:gQ} (hT:dR P T) {σ0:St} {t2:TypeId} {X:V} {p:Prop} {rows:List (List D)} {R:List (dF×Option K)} (h:rV T σ0 t2 X=some (p,rows,R)):
 ∃d2,P.underlying t2=some d2∧ ∀k,d2≠ .int k:=by
 unfold rV at h
 split at h<;>try(cases h;done)
 all_goals
  split at h<;>try(cases h;done)
  rename_i ht
  have:=(hT t2 _ ‹_›).kind
  simp only[lU] at this
  exact⟨_,this,fun k e=>by cases e⟩
theorem rW {T:gQ} {σ0:St} {t2:TypeId} {X:V} {p:Prop} {rows:List (List D)} {R:List (dF×Option K)} (h:rV T σ0 t2 X=some (p,rows,R)):bL R σ0:=by
 unfold rV at h
 split at h<;>try(cases h;done)
 all_goals
  split at h<;>try(cases h;done)
  cases h
  first|exact bL.nil|exact bL.one ‹_›
theorem lz {P:Program} {o:Oper} {d id:Nat} {R:List (dF×Option K)} {k:K} {X:V} (hd:o.dst=some d)
 (h: ∀(cx:Cx P) (σ:St) (ι:Nat→Value) (S:Nat→Prop) (a:Act) (w:World),bL R σ→RW cx σ ι S a w→ ∃v old p w',(execOp a.eval o).run P w= .ok (.value v) w'∧aJr σ ι S w id old k p w'∧
  lR (pM σ (.o id) k) (fun o=>if o=id then p else ι o) w' S X v):wY P o R [(.o id,k),(.t d,.v X)]:=by
 intro cx σ ι S a w hr hw hb next Q hn
 obtain⟨v,old,p,w',he,ht,hx⟩:=h cx σ ι S a w hr hw
 unfold Oper.wp
 rw[he]
 simp only[Oper.upon,hd]
 exact hn _ S _ w' ((hw.turn ht).put (hb d hd) hx)
def aA7 (T:gQ) (σ:St) (t t2:TypeId) (x y:Operand) (d:Option Tmp):xg:=
 match ev σ x,ev σ y,T t,d with
 |some (.e (.c (.own ob n)),R),some (Y,R2),some ⟨.sl e,_,_,_⟩,some d=>match T e,aU σ (.o ob),rV T σ t2 Y with
  |some ti,some (.row e' es rows),some (q,news,R3)=>if e=e'∧ti.size=es then
   some (q∧rows.length=n∧(∀r∈news,r.length=es)∧(n+news.length)*ti.bytes≤140737488355328,R++R2++R3++[(.o ob,some (.row e' es rows))],
    [(.o ob,.row e es (rows++news)),(.t d,.v (.e (.c (.own ob (rows++news).length))))]) else none
  |_,_,_=>none
 |some (.e (.c .nil),R),some (Y,R2),some ⟨.sl e,_,_,_⟩,some d=>match T e,rV T σ t2 Y with
  |some ti,some (q,news,R3)=>if wH σ (.o (jB σ d)) then
   some (q∧(∀r∈news,r.length=ti.size)∧news.length*ti.bytes≤140737488355328,R++R2++R3++[(.o (jB σ d),none)],
    [(.o (jB σ d),.row e ti.size news),(.t d,.v (.e (.c (.own (jB σ d) news.length))))]) else none
  |_,_=>none
 |_,_,_,_=>none
theorem ma {w:World} {S:Nat→Prop} {es:Nat} {rows news:List (List D)} {off:Nat} {at_:Nat→Option Value}
 (hold: ∀(i:Nat) r,rows[i]? =some r→r.length=es∧ ∀(k:Nat) d,r[k]? =some d→ ∃u,at_ (off+i*es+k)=some u∧DR w S d u)
 (hnew: ∀r∈news,r.length=es) (hn: ∀(i:Nat) r,news[i]? =some r→ ∀(k:Nat) d,r[k]? =some d→ ∃u,at_ (off+rows.length*es+(i*es+k))=some u∧DR w S d u):
 ∀(i:Nat) r,(rows++news)[i]? =some r→r.length=es∧ ∀(k:Nat) d,r[k]? =some d→ ∃u,at_ (off+i*es+k)=some u∧DR w S d u:=by
 intro i r hr
 by_cases hi:i<rows.length
 · rw[List.getElem?_append_left hi] at hr
   exact hold i r hr
 · rw[List.getElem?_append_right (by omega)] at hr
   refine⟨hnew r (List.mem_of_getElem? hr),fun k d hk=> ?_⟩
   obtain⟨u,hu,hdr⟩:=hn (i - rows.length) r hr k d hk
   refine⟨u,?_,hdr⟩
   have:off+i*es+k=off+rows.length*es+((i - rows.length)*es+k):=by
    have:i*es=rows.length*es+(i - rows.length)*es:=by rw[← aVo];congr 1;omega
    omega
   rw[this];exact hu
theorem aC7 {P:Program} {T:gQ} (hT:dR P T) {o:Oper} {σ0:St} {t t2:TypeId} {x y:Operand} (ho:o.op= .call {callee:= .builtin .append,args:= #[x,y],argTypes:= #[t,t2]}):
 lS P o σ0 (aA7 T σ0 t t2 x y o.dst):=by
 intro p R W h hp
 unfold aA7 at h
 split at h
 · rename_i ob n Rx Y Ry e _ _ _ d hx hy ht hd
   split at h<;>try(cases h;done)
   rename_i ti e' es rows q news R3 hte hl hsrc
   split at h<;>try(cases h;done)
   rename_i hee
   obtain⟨rfl,rfl⟩:=hee
   cases h
   obtain⟨hq,hn,hnl,hbytes⟩:=hp
   have hu:=(hT t _ ht).kind
   simp only[lU] at hu
   have hok:=hT e ti hte
   obtain⟨d2,hu2,hd2⟩:=xW hT hsrc
   refine⟨lz hd fun cx σ ι S a w hr hw=> ?_,(((cZ hx).append (cZ hy)).append (rW hsrc)).append (bL.one hl)⟩
   have hl':=hr.right (.o ob,some (.row e ti.size rows)) (by simp)
   dsimp only at hl'
   have hX:=dG hx hr.left.left.left hw
   have hY:=dG hy hr.left.left.right hw
   obtain⟨nv,hs⟩:=cw hT hsrc hq hok.pos hnl hr.left.right hw hY
   obtain⟨_,h2⟩:=(show CR σ ι w S (.own ob n) (a.eval x) from hX)
   rcases h2 with⟨e2,es2,rows2,hl2,hnn,hv⟩|hdd
   case inr=>rw[hl'] at hdd;cases hdd
   rw[hl'] at hl2;cases hl2
   have hvx:=hv hn
   have hlen: (rows++news).length=n+news.length:=by rw[aU5,hn]
   rcases hw.vr.objs ob _ hl' with⟨hn2,hr2⟩|⟨g,off,cap,cur,fz,hg,hh,hfz,hc1,hc2,hc3,hrows⟩
   ·
    subst hr2
    rw[hn2] at hvx
    have hn0:n=0:=by simpa using hn.symm
    subst hn0
    by_cases hnz:news=[]
    · subst hnz
      have hrun:=sW (w:=w) (ty:=o.type) hu hok hu2 hd2 hs
      have hblock: ∀b,b<w.heap.size→some b≠(none:Option Nat)→w.heap[b]? =w.heap[b]?:=fun _ _ _=>rfl
      refine⟨.slice none 0 0,none,.slice none 0 0,w,?_,⟨rfl,rfl,rfl,aVf _,hblock,(fun b hb=>by cases hb),.inr ⟨_,hl',rfl,by simp,fun _=>hn2.symm⟩,(fun b hb=>by simp[xT] at hb),.inl ⟨rfl,by simp⟩⟩,rfl,.inl ⟨e,ti.size,_,cX _ _ _,by simp,fun _=>by simp⟩⟩
      simp[execOp,ho,resolve,invoke,builtin,hvx,hrun]
    · have hnpos:0<news.length:=List.length_pos_iff.2 hnz
      obtain⟨cap',zs,hrun,hle,hm,hzl⟩:=rG (w:=w) (ty:=o.type) hu hok hu2 hd2 hs none 0 0 [] (fun w1 _=>by simp[Builtin.firstCells]) (by omega) (by simpa using hbytes)
      simp only[List.nil_append,Nat.zero_add] at hrun hle hzl
      have hblock: ∀b,b<w.heap.size→some b≠(none:Option Nat)→(w.drew.alloc (.cells (nv++zs).toArray e)).heap[b]? =w.heap[b]?:=fun b hb _=>heap_alloc_old w.drew _ b hb
      have hevo:aU σ (.o ob)=none∨ ∃k0,aU σ (.o ob)=some k0∧nA (ι ob) (.slice (some ⟨w.heap.size,0,none⟩) news.length cap') k0 (.row e ti.size ([]++news)):=
       .inr ⟨_,hl',rfl,by simp,fun hc=>by simp at hc;exact absurd hc hnz⟩
      have st:=rB hw.vr hblock (fun b hb=>by cases hb) hevo
      refine⟨.slice (some ⟨w.heap.size,0,none⟩) news.length cap',none,.slice (some ⟨w.heap.size,0,none⟩) news.length cap',w.drew.alloc (.cells (nv++zs).toArray e),?_,
       ⟨rfl,rfl,rfl,by simp,hblock,(fun b hb=>by cases hb),hevo,(fun b hb=> .inr (by simp[xT] at hb;omega)),?_⟩,rfl,.inl ⟨e,ti.size,_,cX _ _ _,by simp,fun _=>by simp⟩⟩
      · simp[execOp,ho,resolve,invoke,builtin,hvx,hrun]
      · refine .inr ⟨w.heap.size,0,cap',(nv++zs).toArray,(0,0),by simp,heap_alloc_new w.drew _,.inl rfl,by simpa using hle,hm,?_,?_⟩
        · rw[List.size_toArray,aU5,hs.size,hzl,← aVo,Nat.add_sub_cancel' hle];omega
        · refine ma (at_:=fun j=>(nv++zs).toArray[j]?) (by simp) hnl (fun i r hi k d hk=> ?_)
          obtain⟨u,hu',hdr⟩:=hs.rel i r hi k d hk
          refine⟨u,?_,DR.mono st.sub st.keep hdr⟩
          have hlt:=(aVe.1 hu').1
          simp only[List.getElem?_toArray,aU8,Nat.zero_mul,Nat.zero_add]
          rw[List.getElem?_append_left hlt];exact hu'
   · rw[hg,hn] at hvx
     by_cases hroom:n+news.length≤cap
     · have hrun:=zO (w:=w) (ty:=o.type) hu hok hu2 hd2 hs g off n cap cur e hfz hh hroom hc3
       have hmul: (n+news.length)*ti.size≤cap*ti.size:=Nat.mul_le_mul_right _ hroom
       rw[aVo,← hs.size] at hmul
       have h9:cur.toList.length=cur.size:=Array.length_toList
       have hmine: ∀b',some g=some b'→kR σ ι ob b':=fun b' e=>by cases e;exact⟨⟨_,hl',trivial⟩,by rw[hg];rfl⟩
       have hblock: ∀b',b'<w.heap.size→some b'≠some g→(w.setRow g (dC cur.toList (off+n*ti.size) nv).toArray).heap[b']? =w.heap[b']?:=fun b' _ hne=>setRow_other w g b' _ (fun e=>hne (by rw[e]))
       have hevo:aU σ (.o ob)=none∨ ∃k0,aU σ (.o ob)=some k0∧nA (ι ob) (.slice (some ⟨g,off,none⟩) (n+news.length) cap) k0 (.row e ti.size (rows++news)):=
        .inr ⟨_,hl',rfl,by simp,fun hc=>by rw[hg,← hlen,hc]⟩
       have st:=rB hw.vr hblock hmine hevo
       refine⟨.slice (some ⟨g,off,none⟩) (n+news.length) cap,some g,.slice (some ⟨g,off,none⟩) (n+news.length) cap,w.setRow g (dC cur.toList (off+n*ti.size) nv).toArray,?_,
        ⟨rfl,rfl,rfl,by simp,hblock,hmine,hevo,(fun b hb=> .inl (by simp[xT] at hb;rw[hb])),?_⟩,rfl,.inl ⟨e,ti.size,_,cX _ _ _,aVf _,fun _=>by simp⟩⟩
       · simp[execOp,ho,resolve,invoke,builtin,hvx,hrun]
       · refine .inr ⟨g,off,cap,(dC cur.toList (off+n*ti.size) nv).toArray,fz,by rw[hlen],setRow_heap w g cur _ e _ hh,by rw[List.size_toArray,fK (by omega),h9];exact hfz,by rw[hlen];exact hroom,hc2,?_,?_⟩
         · rw[List.size_toArray,fK (by omega),h9];exact hc3
         · refine ma (at_:=fun j=>(dC cur.toList (off+n*ti.size) nv).toArray[j]?) (fun i r hi=> ?_) hnl (fun i r hi k d hk=> ?_)
           · obtain⟨q1,q2⟩:=hrows i r hi
             refine⟨q1,fun k d hk=> ?_⟩
             obtain⟨u,hu',hdr⟩:=q2 k d hk
             refine⟨u,?_,DR.mono st.sub st.keep hdr⟩
             have hil:i<n:=by rw[← hn];exact(aVe.1 hi).1
             have hkl:k<ti.size:=by rw[← q1];exact(aVe.1 hk).1
             have:=lA hil hkl
             simp only[List.getElem?_toArray]
             rw[iP (by omega),if_pos (by omega)]
             simpa using hu'
           · obtain⟨u,hu',hdr⟩:=hs.rel i r hi k d hk
             refine⟨u,?_,DR.mono st.sub st.keep hdr⟩
             have hlt:=(aVe.1 hu').1
             simp only[List.getElem?_toArray,hn]
             rw[iP (by omega),if_neg (by omega),if_pos (by omega),show off+n*ti.size+(i*ti.size+k) - (off+n*ti.size)=i*ti.size+k by omega]
             exact hu'
     · have hle9:n*ti.size≤cap*ti.size:=Nat.mul_le_mul_right _ (by rw[← hn];exact hc1)
       have h9:cur.toList.length=cur.size:=Array.length_toList
       obtain⟨olds,hold⟩: ∃olds,olds=(cur.toList.drop off).take (n*ti.size):=⟨_,rfl⟩
       have holdl:olds.length=n*ti.size:=by rw[hold];simp;omega
       have hget: ∀j,j<n*ti.size→olds[j]? =cur[off+j]?:=by
        intro j hj
        rw[hold,List.getElem?_take,if_pos hj,List.getElem?_drop];simp
       obtain⟨cap',zs,hrun,hle,hm,hzl⟩:=rG (w:=w) (ty:=o.type) hu hok hu2 hd2 hs (some ⟨g,off,none⟩) n cap olds (fun w1 h1=>by
        refine run_firstCells_some (P:=P) w1 ti.size n ⟨g,off,none⟩ n cap _ holdl (fun j v hj=> ?_)
        have hjl:j<n*ti.size:=by rw[← holdl];exact(aVe.1 hj).1
        rw[hget j hjl] at hj
        rw[uM h1,lF,cell_of_row w g _ cur e fz hh];exact hj) (by omega) hbytes
       have hblock: ∀b,b<w.heap.size→some b≠(none:Option Nat)→(w.drew.alloc (.cells (olds++nv++zs).toArray e)).heap[b]? =w.heap[b]?:=fun b hb _=>heap_alloc_old w.drew _ b hb
       have hnn0:news.length≠0:=by intro h0;rw[h0] at hroom;rw[hn] at hc1;omega
       have hevo:aU σ (.o ob)=none∨ ∃k0,aU σ (.o ob)=some k0∧nA (ι ob) (.slice (some ⟨w.heap.size,0,none⟩) (n+news.length) cap') k0 (.row e ti.size (rows++news)):=
        .inr ⟨_,hl',rfl,by simp,fun hc=>by simp at hc;exact absurd (by rw[hc];rfl) hnn0⟩
       have st:=rB hw.vr hblock (fun b hb=>by cases hb) hevo
       refine⟨.slice (some ⟨w.heap.size,0,none⟩) (n+news.length) cap',none,.slice (some ⟨w.heap.size,0,none⟩) (n+news.length) cap',w.drew.alloc (.cells (olds++nv++zs).toArray e),?_,
        ⟨rfl,rfl,rfl,by simp,hblock,(fun b hb=>by cases hb),hevo,(fun b hb=> .inr (by simp[xT] at hb;omega)),?_⟩,rfl,.inl ⟨e,ti.size,_,cX _ _ _,aVf _,fun _=>by simp⟩⟩
       · simp[execOp,ho,resolve,invoke,builtin,hvx,hrun]
       · refine .inr ⟨w.heap.size,0,cap',(olds++nv++zs).toArray,(0,0),by rw[hlen],heap_alloc_new w.drew _,.inl rfl,by rw[hlen];exact hle,hm,?_,?_⟩
         · rw[List.size_toArray,aU5,aU5,hs.size,hzl,holdl,← aVo,← aVo,Nat.add_sub_cancel' hle];omega
         · refine ma (at_:=fun j=>(olds++nv++zs).toArray[j]?) (fun i r hi=> ?_) hnl (fun i r hi k d hk=> ?_)
           · obtain⟨q1,q2⟩:=hrows i r hi
             refine⟨q1,fun k d hk=> ?_⟩
             obtain⟨u,hu',hdr⟩:=q2 k d hk
             refine⟨u,?_,DR.mono st.sub st.keep hdr⟩
             have hil:i<n:=by rw[← hn];exact(aVe.1 hi).1
             have hkl:k<ti.size:=by rw[← q1];exact(aVe.1 hk).1
             have hlt:=lA hil hkl
             simp only[List.getElem?_toArray]
             rw[List.append_assoc,List.getElem?_append_left (by rw[holdl];omega),show 0+i*ti.size+k=i*ti.size+k by omega,hget _ hlt,← Nat.add_assoc]
             exact hu'
           · obtain⟨u,hu',hdr⟩:=hs.rel i r hi k d hk
             refine⟨u,?_,DR.mono st.sub st.keep hdr⟩
             have hlt:=(aVe.1 hu').1
             simp only[List.getElem?_toArray,hn]
             rw[List.append_assoc,List.getElem?_append_right (by rw[holdl];omega),holdl,show 0+n*ti.size+(i*ti.size+k) - n*ti.size=i*ti.size+k by omega,List.getElem?_append_left hlt]
             exact hu'
 · rename_i Rx Y Ry e _ _ _ d hx hy ht hd
   split at h<;>try(cases h;done)
   rename_i ti q news R3 hte hsrc
   split at h<;>try(cases h;done)
   rename_i habs
   cases h
   obtain⟨hq,hnl,hbytes⟩:=hp
   have hu:=(hT t _ ht).kind
   simp only[lU] at hu
   have hok:=hT e ti hte
   obtain⟨d2,hu2,hd2⟩:=xW hT hsrc
   refine⟨lz hd fun cx σ ι S a w hr hw=> ?_,(((cZ hx).append (cZ hy)).append (rW hsrc)).append (bL.one (pD habs))⟩
   have hno:=hr.right (.o (jB σ0 d),none) (by simp)
   dsimp only at hno
   have hX:=dG hx hr.left.left.left hw
   have hY:=dG hy hr.left.left.right hw
   obtain⟨nv,hs⟩:=cw hT hsrc hq hok.pos hnl hr.left.right hw hY
   have hvx:a.eval x= .slice none 0 0:=hX
   by_cases hnz:news=[]
   · subst hnz
     have hrun:=sW (w:=w) (ty:=o.type) hu hok hu2 hd2 hs
     refine⟨.slice none 0 0,none,.slice none 0 0,w,?_,⟨rfl,rfl,rfl,aVf _,(fun _ _ _=>rfl),(fun b hb=>by cases hb),.inl hno,(fun b hb=>by simp[xT] at hb),.inl ⟨rfl,by simp⟩⟩,rfl,.inl ⟨e,ti.size,_,cX _ _ _,by simp,fun _=>by simp⟩⟩
     simp[execOp,ho,resolve,invoke,builtin,hvx,hrun]
   · have hnpos:0<news.length:=List.length_pos_iff.2 hnz
     obtain⟨cap',zs,hrun,hle,hm,hzl⟩:=rG (w:=w) (ty:=o.type) hu hok hu2 hd2 hs none 0 0 [] (fun w1 _=>by simp[Builtin.firstCells]) (by omega) (by simpa using hbytes)
     simp only[List.nil_append,Nat.zero_add] at hrun hle hzl
     have hblock: ∀b,b<w.heap.size→some b≠(none:Option Nat)→(w.drew.alloc (.cells (nv++zs).toArray e)).heap[b]? =w.heap[b]?:=fun b hb _=>heap_alloc_old w.drew _ b hb
     have st:=rB (k:= .row e ti.size news) (p:= .slice (some ⟨w.heap.size,0,none⟩) news.length cap') hw.vr hblock (fun b hb=>by cases hb) (.inl hno)
     refine⟨.slice (some ⟨w.heap.size,0,none⟩) news.length cap',none,.slice (some ⟨w.heap.size,0,none⟩) news.length cap',w.drew.alloc (.cells (nv++zs).toArray e),?_,
      ⟨rfl,rfl,rfl,by simp,hblock,(fun b hb=>by cases hb),.inl hno,(fun b hb=> .inr (by simp[xT] at hb;omega)),?_⟩,rfl,.inl ⟨e,ti.size,_,cX _ _ _,by simp,fun _=>by simp⟩⟩
     · simp[execOp,ho,resolve,invoke,builtin,hvx,hrun]
     · refine .inr ⟨w.heap.size,0,cap',(nv++zs).toArray,(0,0),by simp,heap_alloc_new w.drew _,.inl rfl,by simpa using hle,hm,?_,?_⟩
       · rw[List.size_toArray,aU5,hs.size,hzl,← aVo,Nat.add_sub_cancel' hle];omega
       · intro i r hi
         refine⟨hnl r (List.mem_of_getElem? hi),fun k d hk=> ?_⟩
         obtain⟨u,hu',hdr⟩:=hs.rel i r hi k d hk
         refine⟨u,?_,DR.mono st.sub st.keep hdr⟩
         have hlt:=(aVe.1 hu').1
         simp only[List.getElem?_toArray]
         rw[show 0+i*ti.size+k=i*ti.size+k by omega,List.getElem?_append_left hlt];exact hu'
 · cases h
set_option linter.unusedSimpArgs false
theorem RW.congr {P:Program} {cx:Cx P} {σ σ':St} {ι:Nat→Value} {S:Nat→Prop} {a:Act} {w:World} (h:RW cx σ ι S a w) (he: ∀l,aU σ' l=aU σ l):RW cx σ' ι S a w:=by
 have st:qT σ ι S w σ' ι S w:=⟨fun _ h=>h,fun _ _=>rfl,fun o k hk=>⟨k,by rw[he];exact hk,nA.refl' _ _⟩⟩
 have hm: ∀o b,kR σ' ι o b↔kR σ ι o b:=fun o b=>by unfold kR;rw[he]
 exact⟨⟨fun s x hx=>qU.step st (h.vr.slots s x (by rw[← he];exact hx)),fun o k hk=>OR.step st (fun _ _=>rfl) (h.vr.objs o k (by rw[← he];exact hk)),
  fun o b q=>h.vr.mutS o b ((hm o b).1 q),fun o o' b q q'=>h.vr.inj o o' b ((hm o b).1 q) ((hm o' b).1 q'),h.vr.sz⟩,h.size,h.defers,h.fr,fun o b q=>h.own o b ((hm o b).1 q),h.rd,
  fun o k hk=>by obtain⟨k',q1,q2⟩:=h.io o k hk;exact⟨k',by rw[he];exact q1,q2⟩⟩
abbrev mD:=List (dF×Option K)×List (dF×K)
def ItT (P:Program) (ops:Array Oper) (o:Oper) (tr:mD):Prop:=
 ∀(cx:Cx P) (σ:St) (ι:Nat→Value) (S:Nat→Prop) (a:Act) (w:World),bL tr.1 σ→RW cx σ ι S a w→(∀d,o.dst=some d→d<cx.N)→
  ∀(next:Act→World→Prop) (Q:Exit→Act→World→Prop),(∀ι' S' a' w',RW cx (iL σ tr.2) ι' S' a' w'→next a' w')→
   if Region.wanted o (yielded ops a.tmps) then o.wp P a w next Q∨(o.asks P a w∧LetsOut Q) else next (a.put o.dst undef) w
theorem ao {P:Program} {ops:Array Oper} {o:Oper} {R:List (dF×Option K)} {W:List (dF×K)} (hg:o.guard=none) (h:wY P o R W):ItT P ops o (R,W):=by
 intro cx σ ι S a w hr hw hb next Q hn
 rw[if_pos (by simp[Region.wanted,hg])]
 exact .inl (h cx σ ι S a w hr hw hb next Q hn)
theorem ru {P:Program} {cx:Cx P} {σ:St} {ι:Nat→Value} {S:Nat→Prop} {a:Act} {w:World} (hw:RW cx σ ι S a w) {ops:Array Oper} {j s:Nat} (hs: (ops[j]?).bind (·.dst)=some s) {x:Bool} (hl:aU σ (.t s)=some (.v (B x))):
 yielded ops a.tmps j=some x:=by
 have h1:=hw.vr.slots s _ hl
 simp only[qU,lR,ER,CR] at h1
 have h2:iJ a s= .bool x:=by generalize iJ a s=v at h1;cases h1;rfl
 have h3:a.tmps[s]? =some (.bool x):=by
  unfold iJ at h2
  rw[Array.getD_eq_getD_getElem?] at h2
  cases hq:a.tmps[s]? with
  |none=>rw[hq] at h2;simp[undef] at h2
  |some v=>rw[hq] at h2;simp at h2;rw[h2]
 simp[yielded,hs,h3]
theorem aC8 {P:Program} {ops:Array Oper} {o:Oper} {R:List (dF×Option K)} {W:List (dF×K)} {j s:Nat} {x:Bool} (hg:o.guard=some (j,x)) (hs: (ops[j]?).bind (·.dst)=some s) (h:wY P o R W):ItT P ops o ((.t s,some (.v (B x)))::R,W):=by
 intro cx σ ι S a w hr hw hb next Q hn
 have hy:=ru hw hs (hr (.t s,some (.v (B x))) (by simp))
 rw[if_pos (by simp[Region.wanted,hg,hy])]
 exact .inl (h cx σ ι S a w (fun p hp=>hr p (List.mem_cons_of_mem _ hp)) hw hb next Q hn)
theorem aIt {P:Program} {ops:Array Oper} {o:Oper} {j s:Nat} {x:Bool} (hg:o.guard=some (j,x)) (hs: (ops[j]?).bind (·.dst)=some s) {W:List (dF×K)} (hW:W=match o.dst with|some d=>[(.t d,.dead)]|none=>[]):
 ItT P ops o ([(.t s,some (.v (B (!x))))],W):=by
 intro cx σ ι S a w hr hw hb next Q hn
 have hy:=ru hw hs (hr (.t s,some (.v (B (!x)))) (by simp))
 rw[if_neg (by simp[Region.wanted,hg,hy])]
 subst hW
 cases hd:o.dst with
 |none=>rw[hd] at hn;exact hn ι S a w hw
 |some d=>rw[hd] at hn;exact hn ι S _ w (hw.putDead (hb d hd) _)
def fF:List mD→St→St
 | [],σ=>σ
 |t::r,σ=>fF r (iL σ t.2)
def kB:List mD→St→Prop
 | [],_=>True
 |t::r,σ=>bL t.1 σ∧kB r (iL σ t.2)
def zP (P:Program) (ops:Array Oper):List Oper→List mD→Prop
 | [],[]=>True
 |o::os,t::ts=>ItT P ops o t∧zP P ops os ts
 |_,_=>False
def aMa (N:Nat) (l:List Oper):Bool:=l.all fun o=>match o.dst with|some d=>decide (d<N)|none=>true
theorem xX {N:Nat} {l:List Oper} (h:aMa N l=true) {o:Oper} (ho:o∈l): ∀d,o.dst=some d→d<N:=by
 intro d hd
 have:=aVi.1 h o ho
 rw[hd] at this
 simpa using this
theorem xY {P:Program} {ops:Array Oper} {cx:Cx P} {Q:Exit→Act→World→Prop}: ∀(l:List Oper) (ts:List mD) (σ:St) (ι:Nat→Value) (S:Nat→Prop) (a:Act) (w:World),zP P ops l ts→kB ts σ→RW cx σ ι S a w→(∀o∈l,∀d,o.dst=some d→d<cx.N)→
 (∀ι' S' a' w',RW cx (fF ts σ) ι' S' a' w'→Q .normal a' w')→wpList P ops Q l a w
 | [],[],σ,ι,S,a,w,_,_,hw,_,hq=>hq ι S a w hw
 |o::os,t::ts,σ,ι,S,a,w,hi,hr,hw,hf,hq=>by
  unfold wpList
  exact hi.1 cx σ ι S a w hr.1 hw (hf o (List.mem_cons_self ..)) _ Q fun ι' S' a' w' hw'=>xY os ts _ ι' S' a' w' hi.2 hr.2 hw' (fun o ho=>hf o (List.mem_cons_of_mem _ ho)) hq
 | [],_::_,_,_,_,_,_,hi,_,_,_,_=>hi.elim
 |_::_,[],_,_,_,_,_,hi,_,_,_,_=>hi.elim
def wr:List (dF×K)→dF→Option K
 | [],_=>none
 |p::r,l=>match wr r l with
  |some k=>some k
  |none=>if p.1=l then some p.2 else none
theorem lG: ∀(W:List (dF×K)) (σ:St) (l:dF),aU (iL σ W) l=match wr W l with|some k=>some k|none=>aU σ l
 | [],σ,l=>rfl
 |p::r,σ,l=>by
  unfold iL wr
  rw[lG r]
  cases wr r l with
  |some k=>rfl
  |none=>
   rw[oI]
   by_cases h:p.1=l
   · simp[h]
   · simp[h]
theorem xZ {W:List (dF×K)} {l:dF} (h:l∉W.map (·.1)):wr W l=none:=by
 induction W with
 |nil=>rfl
 |cons p r ih=>
  simp at h
  unfold wr
  rw[ih (by simpa using h.2),if_neg (fun e=>h.1 e.symm)]
theorem aOl {W:List (dF×K)} {l:dF} (h:l∈W.map (·.1)): ∃k,wr W l=some k:=by
 induction W with
 |nil=>simp at h
 |cons p r ih=>
  unfold wr
  cases hq:wr r l with
  |some k=>exact⟨k,rfl⟩
  |none=>
   simp only[List.map_cons,aVm] at h
   rcases h with h|h
   · exact⟨p.2,by rw[if_pos h.symm]⟩
   · obtain⟨k,hk⟩:=ih h;rw[hq] at hk;cases hk
def part (ts:List mD) (L:Nat→Bool) (σ:St) (l:dF):Nat→Option K
 |0=>aU σ l
 |n+1=>if L n=true then(match ts[n]? with
  |some t=>(match wr t.2 l with|some k=>some k|none=>part ts L σ l n)
  |none=>part ts L σ l n) else part ts L σ l n
theorem wI: ∀(ts us:List mD) (σ:St),fF (ts++us) σ=fF us (fF ts σ)
 | [],us,σ=>rfl
 |t::ts,us,σ=>by simp only[List.cons_append,fF];exact wI ts us _
theorem ap (ts:List mD) (σ:St) (l:dF) (L:Nat→Bool): ∀n,n≤ts.length→(∀i,i<n→L i=true)→part ts L σ l n=aU (fF (ts.take n) σ) l
 |0,_,_=>by simp[part,fF]
 |n+1,hn,hL=>by
  have hlt:n<ts.length:=hn
  unfold part
  rw[if_pos (hL n (by omega)),ap ts σ l L n (by omega) (fun i hi=>hL i (by omega)),aVd hlt,List.take_succ_eq_append_getElem hlt,wI]
  simp only[fF]
  rw[lG]
theorem aq: ∀(ts:List mD) (σ:St),kB ts σ→ ∀(i:Nat) t,ts[i]? =some t→bL t.1 (fF (ts.take i) σ)
 |t::ts,σ,h,i,u,hu=>by
  cases i with
  |zero=>simp at hu;subst hu;exact h.1
  |succ i=>simp only[List.take_succ_cons,fF];exact aq ts _ h.2 i u (by simpa using hu)
def aMb:dF→Nat
 | .t s=>2*s
 | .o n=>2*n+1
def iU (x:Nat):List Nat→Bool
 | []=>false
 |y::r=>Nat.beq x y||iU x r
def oV:List Nat→List Nat→Bool
 | [],_=>true
 |x::r,ys=> !iU x ys&&oV r ys
theorem gS {x:Nat}: ∀{ys:List Nat},iU x ys=true↔x∈ys
 | []=>by simp[iU]
 |y::r=>by simp[iU,gS (ys:=r),Nat.beq_eq_true_eq]
theorem sM: ∀{xs ys:List Nat},oV xs ys=true→ ∀x∈xs,x∉ys
 | [],_,_,x,hx=>by simp at hx
 |z::r,ys,h,x,hx=>by
  simp only[oV,aU7,Bool.not_eq_true'] at h
  rcases aVm.1 hx with rfl|hx
  · intro hm;rw[gS.2 hm] at h;cases h.1
  · exact sM h.2 x hx
def kK (o:Oper):List Nat:=(o.after.toList.filter (Region.binds .any)).map (·.on)
def mF:List Oper→List (List Nat)→List (List Nat)
 | [],acc=>acc
 |o::os,acc=>mF os (acc++[(kK o).flatMap fun i=>i::acc.getD i []])
abbrev eg:=List Nat×List Nat
def pF (t:mD):eg:=(t.1.map fun p=>aMb p.1,t.2.map fun p=>aMb p.1)
def oW (x y:eg):Bool:=oV x.2 y.2&&oV x.2 y.1&&oV x.1 y.2
def yA (ns:List eg) (pl:List (List Nat)):Nat→Bool
 |0=>true
 |k+1=>(match ns[k]?,pl[k]? with
  |some y,some pk=>(aVh k).all fun i=>iU i pk||(match ns[i]? with|some x=>oW x y|none=>true)
  |_,_=>true)&&yA ns pl k
def rY:Nat→List Oper→Bool
 |_,[]=>true
 |k,o::os=>(kK o).all (fun i=>decide (i<k))&&rY (k+1) os
def pN (l:List Oper) (ts:List mD):Bool:=rY 0 l&&yA (ts.map pF) (mF l []) ts.length
theorem pO: ∀(k:Nat) (l:List Oper),rY k l=true→ ∀(j:Nat) o,l[j]? =some o→ ∀i∈kK o,i<k+j
 |k,[],h,j,o',ho,i,hi=>by simp at ho
 |k,o::os,h,j,o',ho,i,hi=>by
  simp only[rY,aU7,aVi,decide_eq_true_eq] at h
  cases j with
  |zero=>simp at ho;subst ho;exact h.1 i hi
  |succ j=>have:=pO (k+1) os h.2 j o' (by simpa using ho) i hi;omega
theorem yB: ∀(l:List Oper) (acc:List (List Nat)) (i:Nat),i<acc.length→(mF l acc)[i]? =acc[i]?
 | [],acc,i,h=>rfl
 |o::os,acc,i,h=>by
  rw[mF,yB os _ i (by simp;omega),List.getElem?_append_left h]
theorem ik: ∀(l:List Oper) (acc:List (List Nat)) (j:Nat) o,l[j]? =some o→(rY acc.length l=true)→
 (mF l acc)[acc.length+j]? =some ((kK o).flatMap fun i=>i::(mF l acc).getD i [])
 | [],acc,j,o',ho,he=>by simp at ho
 |o::os,acc,j,o',ho,he=>by
  have hb:=pO _ _ he
  simp only[rY,aU7] at he
  rw[mF]
  cases j with
  |zero=>
   simp at ho;subst ho
   rw[yB os _ _ (by simp),Nat.add_zero,List.getElem?_append_right (aVf _)]
   simp only[Nat.sub_self,List.getElem?_cons_zero,Option.some.injEq]
   have hp: ∀i∈kK o,acc.getD i []=(mF os (acc++[(kK o).flatMap fun i=>i::acc.getD i []])).getD i []:=by
    intro i hi
    have hlt:=hb 0 o (by simp) i hi
    rw[aVb,aVb,yB os _ i (by simp;omega),List.getElem?_append_left (by omega)]
   have: ∀(l:List Nat),(∀i∈l,i∈kK o)→(l.flatMap fun i=>i::acc.getD i [])=l.flatMap fun i=>i::(mF os (acc++[(kK o).flatMap fun i=>i::acc.getD i []])).getD i []:=by
    intro l
    induction l with
    |nil=>intro _;rfl
    |cons x l ih=>
     intro h
     rw[List.flatMap_cons,List.flatMap_cons,ih (fun i hi=>h i (List.mem_cons_of_mem _ hi)),hp x (h x (List.mem_cons_self ..))]
   exact this _ (fun i hi=>hi)
  |succ j=>
   have:=ik os (acc++[(kK o).flatMap fun i=>i::acc.getD i []]) j o' (by simpa using ho) (by simpa using he.2)
   simp only[aU5,aU9,aU8,Nat.zero_add] at this
   rw[show acc.length+(j+1)=acc.length+1+j by omega]
   exact this
theorem pP {ns:List eg} {pl:List (List Nat)}: ∀{n:Nat},yA ns pl n=true→ ∀k i,k<n→i<k→ ∀x y pk,ns[i]? =some x→ns[k]? =some y→pl[k]? =some pk→i∈pk∨oW x y=true
 |n+1,h,k,i,hk,hi,x,y,pk,hx,hy,hp=>by
  simp only[yA,aU7] at h
  by_cases e:k=n
  · subst e
    have h1:=h.1
    rw[hy,hp] at h1
    have h2:=aVi.1 h1 i (List.mem_range.2 hi)
    rw[hx] at h2
    simp only[Bool.or_eq_true] at h2
    exact h2.imp gS.1 id
  · exact pP h.2 k i (by omega) hi x y pk hx hy hp
set_option linter.unusedSimpArgs false
theorem mP (ts:List mD) (L:Nat→Bool) (σ:St) (l:dF) (n:Nat):part ts L σ l (n+1)=if L n=true then(match ts[n]? with
 |some t=>(match wr t.2 l with|some k=>some k|none=>part ts L σ l n)
 |none=>part ts L σ l n) else part ts L σ l n:=rfl
theorem rv {ts:List mD} {σ:St} {l:dF} {L L':Nat→Bool} {i:Nat} {t:mD} (hi:ts[i]? =some t) (hLi:L i=false) (hL': ∀j,L' j=if j=i then true else L j)
 (hlater: ∀j u,i<j→L j=true→ts[j]? =some u→wr t.2 l≠none→wr u.2 l=none):
 ∀n,part ts L' σ l n=if i<n then(match wr t.2 l with|some k=>some k|none=>part ts L σ l n) else part ts L σ l n
 |0=>by simp[part]
 |n+1=>by
  have ih:=rv (σ:=σ) hi hLi hL' hlater n
  simp only[part]
  by_cases e:n=i
  · subst e
    have h1:L' n=true:=by rw[hL' n,if_pos rfl]
    simp only[h1,hLi,if_true,hi,ih,Nat.lt_irrefl,if_false,Nat.lt_succ_self,Bool.false_eq_true]
    all_goals(cases wr t.2 l<;>rfl)
  · have h1:L' n=L n:=by rw[hL' n,if_neg e]
    rw[h1,ih]
    by_cases hlt:i<n
    · have h2:i<n+1:=by omega
      simp only[hlt,h2,if_true]
      cases hn:L n with
      |false=>simp
      |true=>
       simp only[if_true]
       cases hu:ts[n]? with
       |none=>cases wr t.2 l<;>rfl
       |some u=>
        cases hw:wr t.2 l with
        |none=>rfl
        |some k=>simp[hlater n u hlt hn hu (by rw[hw];simp)]
    · have h2: ¬i<n+1:=by omega
      simp only[hlt,h2,if_false]
theorem fo {ts:List mD} {σ:St} {l:dF} {L:Nat→Bool} {i:Nat} (hLi:L i=false) (hbefore: ∀j u,j<i→L j=false→ts[j]? =some u→wr u.2 l=none)
 (hafter: ∀j u,i<j→L j=true→ts[j]? =some u→wr u.2 l=none): ∀n,part ts L σ l n=part ts (fun _=>true) σ l (min n i)
 |0=>by simp[part]
 |n+1=>by
  have ih:=fo (σ:=σ) hLi hbefore hafter n
  by_cases hlt:n<i
  · rw[show min (n+1) i=n+1 by omega]
    rw[mP,mP]
    rw[ih,show min n i=n by omega]
    simp only[if_true]
    by_cases hn:L n=true
    · rw[if_pos hn]
    · rw[if_neg hn]
      cases hu:ts[n]? with
      |none=>rfl
      |some u=>simp[hbefore n u hlt (by simpa using hn) hu]
  · rw[show min (n+1) i=min n i by omega]
    rw[mP]
    by_cases hn:L n=true
    · rw[if_pos hn]
      have hne:n≠i:=fun e=>by rw[e,hLi] at hn;cases hn
      cases hu:ts[n]? with
      |none=>exact ih
      |some u=>simp[hafter n u (by omega) hn hu];exact ih
    · rw[if_neg hn];exact ih
theorem aC9 {t u:mD} (h:oV (pF t).2 (pF u).2=true) {l:dF} (hw:wr t.2 l≠none):wr u.2 l=none:=by
 apply xZ
 intro hm
 have h1:l∈t.2.map (·.1):=Decidable.byContradiction fun hc=>hw (xZ hc)
 have:=sM h (aMb l) (by simp[pF];obtain⟨p,hp,rfl⟩:=aVj.1 h1;exact⟨p.1,⟨p.2,hp⟩,rfl⟩)
 exact this (by simp[pF];obtain⟨p,hp,rfl⟩:=aVj.1 hm;exact⟨p.1,⟨p.2,hp⟩,rfl⟩)
theorem aDa {t u:mD} (h:oV (pF t).1 (pF u).2=true) {p:dF×Option K} (hp:p∈t.1):wr u.2 p.1=none:=by
 apply xZ
 intro hm
 have:=sM h (aMb p.1) (by simp[pF];exact⟨p.1,⟨p.2,hp⟩,rfl⟩)
 exact this (by simp[pF];obtain⟨q,hq,he⟩:=aVj.1 hm;exact⟨p.1,⟨q.2,by rw[← he];exact hq⟩,rfl⟩)
theorem aDb {t u:mD} (h:oV (pF t).2 (pF u).1=true) {p:dF×Option K} (hp:p∈u.1):wr t.2 p.1=none:=by
 apply xZ
 intro hm
 obtain⟨q,hq,he⟩:=aVj.1 hm
 have:=sM h (aMb p.1) (by simp[pF];exact⟨p.1,⟨q.2,by rw[← he];exact hq⟩,rfl⟩)
 exact this (by simp[pF];exact⟨p.1,⟨p.2,hp⟩,rfl⟩)
theorem oN {listed:Array Bool} {j:Nat}:listed.getD j true=false↔j<listed.size∧listed.getD j false=false:=by
 rw[Array.getD_eq_getD_getElem?,Array.getD_eq_getD_getElem?]
 rcases Nat.lt_or_ge j listed.size with h|h
 · simp[h]
 · simp[Array.getElem?_eq_none h];omega
theorem oh {N i:Nat} {L L':Nat→Bool} (hi:i<N) (hLi:L i=false) (hL': ∀j,L' j=if j=i then true else L j): ((aVh N).filter fun j=> !L' j).length< ((aVh N).filter fun j=> !L j).length:=by
 induction N with
 |zero=>omega
 |succ N ih=>
  rw[List.range_succ,List.filter_append,List.filter_append,aU5,aU5]
  by_cases e:i=N
  · subst e
    have: ((aVh i).filter fun j=> !L' j).length=((aVh i).filter fun j=> !L j).length:=by
     congr 1
     apply List.filter_congr
     intro j hj
     rw[hL' j,if_neg (by have:=List.mem_range.1 hj;omega)]
    have h1:L' i=true:=by rw[hL' i,if_pos rfl]
    rw[this]
    simp[hLi,h1]
  · have:=ih (by omega)
    have h2: ([N].filter fun j=> !L' j).length=([N].filter fun j=> !L j).length:=by
     simp[List.filter_cons,hL' N,show ¬N=i by omega]
    omega
section
variable {P:Program} {ops:Array Oper} {cx:Cx P} {Q:Exit→Act→World→Prop} {ts:List mD} {σ:St}
theorem cy (hlen:ts.length=ops.size) (hit: ∀(i:Nat) o t,ops[i]? =some o→ts[i]? =some t→ItT P ops o t) (hr:kB ts σ) (hok:pN ops.toList ts=true) (hf: ∀o∈ops.toList,∀d,o.dst=some d→d<cx.N)
 (hq: ∀ι' S' a' w',RW cx (fF ts σ) ι' S' a' w'→Q .normal a' w'):
 ∀(fuel:Nat) (listed:Array Bool) (σL:St) (ι:Nat→Value) (S:Nat→Prop) (a:Act) (w:World),listed.size=ops.size→(∀l,aU σL l=part ts (fun i=>listed.getD i false) σ l ts.length)→RW cx σL ι S a w→
  (∀k o,ops[k]? =some o→listed.getD k false=true→ ∀i∈kK o,listed.getD i false=true)→((aVh ops.size).filter fun i=> !listed.getD i false).length≤fuel→wpAny P .any ops Q fuel listed a w:=by
 simp only[pN,aU7] at hok
 obtain⟨hedge,hpair⟩:=hok
 have hedge': ∀(j:Nat) o,ops[j]? =some o→ ∀i∈kK o,i<j:=fun j o ho i hi=>by
  have:=pO 0 ops.toList hedge j o (by simpa using ho) i hi;omega
 have hpl: ∀(j:Nat) o,ops[j]? =some o→(mF ops.toList [])[j]? =some ((kK o).flatMap fun i=>i::(mF ops.toList []).getD i []):=fun j o ho=>by
  have:=ik ops.toList [] j o (by simpa using ho) hedge
  simpa using this
 have main: ∀(fuel:Nat) (listed:Array Bool) (σL:St) (ι:Nat→Value) (S:Nat→Prop) (a:Act) (w:World),listed.size=ops.size→(∀l,aU σL l=part ts (fun i=>listed.getD i false) σ l ts.length)→RW cx σL ι S a w→
  (∀k o,ops[k]? =some o→listed.getD k false=true→ ∀i∈kK o,listed.getD i false=true)→
  (Region.ready .any ops listed=[]→Q .normal a w)∧ ∀i∈Region.ready .any ops listed,∃o t,ops[i]? =some o∧ts[i]? =some t∧i<ops.size∧listed.getD i false=false∧bL t.1 σL∧
   (∀k o,ops[k]? =some o→(listed.setIfInBounds i true).getD k false=true→ ∀i'∈kK o,(listed.setIfInBounds i true).getD i' false=true)∧(∀j,(listed.setIfInBounds i true).getD j false=if j=i then true else listed.getD j false)∧
   ∀l,aU (iL σL t.2) l=part ts (fun j=>(listed.setIfInBounds i true).getD j false) σ l ts.length:=by
  intro fuel listed σL ι S a w hsz hlook hw hcl
  have hclosed: ∀(k:Nat),∀o,ops[k]? =some o→(∀i∈kK o,listed.getD i false=true)→ ∀i∈(mF ops.toList []).getD k [],listed.getD i false=true:=by
   intro k
   induction k using Nat.strongRecOn with
   |_ k ih=>
    intro o ho hp i hi
    rw[aVb,hpl k o ho] at hi
    simp only[Option.getD_some,List.mem_flatMap] at hi
    obtain⟨i',hi',hi⟩:=hi
    rcases aVm.1 hi with rfl|hi
    · exact hp i hi'
    · have hlt:=hedge' k o ho i' hi'
      have hsz':k<ops.size:=(Array.getElem?_eq_some_iff.1 ho).1
      have ho':ops[i']? =some ops[i']:=Array.getElem?_eq_getElem (by omega)
      exact ih i' hlt _ ho' (hcl i' _ ho' (hp i' hi')) i hi
  refine⟨fun hnil=> ?_,fun i hi=> ?_⟩
  · have hall: ∀k,k<ops.size→listed.getD k false=true:=by
     intro k
     induction k using Nat.strongRecOn with
     |_ k ih=>
      intro hk
      cases hL:listed.getD k false with
      |true=>rfl
      |false=>
       have ho:ops[k]? =some ops[k]:=Array.getElem?_eq_getElem hk
       have:k∈Region.ready .any ops listed:=mem_ready.2 ⟨oN.2 ⟨by omega,hL⟩,_,ho,fun e he hb=>by
        have hm:e.on∈kK ops[k]:=aVj.2 ⟨e,List.mem_filter.2 ⟨by simpa using he,hb⟩,rfl⟩
        have:=hedge' k _ ho _ hm
        exact ih e.on this (by omega)⟩
       rw[hnil] at this;cases this
    refine hq ι S a w (hw.congr fun l=> ?_)
    rw[hlook l,ap ts σ l _ ts.length (aVf _) (fun i hi=>hall i (by omega)),aVl]
  · obtain⟨hun,o,ho,hall⟩:=mem_ready.1 hi
    obtain⟨hisz,hLi⟩:=oN.1 hun
    have hit':i<ts.length:=by omega
    have hti:ts[i]? =some ts[i]:=aVd hit'
    have hpreds: ∀i'∈kK o,listed.getD i' false=true:=by
     intro i' hi'
     obtain⟨e,he,rfl⟩:=aVj.1 hi'
     obtain⟨he1,he2⟩:=List.mem_filter.1 he
     exact hall e (by simpa using he1) he2
    have hset: ∀j,(listed.setIfInBounds i true).getD j false=if j=i then true else listed.getD j false:=by
     intro j
     rw[Array.getD_eq_getD_getElem?,Array.getD_eq_getD_getElem?]
     by_cases e:j=i
     · subst e;simp[hisz]
     · rw[if_neg e,Array.getElem?_setIfInBounds_ne (fun h=>e h.symm)]
    have later: ∀j u,i<j→listed.getD j false=true→ts[j]? =some u→oW (pF ts[i]) (pF u)=true:=by
     intro j u hij hLj hu
     have hjl:j<ts.length:=(aVe.1 hu).1
     have hoj:ops[j]? =some ops[j]:=Array.getElem?_eq_getElem (by omega)
     rcases pP hpair j i hjl hij (pF ts[i]) (pF u) _ (by simp[hti]) (by simp[hu]) (hpl j _ hoj) with h|h
     · have:=hclosed j _ hoj (hcl j _ hoj hLj) i (by rw[aVb,hpl j _ hoj];exact h)
       rw[hLi] at this;cases this
     · exact h
    have earlier: ∀j u,j<i→listed.getD j false=false→ts[j]? =some u→oW (pF u) (pF ts[i])=true:=by
     intro j u hij hLj hu
     rcases pP hpair i j hit' hij (pF u) (pF ts[i]) _ (by simp[hu]) (by simp[hti]) (hpl i _ ho) with h|h
     · have:=hclosed i _ ho hpreds j (by rw[aVb,hpl i _ ho];exact h)
       rw[hLj] at this;cases this
     · exact h
    have hreads:bL ts[i].1 σL:=by
     intro p hp
     rw[hlook p.1,fo hLi (fun j u hj hLj hu=>by
      have:=earlier j u hj hLj hu
      simp only[oW,aU7] at this
      exact aDb this.1.2 hp) (fun j u hj hLj hu=>by
      have:=later j u hj hLj hu
      simp only[oW,aU7] at this
      exact aDa this.2 hp),show min ts.length i=i by omega,ap ts σ p.1 _ i (by omega) (fun _ _=>rfl)]
     exact aq ts σ hr i _ hti p hp
    refine⟨o,ts[i],ho,hti,by omega,hLi,hreads,fun k o' ho' hk i' hi'=> ?_,hset,fun l=> ?_⟩
    · rw[hset] at hk ⊢
      by_cases e:i'=i
      · rw[if_pos e]
      · rw[if_neg e]
        by_cases e2:k=i
        · subst e2;rw[ho] at ho';cases ho';exact hpreds i' hi'
        · rw[if_neg e2] at hk;exact hcl k o' ho' hk i' hi'
    · rw[lG,rv hti hLi hset (fun j u hj hLj hu hne=>by
       have:=later j u hj hLj hu
       simp only[oW,aU7] at this
       exact aC9 this.1.1 hne) ts.length,if_pos hit',hlook l]
      all_goals(cases wr ts[i].2 l<;>rfl)
 intro fuel
 induction fuel with
 |zero=>
  intro listed σL ι S a w hsz hlook hw hcl hcount
  obtain⟨h1,h2⟩:=main 0 listed σL ι S a w hsz hlook hw hcl
  have hnil:Region.ready .any ops listed=[]:=by
   apply List.eq_nil_iff_forall_not_mem.2
   intro i hi
   obtain⟨o,t,ho,ht,hlt,hLi,_⟩:=h2 i hi
   have:i∈(aVh ops.size).filter fun i=> !listed.getD i false:=List.mem_filter.2 ⟨List.mem_range.2 hlt,by rw[hLi];rfl⟩
   rw[List.eq_nil_of_length_eq_zero (by omega: ((aVh ops.size).filter fun i=> !listed.getD i false).length=0)] at this
   cases this
  exact⟨hnil,h1 hnil⟩
 |succ fuel ih=>
  intro listed σL ι S a w hsz hlook hw hcl hcount
  obtain⟨h1,h2⟩:=main 0 listed σL ι S a w hsz hlook hw hcl
  refine⟨h1,fun i hi=> ?_⟩
  obtain⟨o,t,ho,ht,hlt,hLi,hreads,hcl',hset,hlook'⟩:=h2 i hi
  unfold wpOp
  rw[ho]
  refine hit i o t ho ht cx σL ι S a w hreads hw (hf o (by have:=Array.mem_of_getElem? ho;simpa using this)) _ Q fun ι' S' a' w' hw'=> ?_
  exact ih (listed.setIfInBounds i true) (iL σL t.2) ι' S' a' w' (by simpa using hsz) hlook' hw' hcl' (by
   have:=oh (N:=ops.size) (L:=fun j=>listed.getD j false) (L':=fun j=>(listed.setIfInBounds i true).getD j false) hlt hLi hset
   omega)
end
set_option linter.unusedSimpArgs false
def evI (σ:St):Option Operand→Option (Option Int×List (dF×Option K))
 |none=>some (none,[])
 |some x=>match ev σ x with
  |some (.e (.c (.d (.i n))),R)=>some (some n,R)
  |_=>none
theorem uD {σ:St} {x:Option Operand} {n:Option Int} {R:List (dF×Option K)} (h:evI σ x=some (n,R)):bL R σ:=by
 cases x with
 |none=>cases h;exact bL.nil
 |some x=>
  simp only[evI] at h
  split at h<;>try(cases h;done)
  rename_i m R' hx
  cases h
  exact cZ hx
theorem uE {σ0:St} {x:Option Operand} {n:Option Int} {R:List (dF×Option K)} (h:evI σ0 x=some (n,R)) {P:Program} {cx:Cx P} {σ:St} {ι:Nat→Value} {S:Nat→Prop} {a:Act} {w:World} (hr:bL R σ) (hw:RW cx σ ι S a w):
 x.map a.eval=n.map fun n=> .int .i64 n:=by
 cases x with
 |none=>cases h;rfl
 |some x=>
  simp only[evI] at h
  split at h<;>try(cases h;done)
  rename_i m R' hx
  cases h
  have:=dG hx hr hw
  simp only[lR,ER,CR] at this
  cases hv:a.eval x<;>rw[hv] at this<;>cases this
  simp[hv]
def fD (lo:Option Int):Nat:=(lo.getD 0).toNat
def gF (hi:Option Int) (len:Nat):Nat:=(hi.getD len).toNat
def yz (lo hi:Option Int) (len:Nat):Prop:=0≤lo.getD 0∧lo.getD 0≤hi.getD len∧hi.getD len≤len
theorem yC {P:Program} {w:World} {isSl:Bool} {len cap:Nat} {lo hi:Option Int} (hlc:len≤cap) (h:yz lo hi len):
 (Instr.sliceBounds isSl len cap (lo.map fun n=> .int .i64 n) (hi.map fun n=> .int .i64 n) none).run P w= .ok (fD lo,gF hi len,cap) w:=by
 obtain⟨h1,h2,h3⟩:=h
 cases lo with
 |none=>
  cases hi with
  |none=>simp[Instr.sliceBounds,fD,gF]
  |some n=>
   simp only[Option.getD_some,Option.getD_none] at h1 h2 h3
   simp only[Instr.sliceBounds,Option.map_none,Option.map_some,Sem.run_bind,Sem.run_pure,Result.andThen_ok,fD,gF,Option.getD_none,Option.getD_some]
   rw[run_sliceBound w .i64 n cap _ (by omega) (by omega)]
   simp
 |some m=>
  cases hi with
  |none=>
   simp only[Option.getD_some,Option.getD_none] at h1 h2 h3
   simp only[Instr.sliceBounds,Option.map_none,Option.map_some,Sem.run_bind,Sem.run_pure,Result.andThen_ok,fD,gF,Option.getD_none,Option.getD_some]
   rw[run_sliceBound w .i64 m len _ h1 h2]
   simp
  |some n=>
   simp only[Option.getD_some] at h1 h2 h3
   simp only[Instr.sliceBounds,Option.map_some,Sem.run_bind,Sem.run_pure,Result.andThen_ok,fD,gF,Option.getD_some]
   rw[run_sliceBound w .i64 n cap _ (by omega) (by omega)]
   simp only[Result.andThen_ok]
   rw[run_sliceBound w .i64 m n.toNat _ h1 (by omega)]
   simp
def aF8 (T:gQ) (σ:St) (t:TypeId) (x:Operand) (lo hi mx:Option Operand) (d:Option Tmp):xg:=
 match ev σ x,evI σ lo,evI σ hi,T t,mx,d with
 |some (.e (.c (.d (.s l))),R),some (lo,R1),some (hi,R2),some ⟨.str,_,_,_⟩,none,some d=>some (yz lo hi l.length,R++R1++R2,[(.t d,.v (Dv (.s ((l.take (gF hi l.length)).drop (fD lo)))))])
 |some (.e (.c (.d (.sl rows))),R),some (lo,R1),some (hi,R2),some ⟨.sl e,_,_,_⟩,none,some d=>match T e with
  |some ti=>some (yz lo hi rows.length∧(∀r∈rows,r.length=ti.size),R++R1++R2,[(.t d,.v (Dv (.sl ((rows.take (gF hi rows.length)).drop (fD lo)))))])
  |none=>none
 |_,_,_,_,_,_=>none
theorem aF9 {P:Program} {T:gQ} (hT:dR P T) {o:Oper} {σ0:St} {t:TypeId} {x:Operand} {lo hi mx:Option Operand} (ho:o.op= .slice t x lo hi mx):lS P o σ0 (aF8 T σ0 t x lo hi mx o.dst):=by
 intro p R W h hp
 unfold aF8 at h
 split at h
 · rename_i l Rx lo' R1 hi' R2 _ _ _ d hx hlo hhi ht hd
   cases h
   have hu:=(hT t _ ht).kind
   simp only[lU] at hu
   refine⟨nS hd fun cx σ ι S a w hr hw=> ?_,((cZ hx).append (uD hlo)).append (uD hhi)⟩
   have hX:=dG hx hr.left.left hw
   have h1:=uE hlo hr.left.right hw
   have h2:=uE hhi hr.right hw
   simp only[lR,ER,CR] at hX
   cases hv:a.eval x<;>rw[hv] at hX<;>cases hX
   have hb:=yC (P:=P) (w:=w) (isSl:=false) (len:=l.length) (cap:=l.length) (aVf _) hp
   refine⟨.string ⟨((l.take (gF hi' l.length)).drop (fD lo')).toArray⟩,?_,.s _⟩
   have hex: (⟨l.toArray⟩:ByteArray).extract (fD lo') (gF hi' l.length)=⟨((l.take (gF hi' l.length)).drop (fD lo')).toArray⟩:=by
    apply ByteArray.ext
    simp
    rw[List.drop_take]
   simp[execOp,ho,hv,Instr.sliceAt,run_underlying hu,Instr.slice,h1,h2,xU,hb,hex]
 · rename_i rows Rx lo' R1 hi' R2 e _ _ _ d hx hlo hhi ht hd
   split at h<;>try(cases h;done)
   rename_i ti hte
   cases h
   have hu:=(hT t _ ht).kind
   simp only[lU] at hu
   have hok:=hT e ti hte
   obtain⟨hp,hes⟩:=hp
   refine⟨nS hd fun cx σ ι S a w hr hw=> ?_,((cZ hx).append (uD hlo)).append (uD hhi)⟩
   have hX:=dG hx hr.left.left hw
   have h1:=uE hlo hr.left.right hw
   have h2:=uE hhi hr.right hw
   obtain⟨a0,cap,es,ad,u,hv,hc,hm,he,ha,hw1,hd1⟩:=(show DR w S (.sl rows) (a.eval x) from hX).sl_inv
   have hb:=yC (P:=P) (w:=w) (isSl:=true) (len:=rows.length) (cap:=cap) hc hp
   have hlen: ((rows.take (gF hi' rows.length)).drop (fD lo')).length=gF hi' rows.length - fD lo':=by
    obtain⟨q1,q2,q3⟩:=hp
    have:gF hi' rows.length≤rows.length:=by unfold gF;omega
    simp;omega
   refine⟨.slice (if cap=fD lo' then a0 else a0.map (·.add (fD lo'*ti.size))) (gF hi' rows.length - fD lo') (cap - fD lo'),?_,?_⟩
   · simp[execOp,ho,hv,Instr.sliceAt,run_underlying hu,Instr.slice,h1,h2,hb,fO hok]
   · have hcap:fD lo'≤cap:=by obtain⟨q1,q2,q3⟩:=hp;unfold fD;omega
     have hle:gF hi' rows.length≤cap:=by obtain⟨q1,q2,q3⟩:=hp;unfold gF;omega
     have goal:DR w S (.sl ((rows.take (gF hi' rows.length)).drop (fD lo'))) (.slice (if cap=fD lo' then a0 else a0.map (·.add (fD lo'*ti.size))) ((rows.take (gF hi' rows.length)).drop (fD lo')).length (cap - fD lo')):=by
      have hget: ∀(i:Nat) r,((rows.take (gF hi' rows.length)).drop (fD lo'))[i]? =some r→rows[fD lo'+i]? =some r:=by
       intro i r hr
       rw[List.getElem?_drop,List.getElem?_take] at hr
       split at hr
       · exact hr
       · cases hr
      refine .sl _ _ _ ti.size (ad.add (fD lo'*ti.size)) (fun i k=>u (fD lo'+i) k) (by rw[hlen];omega) (by omega) (fun r hr=>hes r (List.mem_of_mem_take (List.mem_of_mem_drop hr))) (fun hne=> ?_) (fun i r k d hr hk=> ?_) (fun i r k d hr hk=>hd1 _ r k d (hget i r hr) hk)
      · have hlt:0< ((rows.take (gF hi' rows.length)).drop (fD lo')).length:=List.length_pos_iff.2 hne
        rw[hlen] at hlt
        rw[if_neg (by omega),ha (fun e=>by rw[e] at hlt;simp[gF] at hlt;obtain⟨q1,q2,q3⟩:=hp;rw[e] at q3;simp at q3;unfold fD at hlt;omega)]
        rfl
      · have hr2:=hget i r hr
        obtain⟨q1,q2⟩:=hw1 _ r k d hr2 hk
        have hee:es=ti.size:=by rw[← he r (List.mem_of_getElem? hr2)];exact hes r (List.mem_of_getElem? hr2)
        refine⟨by rw[lu];exact q1,?_⟩
        rw[add_add,show fD lo'*ti.size+(i*ti.size+k)=(fD lo'+i)*es+k by rw[hee,aVo];omega]
        exact q2
     rw[hlen] at goal
     exact goal
 · cases h
def aRk:V→V→Option (Prop×List (dF×Option K)×V)
 | .e (.c (.d (.i m))),.e (.c (.d (.i n)))=>some (True,[],I (if n<m then n else m))
 |_,_=>none
def aRl:V→V→Option (Prop×List (dF×Option K)×V)
 | .e (.c (.d (.i m))),.e (.c (.d (.i n)))=>some (True,[],I (if n>m then n else m))
 |_,_=>none
theorem aMc {P:Program} {o:Oper} {σ:St} {x y:Operand} {ts:Array TypeId} (ho:o.op= .call {callee:= .builtin .min,args:= #[x,y],argTypes:=ts}):lS P o σ (qW σ x y o.dst aRk):=
 rA fun X Y p R Z h hp=>by
  unfold aRk at h
  split at h<;>try(cases h;done)
  cases h
  refine⟨bL.nil,fun cx σ ι S a w _ _ hx hy=> ?_⟩
  simp only[lR,ER,CR] at hx hy
  cases hv:a.eval x<;>rw[hv] at hx<;>cases hx
  cases hv2:a.eval y<;>rw[hv2] at hy<;>cases hy
  exact⟨_,by simp[execOp,ho,resolve,invoke,builtin,hv,hv2,Builtin.min_,Builtin.min2]<;>rfl,.i _⟩
theorem aMd {P:Program} {o:Oper} {σ:St} {x y:Operand} {ts:Array TypeId} (ho:o.op= .call {callee:= .builtin .max,args:= #[x,y],argTypes:=ts}):lS P o σ (qW σ x y o.dst aRl):=
 rA fun X Y p R Z h hp=>by
  unfold aRl at h
  split at h<;>try(cases h;done)
  cases h
  refine⟨bL.nil,fun cx σ ι S a w _ _ hx hy=> ?_⟩
  simp only[lR,ER,CR] at hx hy
  cases hv:a.eval x<;>rw[hv] at hx<;>cases hx
  cases hv2:a.eval y<;>rw[hv2] at hy<;>cases hy
  exact⟨_,by simp[execOp,ho,resolve,invoke,builtin,hv,hv2,Builtin.max_,Builtin.max2]<;>rfl,.i _⟩
def aMe (T:gQ) (σ:St) (t:TypeId) (x y:Operand) (d:Option Tmp):xg:=
 match ev σ x,ev σ y,T t,d with
 |some (.e (.c (.d (.i n))),R),some (.e (.c (.d (.i m))),R2),some ⟨.sl e,_,_,_⟩,some d=>match T e with
  |some ti=>match lv ti.zero with
   |some z=>if wH σ (.o (jB σ d)) then some (n=m∧0≤n∧ti.bytes*n≤281474976710656,R++R2++[(.o (jB σ d),none)],[(.o (jB σ d),.row e ti.size (List.replicate n.toNat z)),(.t d,.v (.e (.c (.own (jB σ d) n.toNat))))]) else none
   |none=>none
  |none=>none
 |_,_,_,_=>none
theorem aJy {P:Program} {T:gQ} (hT:dR P T) {o:Oper} {σ0:St} {t:TypeId} {x y:Operand} (ho:o.op= .makeSlice t x y):lS P o σ0 (aMe T σ0 t x y o.dst):=by
 intro p R W h hp
 unfold aMe at h
 split at h<;>try(cases h;done)
 rename_i n Rx m Ry e _ _ _ d hx hy ht hd
 split at h<;>try(cases h;done)
 rename_i ti hte
 split at h<;>try(cases h;done)
 rename_i z hz
 split at h<;>try(cases h;done)
 rename_i habs
 cases h
 obtain⟨rfl,h0,hbytes⟩:=hp
 have hu:=(hT t _ ht).kind
 simp only[lU] at hu
 have hok:=hT e ti hte
 refine⟨ie hd (by simp) fun cx σ ι S a w hr hw=> ?_,((cZ hx).append (cZ hy)).append (bL.one (pD habs))⟩
 have hno:=hr.right (.o (jB σ0 d),none) (by simp)
 dsimp only at hno
 have hX:=dG hx hr.left.left hw
 have hY:=dG hy hr.left.right hw
 simp only[lR,ER,CR] at hX hY
 cases hv:a.eval x<;>rw[hv] at hX<;>cases hX
 cases hv2:a.eval y<;>rw[hv2] at hY<;>cases hY
 obtain⟨i,zz,hi,hsz,hby,hzero,hzc⟩:=hok.info
 have hb1:n≤ti.bytes*n:=by
  have h1: (1:Int)≤ti.bytes:=by have:=hok.bpos;omega
  have:=Int.mul_le_mul_of_nonneg_right h1 h0
  simpa using this
 have hrun:=run_make (P:=P) w t e i zz hu hi hzero .i64 .i64 n n h0 (Int.le_refl _) (by rw[hby];exact hbytes) (by omega)
 rw[hsz] at hrun
 have hzl:zz.cells.size=ti.size:=by rw[← Array.length_toList,hzc,List.length_map,hok.zlen]
 obtain⟨htt,st⟩:=xV (ν:=iJ a) (w:=w) (w0:=w) (σ:=σ) (ι:=ι) (S:=S) (id:=jB σ0 d) (k:= .row e ti.size (List.replicate n.toNat z)) (p:= .slice (some ⟨w.heap.size,0,none⟩) n.toNat n.toNat) (o:= .cells (madeCells zz.cells (n.toNat*ti.size)) e) ⟨rfl,rfl,rfl,rfl⟩ hno
  (fun b hb=>by simp[xT] at hb;exact hb.symm)
  (fun st=> .inr ⟨w.heap.size,0,n.toNat,_,(0,0),by simp,heap_alloc_new w _,.inl rfl,by simp,by simp only[maxLen];omega,by rw[size_madeCells];omega,fun i r hri=>by
   have hil:i<n.toNat:=by have:=(aVe.1 hri).1;simpa using this
   have hr:r=z:=by simp[hil] at hri;exact hri.symm
   subst hr
   have hrl:=pE hz
   refine⟨by rw[hrl,hok.zlen],fun k d hk=> ?_⟩
   obtain⟨c,hc,htd⟩:=xC hz k d hk
   have hkl:k<ti.size:=by rw[← hok.zlen];exact(aVe.1 hc).1
   have hlt:=lA hil hkl
   have hzk:zz.cells[k]? =some (zv c):=by rw[← Array.getElem?_toList,hzc,List.getElem?_map,hc];rfl
   refine⟨zv c,?_,xB (σ:=σ) (ι:=ι) htd (tK (aVi.1 hok.zok c (List.mem_of_getElem? hc)))⟩
   have hm: (0+i*ti.size+k) % zz.cells.size=k:=by rw[hzl,Nat.zero_add,Nat.mul_comm,Nat.mul_add_mod,Nat.mod_eq_of_lt hkl]
   have hk2:k<zz.cells.size:=by rw[hzl];exact hkl
   have e1:zz.cells[k]! =zv c:=by rw[getElem!_pos zz.cells k hk2];rw[Array.getElem?_eq_getElem hk2] at hzk;exact Option.some.inj hzk
   have hlt':0+i*ti.size+k<n.toNat*ti.size:=by omega
   simp only[madeCells,Array.getElem?_map,Array.getElem?_range,hlt',if_true,Option.map_some,hm,e1]⟩) hw.vr.sz
 refine⟨.slice (some ⟨w.heap.size,0,none⟩) n.toNat n.toNat,_,_,?_,htt,rfl,.inl ⟨e,ti.size,_,cX _ _ _,by simp,fun _=>by simp⟩⟩
 simp[execOp,ho,hv,hv2]
 rw[hrun];rfl
set_option linter.unusedSimpArgs false
def aC (l:List UInt8):List (List D):=l.map fun b=>[.u b.toNat]
def byteOf (r:List D):UInt8:=match r with| .u n::_=>UInt8.ofNat n.toNat|_=>0
def iQ (rows:List (List D)):List UInt8:=rows.map byteOf
theorem cE (l:List UInt8):iQ (aC l)=l:=by
 unfold iQ aC
 rw[List.map_map]
 conv=>rhs;rw[← List.map_id l]
 refine List.map_congr_left fun b _=> ?_
 simp[byteOf]
theorem aV (l:List UInt8): (aC l).length=l.length:=by simp[aC]
theorem aGa (ns:List Int):ns.foldl (fun(r:ByteArray) n=>r.push (UInt8.ofNat n.toNat)) ByteArray.empty=⟨(ns.map fun n=>UInt8.ofNat n.toNat).toArray⟩:=by
 have key: ∀(ns:List Int) (l:List UInt8),ns.foldl (fun(r:ByteArray) n=>r.push (UInt8.ofNat n.toNat)) ⟨l.toArray⟩=⟨(l++ns.map fun n=>UInt8.ofNat n.toNat).toArray⟩:=by
  intro ns
  induction ns with
  |nil=>intro l;simp
  |cons n ns ih=>
   intro l
   have: (⟨l.toArray⟩:ByteArray).push (UInt8.ofNat n.toNat)=⟨(l++[UInt8.ofNat n.toNat]).toArray⟩:=by
    apply ByteArray.ext
    simp
   rw[List.foldl_cons,this,ih];simp
 show ns.foldl (fun(r:ByteArray) n=>r.push (UInt8.ofNat n.toNat)) (⟨([]:List UInt8).toArray⟩:ByteArray)=_
 rw[key];simp
def aRm (σ:St):V→Option (Prop×List (dF×Option K)×V)
 | .e (.c (.d (.sl rows)))=>some (rows=aC (iQ rows),[],Dv (.s (iQ rows)))
 | .e (.c .nil)=>some (True,[],Dv (.s []))
 | .e (.c (.own ob n))=>match aU σ (.o ob) with
  |some (.row e es rows)=>some (rows.length=n∧rows=aC (iQ rows),[(.o ob,some (.row e es rows))],Dv (.s (iQ rows)))
  |_=>none
 |_=>none
theorem aOm {P:Program} {w:World} {a:Option Addr} {len cap:Nat} {l:List UInt8} (hl:l.length=len) (h:l≠[]→ ∃ad,a=some ad∧ ∀(j:Nat) b,l[j]? =some b→w.cell? (ad.add j)=some (.int .u8 b.toNat)):
 (Conv.bytesToString (.slice a len cap)).run P w= .ok (.string ⟨l.toArray⟩) w:=by
 cases a with
 |none=>
  have:l=[]:=by
   by_cases hz:l=[]
   · exact hz
   · obtain⟨ad,h1,_⟩:=h hz;cases h1
  subst this
  simp[Conv.bytesToString];rfl
 |some ad=>
  have hc: ∀(j:Nat) v,(l.map fun b=>Value.int .u8 (b.toNat:Int))[j]? =some v→w.cell? (ad.add j)=some v:=by
   intro j v hj
   rw[List.getElem?_map] at hj
   cases hq:l[j]? with
   |none=>rw[hq] at hj;cases hj
   |some b=>
    rw[hq] at hj;cases hj
    have hz:l≠[]:=by intro e;rw[e] at hq;simp at hq
    obtain⟨ad',h1,h2⟩:=h hz
    cases h1
    exact h2 j b hq
  have hload:=run_loadCells_list (P:=P) w ad _ hc
  rw[List.length_map,hl] at hload
  have:=run_bytesToString (P:=P) w ad len cap (l.map fun b=>(b.toNat:Int)) (by rw[List.map_map];exact hload)
  rw[this,aGa,List.map_map]
  congr 4
  conv=>rhs;rw[← List.map_id l]
  refine List.map_congr_left fun b _=> ?_
  simp
theorem aDc {l:List UInt8} {j:Nat} {b:UInt8} (h:l[j]? =some b): (aC l)[j]? =some [.u b.toNat]:=by simp[aC,h]
theorem aMf {P:Program} {T:gQ} (hT:dR P T) {o:Oper} {σ0:St} {s d e:TypeId} {si di ei:TI} {x:Operand} (ho:o.op= .convert s d x) (hs:T s=some si) (hsk:si.kind= .sl e) (he:T e=some ei) (hek:ei.kind= .int .u8) (hd:T d=some di) (hdk:di.kind= .str):
 lS P o σ0 (kJ σ0 x o.dst (aRm σ0)):=by
 have hu1:=(hT s si hs).kind
 rw[hsk] at hu1;simp only[lU] at hu1
 have hu2:=(hT e ei he).kind
 rw[hek] at hu2;simp only[lU] at hu2
 have hu3:=(hT d di hd).kind
 rw[hdk] at hu3;simp only[lU] at hu3
 refine kZ fun X p R Y h hp=> ?_
 have fin: ∀{cx:Cx P} {σ:St} {ι:Nat→Value} {S:Nat→Prop} {ac:Act} {w:World} {a:Option Addr} {len cap:Nat} {l:List UInt8},ac.eval x= .slice a len cap→l.length=len→(l≠[]→ ∃ad,a=some ad∧ ∀(j:Nat) b,l[j]? =some b→w.cell? (ad.add j)=some (.int .u8 b.toNat))→
  ∃v,(execOp ac.eval o).run P w= .ok (.value v) w∧lR σ ι w S (Dv (.s l)) v:=by
  intro cx σ ι S ac w a len cap l hv hl h
  refine⟨.string ⟨l.toArray⟩,?_,.s l⟩
  have:=aOm (P:=P) (cap:=cap) hl h
  have h2:=run_convert_bytes_string (P:=P) w s d e a len cap hu1 hu2 hu3
  simp only[execOp,ho,hv]
  rw[Sem.run_bind,h2,this];rfl
 unfold aRm at h
 split at h
 · rename_i rows
   cases h
   refine⟨bL.nil,fun cx σ ι S ac w hr hw hx=> ?_⟩
   obtain⟨a0,cap,es',ad,u,hv,hc,hm,hee,ha,hw1,hd1⟩:=(show DR w S (.sl rows) (ac.eval x) from hx).sl_inv
   refine fin (cx:=cx) hv (by rw[iQ,List.length_map]) fun hz=> ?_
   have hrz:rows≠[]:=by intro e;subst e;exact hz rfl
   refine⟨ad,ha hrz,fun j b hj=> ?_⟩
   have hrow:=aDc hj
   rw[← hp] at hrow
   have h1:es'=1:=by rw[← hee _ (List.mem_of_getElem? hrow)];rfl
   obtain⟨_,h2⟩:=hw1 j _ 0 (.u b.toNat) hrow rfl
   have h3:=hd1 j _ 0 (.u b.toNat) hrow rfl
   rw[h1,Nat.mul_one,Nat.add_zero] at h2
   rw[h2]
   generalize u j 0=v at h3;cases h3;rfl
 · cases h
   refine⟨bL.nil,fun cx σ ι S ac w hr hw hx=> ?_⟩
   have hv:ac.eval x= .slice none 0 0:=hx
   exact fin (cx:=cx) hv rfl fun hz=>absurd rfl hz
 · rename_i ob n
   split at h<;>try(cases h;done)
   rename_i e' es rows hl
   cases h
   obtain⟨hn,hrb⟩:=hp
   refine⟨bL.one hl,fun cx σ ι S ac w hr hw hx=> ?_⟩
   have hl':=hr (.o ob,some (.row e' es rows)) (by simp)
   dsimp only at hl'
   obtain⟨_,h2⟩:=(show CR σ ι w S (.own ob n) (ac.eval x) from hx)
   rcases h2 with⟨e2,es2,rows2,hl2,hnn,hv⟩|hdd
   · rw[hl'] at hl2;cases hl2
     have hv1:=hv hn
     clear hv
     rcases hw.vr.objs ob _ hl' with⟨hn2,hr2⟩|⟨g,off,cap,cur,fz,hg,hh,hfz,hc1,hc2,hc3,hrows⟩
     · subst hr2
       rw[hn2] at hv1
       exact fin (cx:=cx) hv1 rfl fun hz=>absurd rfl hz
     · rw[hg] at hv1
       refine fin (cx:=cx) hv1 (by rw[iQ,List.length_map]) fun hz=>⟨_,rfl,fun j b hj=> ?_⟩
       have hrow:=aDc hj
       rw[← hrb] at hrow
       have hrr:=hrows j _ hrow
       have h1:es=1:=by rw[← hrr.1];rfl
       obtain⟨u,hu,hdr⟩:=hrr.2 0 (.u b.toNat) rfl
       rw[h1,Nat.mul_one,Nat.add_zero] at hu
       rw[lF,cell_of_row w g _ cur e' fz hh,hu]
       cases hdr;rfl
   · rw[hl'] at hdd;cases hdd
 · cases h
def aRn (σ:St) (x:Operand) (e:TypeId) (d:Option Tmp):xg:=
 match ev σ x,d with
 |some (.e (.c (.d (.s l))),R),some d=>if wH σ (.o (jB σ d)) then
  some (l.length≤140737488355328,R++[(.o (jB σ d),none)],[(.o (jB σ d),.row e 1 (aC l)),(.t d,.v (.e (.c (.own (jB σ d) l.length))))]) else none
 |_,_=>none
theorem aMg {P:Program} {T:gQ} (hT:dR P T) {o:Oper} {σ0:St} {s d e:TypeId} {si di ei:TI} {x:Operand} (ho:o.op= .convert s d x) (hs:T s=some si) (hsk:si.kind= .str) (he:T e=some ei) (hek:ei.kind= .int .u8) (hd:T d=some di) (hdk:di.kind= .sl e):
 lS P o σ0 (aRn σ0 x e o.dst):=by
 have hu1:=(hT s si hs).kind
 rw[hsk] at hu1;simp only[lU] at hu1
 have hu2:=(hT e ei he).kind
 rw[hek] at hu2;simp only[lU] at hu2
 have hu3:=(hT d di hd).kind
 rw[hdk] at hu3;simp only[lU] at hu3
 intro p R W h hp
 unfold aRn at h
 split at h<;>try(cases h;done)
 rename_i l Rx dd hx hdst
 split at h<;>try(cases h;done)
 rename_i habs
 cases h
 refine⟨ie hdst (by simp) fun cx σ ι S ac w hr hw=> ?_,(cZ hx).append (bL.one (pD habs))⟩
 have hno:=hr.right (.o (jB σ0 dd),none) (by simp)
 dsimp only at hno
 have hX:=dG hx hr.left hw
 have hv:ac.eval x= .string ⟨l.toArray⟩:=by
  have hX:DR w S (.s l) (ac.eval x):=hX
  generalize ac.eval x=v at hX;cases hX;rfl
 have hsz: (⟨l.toArray⟩:ByteArray).size=l.length:=xU l
 have hrun:=Lib.run_convert_string_bytes (P:=P) w s d e ⟨l.toArray⟩ hu1 hu3 hu2
 rw[hsz] at hrun
 have hnew:=Lib.bytesWorld_at_new w e ⟨l.toArray⟩
 have hcap:=grownCap_ge w l.length 0 e
 have hcm:=grownCap_le_maxLen w l.length 0 e (by simp only[maxLen];omega)
 have hblock: ∀b,b<w.heap.size→some b≠(none:Option Nat)→(Lib.bytesWorld w e ⟨l.toArray⟩).heap[b]? =w.heap[b]?:=fun b hb _=>Lib.bytesWorld_at_old w e _ b hb
 have hcs: (Lib.bytesCells w e ⟨l.toArray⟩).size=grownCap w l.length 0 e:=by
  simp only[Lib.bytesCells,hsz,Array.size_append,Array.size_map,Array.size_replicate,List.size_toArray];omega
 refine⟨.slice (some ⟨w.heap.size,0,none⟩) l.length (grownCap w l.length 0 e),.slice (some ⟨w.heap.size,0,none⟩) l.length (grownCap w l.length 0 e),Lib.bytesWorld w e ⟨l.toArray⟩,?_,
  ⟨?_,?_,?_,by rw[Lib.bytesWorld_size];omega,hblock,(fun b hb=>by cases hb),.inl hno,(fun b hb=> .inr (by simp[xT] at hb;omega)),?_⟩,rfl,.inl ⟨e,1,_,cX _ _ _,by rw[aV];exact aVf _,fun _=>by simp⟩⟩
 · simp only[execOp,ho,hv]
   rw[Sem.run_bind,hrun];rfl
 · unfold Lib.bytesWorld World.freeze;split<;>rfl
 · unfold Lib.bytesWorld World.freeze;split<;>rfl
 · unfold Lib.bytesWorld World.freeze;split<;>rfl
 · refine .inr ⟨w.heap.size,0,grownCap w l.length 0 e,_,_,by rw[aV],hnew,.inr (aVf _),by rw[aV];exact hcap,hcm,by rw[hcs];omega,fun i r hr=> ?_⟩
   simp only[aC,List.getElem?_map] at hr
   cases hq:l[i]? with
   |none=>rw[hq] at hr;cases hr
   |some b=>
    rw[hq] at hr;cases hr
    refine⟨rfl,fun k dd hk=> ?_⟩
    cases k with
    |succ k=>simp at hk
    |zero=>
     simp at hk;subst hk
     have hi:=(aVe.1 hq)
     obtain⟨hi1,hi2⟩:=hi
     refine⟨.int .u8 b.toNat,?_,.u _⟩
     simp[Lib.bytesCells,Array.getElem?_append,hi1,hi2]
def aMh (T:gQ) (σ:St) (t t2:TypeId) (x y:Operand) (d:Option Tmp):xg:=
 match ev σ x,ev σ y,T t,d with
 |some (.e (.c (.own ob n)),R),some (Y,R2),some ⟨.sl e,_,_,_⟩,some d=>match T e,aU σ (.o ob),rV T σ t2 Y with
  |some ti,some (.row e' es rows),some (q,news,R3)=>if e=e'∧ti.size=es then
   some (q∧rows.length=n∧(∀r∈news,r.length=es),R++R2++R3++[(.o ob,some (.row e' es rows))],
    [(.o ob,.row e es (news.take (min news.length n)++rows.drop (min news.length n))),(.t d,.v (I (min news.length n:Nat)))]) else none
  |_,_,_=>none
 |_,_,_,_=>none
theorem aJz {P:Program} {T:gQ} (hT:dR P T) {o:Oper} {σ0:St} {t t2:TypeId} {x y:Operand} (ho:o.op= .call {callee:= .builtin .copy,args:= #[x,y],argTypes:= #[t,t2]}):
 lS P o σ0 (aMh T σ0 t t2 x y o.dst):=by
 intro p R W h hp
 unfold aMh at h
 split at h<;>try(cases h;done)
 rename_i ob n Rx Y Ry e _ _ _ d hx hy ht hd
 split at h<;>try(cases h;done)
 rename_i ti e' es rows q news R3 hte hl hsrc
 split at h<;>try(cases h;done)
 rename_i hee
 obtain⟨rfl,rfl⟩:=hee
 cases h
 obtain⟨hq,hn,hnl⟩:=hp
 have hu:=(hT t _ ht).kind
 simp only[lU] at hu
 have hok:=hT e ti hte
 refine⟨lz hd fun cx σ ι S a w hr hw=> ?_,(((cZ hx).append (cZ hy)).append (rW hsrc)).append (bL.one hl)⟩
 have hl':=hr.right (.o ob,some (.row e ti.size rows)) (by simp)
 dsimp only at hl'
 have hX:=dG hx hr.left.left.left hw
 have hY:=dG hy hr.left.left.right hw
 obtain⟨nv,hs⟩:=cw hT hsrc hq hok.pos hnl hr.left.right hw hY
 obtain⟨_,h2⟩:=(show CR σ ι w S (.own ob n) (a.eval x) from hX)
 rcases h2 with⟨e2,es2,rows2,hl2,hnn,hv⟩|hdd
 case inr=>rw[hl'] at hdd;cases hdd
 rw[hl'] at hl2;cases hl2
 have hvx:=hv hn
 let m:=min news.length n
 have hm1:m≤news.length:=Nat.min_le_left _ _
 have hm2:m≤n:=Nat.min_le_right _ _
 have hlen: (news.take m++rows.drop m).length=rows.length:=by rw[aU5,aVc,aVk];omega
 have hpre:=hs.pre w m rfl hm1
 have hpl: (nv.take (m*ti.size)).length=m*ti.size:=by
  rw[aVc,hs.size]
  exact Nat.min_eq_left (Nat.mul_le_mul_right _ hm1)
 have hmin:Nat.min news.length n=m:=rfl
 rcases hw.vr.objs ob _ hl' with⟨hn2,hr2⟩|⟨g,off,cap,cur,fz,hg,hh,hfz,hc1,hc2,hc3,hrows⟩
 · subst hr2
   rw[hn2] at hvx
   have hn0:n=0:=by simpa using hn.symm
   subst hn0
   have hm0:m=0:=by omega
   have hblock: ∀b,b<w.heap.size→some b≠(none:Option Nat)→w.heap[b]? =w.heap[b]?:=fun _ _ _=>rfl
   have hrow0:news.take m++([]:List (List D)).drop m=[]:=by rw[hm0];simp
   refine⟨.int .i64 (m:Nat),none,.slice none 0 0,w,?_,⟨rfl,rfl,rfl,aVf _,hblock,(fun b hb=>by cases hb),.inr ⟨_,hl',rfl,by rw[hlen];exact aVf _,fun _=>hn2.symm⟩,(fun b hb=>by simp[xT] at hb),.inl ⟨rfl,hrow0⟩⟩,.i _⟩
   simp only[execOp,ho]
   simp[resolve,invoke,builtin,hvx,Builtin.copy_,run_underlying hu,fO hok,hs.len,hmin]
   rw[hm0] at hpre ⊢
   rw[hpre]
   simp[goInt]
 · rw[hg] at hvx
   have h9:cur.toList.length=cur.size:=Array.length_toList
   have hmc:m*ti.size≤cap*ti.size:=Nat.mul_le_mul_right _ (by omega)
   have hst:=mX (P:=P) g off e fz (nv.take (m*ti.size)) 0 cur w hh hfz (by rw[hpl];omega) (fun u hu=>hs.one u (List.mem_of_mem_take hu))
   simp only[Nat.add_zero] at hst
   have hmine: ∀b',some g=some b'→kR σ ι ob b':=fun b' e=>by cases e;exact⟨⟨_,hl',trivial⟩,by rw[hg];rfl⟩
   have hblock: ∀b',b'<w.heap.size→some b'≠some g→(w.setRow g (dC cur.toList off (nv.take (m*ti.size))).toArray).heap[b']? =w.heap[b']?:=fun b' _ hne=>setRow_other w g b' _ (fun e=>hne (by rw[e]))
   have hevo:aU σ (.o ob)=none∨ ∃k0,aU σ (.o ob)=some k0∧nA (ι ob) (ι ob) k0 (.row e ti.size (news.take m++rows.drop m)):= .inr ⟨_,hl',rfl,by rw[hlen];exact aVf _,fun _=>rfl⟩
   have st:=rB hw.vr hblock hmine hevo
   refine⟨.int .i64 (m:Nat),some g,ι ob,w.setRow g (dC cur.toList off (nv.take (m*ti.size))).toArray,?_,⟨rfl,rfl,rfl,by simp,hblock,hmine,hevo,(fun b hb=> .inl (by rw[hg] at hb;simp[xT] at hb;rw[hb])),?_⟩,.i _⟩
   · simp only[execOp,ho]
     simp[resolve,invoke,builtin,hvx,hn,Builtin.copy_,run_underlying hu,fO hok,hs.len,hmin]
     rw[hpre]
     simp[hst,goInt]
   · refine .inr ⟨g,off,cap,(dC cur.toList off (nv.take (m*ti.size))).toArray,fz,by rw[hlen];simpa using hg,setRow_heap w g cur _ e _ hh,by rw[List.size_toArray,fK (by omega),h9];exact hfz,by rw[hlen];exact hc1,hc2,by rw[List.size_toArray,fK (by omega),h9];exact hc3,fun i r hi=> ?_⟩
     have hil:i<rows.length:=by rw[← hlen];exact(aVe.1 hi).1
     have get: ∀j,(dC cur.toList off (nv.take (m*ti.size))).toArray[j]? =if j<off then cur[j]? else if j<off+m*ti.size then(nv.take (m*ti.size))[j - off]? else cur[j]?:=fun j=>by
      rw[← Array.getElem?_toList,List.toList_toArray,iP (by omega),hpl]
      simp
     by_cases him:i<m
     · rw[List.getElem?_append_left (by rw[aVc];omega),List.getElem?_take,if_pos him] at hi
       have hrl:=hnl r (List.mem_of_getElem? hi)
       refine⟨hrl,fun k dd hk=> ?_⟩
       obtain⟨u,hu',hdr⟩:=hs.rel i r hi k dd hk
       have hkl:k<ti.size:=by rw[← hrl];exact(aVe.1 hk).1
       have hix:=lA him hkl
       refine⟨u,?_,DR.mono st.sub st.keep hdr⟩
       rw[get,if_neg (by omega),if_pos (by omega),show off+i*ti.size+k - off=i*ti.size+k by omega,List.getElem?_take,if_pos hix]
       exact hu'
     · rw[List.getElem?_append_right (by rw[aVc];omega),aVc,List.getElem?_drop,show m+(i - min m news.length)=i by omega] at hi
       obtain⟨q1,q2⟩:=hrows i r hi
       refine⟨q1,fun k dd hk=> ?_⟩
       obtain⟨u,hu',hdr⟩:=q2 k dd hk
       refine⟨u,?_,DR.mono st.sub st.keep hdr⟩
       have:m*ti.size≤i*ti.size:=Nat.mul_le_mul_right _ (by omega)
       rw[get,if_neg (by omega),if_neg (by omega)]
       exact hu'
set_option linter.unusedSimpArgs false
def fNil (σ0:St):V→Option (Prop×List (dF×Option K)×V):=fun X=>match X with
 | .e (.c (.pt ob k))=>match aU σ0 (.o ob) with
  |some (.box ty cs)=>some (True,[(.o ob,some (.box ty cs))],.e (.c (.pt ob k)))
  |_=>none
 |_=>none
def za (T:gQ) (σ0:St) (t:TypeId):V→Option (Prop×List (dF×Option K)×V):=fun X=>match T t with
 |some ti=>match ti.kind,X with
  | .str,.e (.c (.d (.s l)))=>lr σ0 (.e (.c (.d (.s l))))
  | .sl _,.e (.c (.d (.sl rows)))=>lr σ0 (.e (.c (.d (.sl rows))))
  | .sl _,.e (.c .nil)=>lr σ0 (.e (.c .nil))
  | .sl _,.e (.c (.own ob n))=>lr σ0 (.e (.c (.own ob n)))
  |_,_=>none
 |none=>none
def aMi (T:gQ) (σ:St) (c:Call) (d:Option Tmp):xg:=
 match c.callee,c.args.toList,c.argTypes.toList with
 | .builtin .len,[x],[t]=>kJ σ x d (za T σ t)
 | .builtin .append,[x,y],[t,t2]=>aA7 T σ t t2 x y d
 | .builtin .min,[x,y],_=>qW σ x y d aRk
 | .builtin .max,[x,y],_=>qW σ x y d aRl
 |_,_,_=>none
def zb (T:gQ) (o:Oper) (σ:St):xg:=
 match o.op with
 | .move x=>kJ σ x o.dst fId
 | .assign x=>kJ σ x o.dst fId
 | .pick c x y=>aIr σ c x y o.dst
 | .box e x=>aRj σ e x o.dst
 | .alloc e=>aF2 T σ e o.dst
 | .build t ps=>aF6 T σ t ps.toList o.dst
 | .buildSlice t n ps=>am T σ t n ps.toList o.dst
 | .load t x=>kJ σ x o.dst (rn T σ t)
 | .store t x y=>aF4 T σ t x y o.dst
 | .nilCheck x=>kJ σ x o.dst (fNil σ)
 | .binOp op t x y u=>qW σ x y o.dst (aOj op)
 | .unOp u t x=>kJ σ x o.dst (fUn u)
 | .convert s t x=>match T s with
  |some _=>kJ σ x o.dst (aL5 T t)
  |none=>none
 | .makeSlice t x y=>aMe T σ t x y o.dst
 | .slice t x lo hi mx=>aF8 T σ t x lo hi mx o.dst
 | .fieldAddr s x f=>kJ σ x o.dst (fj T σ s f)
 | .field s x f=>kJ σ x o.dst (aF0 T s f)
 | .indexAddr t x y=>qW σ x y o.dst (fk T σ t)
 | .index t x y=>match T t with
  |some ⟨.str,_,_,_⟩=>qW σ x y o.dst aL6
  |_=>none
 | .extract x i=>kJ σ x o.dst (ri i)
 | .call c=>aMi T σ c o.dst
 |_=>none
theorem nT {P:Program} {o:Oper} {σ:St}:lS P o σ none:=fun p R W h=>by cases h
theorem aJ0 {P:Program} {T:gQ} (hT:dR P T) {o:Oper} {σ:St} {c:Call} (ho:o.op= .call c):lS P o σ (aMi T σ c o.dst):=by
 obtain⟨callee,args,argTypes⟩:=c
 unfold aMi
 dsimp only
 split
 · rename_i x t ha hat
   obtain rfl:args= #[x]:=Array.toList_inj.1 (by simpa using ha)
   obtain rfl:argTypes= #[t]:=Array.toList_inj.1 (by simpa using hat)
   cases ht:T t with
   |none=>
    intro p R W h
    unfold kJ at h
    split at h<;>try(cases h;done)
    simp[za,ht] at h
   |some ti=>
    by_cases hk:ti.kind= .str∨ ∃e,ti.kind= .sl e
    · have:=aL7 hT (σ0:=σ) ho ht hk
      have e:za T σ t=fun X=>match ti.kind,X with
       | .str,.e (.c (.d (.s l)))=>lr σ (.e (.c (.d (.s l))))
       | .sl _,.e (.c (.d (.sl rows)))=>lr σ (.e (.c (.d (.sl rows))))
       | .sl _,.e (.c .nil)=>lr σ (.e (.c .nil))
       | .sl _,.e (.c (.own ob n))=>lr σ (.e (.c (.own ob n)))
       |_,_=>none:=by funext X;simp[za,ht]
      rw[e];exact this
    · intro p R W h
      unfold kJ at h
      split at h<;>try(cases h;done)
      rename_i X R' d' _ _
      have:za T σ t X=none:=by
       simp only[za,ht]
       split<;>first|rfl|(exfalso;apply hk;first|exact .inl ‹_› |exact .inr ⟨_,‹_›⟩)
      rw[this] at h;cases h
 · rename_i x y t t2 ha hat
   obtain rfl:args= #[x,y]:=Array.toList_inj.1 (by simpa using ha)
   obtain rfl:argTypes= #[t,t2]:=Array.toList_inj.1 (by simpa using hat)
   exact aC7 hT ho
 · rename_i x y ha
   obtain rfl:args= #[x,y]:=Array.toList_inj.1 (by simpa using ha)
   exact aMc ho
 · rename_i x y ha
   obtain rfl:args= #[x,y]:=Array.toList_inj.1 (by simpa using ha)
   exact aMd ho
 · exact nT
theorem yD {P:Program} {T:gQ} (hT:dR P T) (o:Oper) (σ:St):lS P o σ (zb T o σ):=by
 unfold zb
 split
 case h_1 x ho=>exact yu (.inl ho)
 case h_2 x ho=>exact yu (.inr ho)
 case h_3 ho=>exact yx ho
 case h_4 ho=>exact aL8 ho
 case h_5 ho=>exact aF3 hT ho
 case h_6 ho=>exact aF7 hT ho
 case h_7 ho=>exact qa hT ho
 case h_8 ho=>exact yw hT ho
 case h_9 ho=>exact aF5 hT ho
 case h_10 ho=>exact xh (T:=T) ho
 case h_11 ho=>exact aC3 ho
 case h_12 ho=>exact aOi ho
 case h_13 ho=>
  split
  · rename_i h;exact aJw hT ho (by rw[h];rfl)
  · exact nT
 case h_14 ho=>exact aJy hT ho
 case h_15 ho=>exact aF9 hT ho
 case h_16 ho=>exact rj hT ho
 case h_17 ho=>exact aF1 hT ho
 case h_18 ho=>exact rm hT ho
 case h_19 ho=>
  split
  · rename_i h;exact aJx hT ho h rfl
  · exact nT
 case h_20 ho=>exact aA5 ho
 case h_21 ho=>exact aJ0 hT ho
 case h_22=>exact nT
def aIu (P:Program) (T:gQ) (o:Oper) (σ:St) (k:List (dF×Option K)→List (dF×K)→Prop):Prop:=
 match zb T o σ with
 |some (p,R,W)=>p∧k R W
 |none=> ∃R W,wY P o R W∧bL R σ∧k R W
theorem oi {P:Program} {T:gQ} (hT:dR P T) {o:Oper} {σ:St} {k:List (dF×Option K)→List (dF×K)→Prop} (h:aIu P T o σ k): ∃R W,wY P o R W∧bL R σ∧k R W:=by
 unfold aIu at h
 split at h
 · rename_i p R W he
   obtain⟨h1,h2⟩:=yD hT o σ p R W he h.1
   exact⟨R,W,h1,h2,h.2⟩
 · exact h
def zc (o:Oper):List (dF×K):=match o.dst with|some d=>[(.t d,.dead)]|none=>[]
def goR (P:Program) (T:gQ) (ops:List Oper):List Oper→St→List eg→(St→List eg→Prop)→Prop
 | [],σ,acc,k=>k σ acc
 |o::os,σ,acc,k=>match o.guard with
  |none=>aIu P T o σ fun R W=>goR P T ops os (iL σ W) (acc++[pF (R,W)]) k
  |some (j,want)=>match(ops[j]?).bind (·.dst) with
   |some s=>match aU σ (.t s) with
    |some (.v (.e (.c (.d (.b x)))))=>
     (x=want→aIu P T o σ fun R W=>goR P T ops os (iL σ W) (acc++[pF ((.t s,none)::R,W)]) k)∧
     (x= !want→goR P T ops os (iL σ (zc o)) (acc++[pF ([(.t s,none)],zc o)]) k)
    |_=>False
   |none=>False
theorem cz {P:Program} {T:gQ} (hT:dR P T) {ops:Array Oper} {k:St→List eg→Prop}: ∀(l:List Oper) (σ:St) (acc:List eg),goR P T ops.toList l σ acc k→
 ∃ts:List mD,zP P ops l ts∧kB ts σ∧k (fF ts σ) (acc++ts.map pF)
 | [],σ,acc,h=>⟨[],trivial,trivial,by simpa[goR,fF] using h⟩
 |o::os,σ,acc,h=>by
  simp only[goR] at h
  split at h
  · rename_i hg
    obtain⟨R,W,h1,h2,h3⟩:=oi hT h
    obtain⟨ts,q1,q2,q3⟩:=cz hT os _ _ h3
    exact⟨(R,W)::ts,⟨ao hg h1,q1⟩,⟨h2,q2⟩,by simpa[fF] using q3⟩
  · rename_i j want hg
    split at h<;>try(exact h.elim)
    rename_i s hs
    split at h<;>try(exact h.elim)
    rename_i x hl
    have hs': (ops[j]?).bind (·.dst)=some s:=by simpa using hs
    by_cases hx:x=want
    · subst hx
      obtain⟨R,W,h1,h2,h3⟩:=oi hT (h.1 rfl)
      obtain⟨ts,q1,q2,q3⟩:=cz hT os _ _ h3
      refine⟨((.t s,some (.v (B x)))::R,W)::ts,⟨aC8 hg hs' h1,q1⟩,⟨fun p hp=> ?_,q2⟩,by simpa[fF,pF] using q3⟩
      rcases aVm.1 hp with rfl|hp
      · exact hl
      · exact h2 p hp
    · have hx':x= !want:=by cases x<;>cases want<;>simp_all
      obtain⟨ts,q1,q2,q3⟩:=cz hT os _ _ (h.2 hx')
      subst hx'
      refine⟨([(.t s,some (.v (B (!want))))],zc o)::ts,⟨aIt hg hs' rfl,q1⟩,⟨bL.one hl,q2⟩,by simpa[fF,pF] using q3⟩
def wJ (l:List Oper) (ns:List eg):Bool:=rY 0 l&&yA ns (mF l []) ns.length
inductive Ex where
 |norm
 |exit (id:Nat)
 |ret
def zd {P:Program} (cx:Cx P) (Q:Ex→St→Prop):Exit→Act→World→Prop
 | .normal,a,w=> ∃σ ι S,Q .norm σ∧RW cx σ ι S a w
 | .exit id,a,w=> ∃σ ι S,Q (.exit id) σ∧RW cx σ ι S a w
 | .ret,a,w=> ∃σ ι S,Q .ret σ∧RW cx σ ι S a w
 |_,_,_=>False
def sX (N:Nat):Code→Bool
 | .region _ ops _=>aMa N ops.toList
 | .seq a b=>sX N a&&sX N b
 | .cond _ a b=>sX N a&&sX N b
 | .block _ c=>sX N c
 | .loop c=>sX N c
 | .skip| .exit _| .ret=>true
 |_=>false
def SW (P:Program) (io:List Nat) (c:Code) (Q:Ex→St→Prop) (σ:St):Prop:= ∀(cx:Cx P) ι S a w,(∀o k,cx.kio o=some k→o∈io)→RW cx σ ι S a w→sX cx.N c=true→c.wp P (zd cx Q) a w
theorem SW.mono {P:Program} {io:List Nat} {c:Code} {Q Q':Ex→St→Prop} {σ:St} (hq: ∀e s,Q e s→Q' e s) (h:SW P io c Q σ):SW P io c Q' σ:=fun cx ι S a w hio hw hf=>
 wp_mono (h cx ι S a w hio hw hf) fun e a w hq'=>by
  cases e<;>simp only[zd] at hq' ⊢ <;>(obtain⟨σ,ι,S,h1,h2⟩:=hq';exact⟨σ,ι,S,hq _ _ h1,h2⟩)
section
variable {P:Program} {io:List Nat} {Q:Ex→St→Prop} {σ:St}
theorem SW.skip (h:Q .norm σ):SW P io .skip Q σ:=fun cx ι S a w hio hw _=>wp_skip ⟨σ,ι,S,h,hw⟩
theorem SW.exit {id:Nat} (h:Q (.exit id) σ):SW P io (.exit id) Q σ:=fun cx ι S a w hio hw _=>wp_exit ⟨σ,ι,S,h,hw⟩
theorem SW.ret (h:Q .ret σ):SW P io .ret Q σ:=fun cx ι S a w hio hw _=>wp_ret ⟨σ,ι,S,h,hw⟩
def il (k:St→Prop) (Q:Ex→St→Prop):Ex→St→Prop
 | .norm,s=>k s
 |e,s=>Q e s
theorem SW.seq {x y:Code} (h:SW P io x (il (SW P io y Q) Q) σ):SW P io (.seq x y) Q σ:=fun cx ι S a w hio hw hf=>by
 simp only[sX,aU7] at hf
 refine wp_seq (wp_mono (h cx ι S a w hio hw hf.1) fun e a' w' hq=> ?_)
 cases e<;>simp only[zd,il,Exit.then] at hq ⊢
 · obtain⟨σ',ι',S',h1,h2⟩:=hq
   exact h1 cx ι' S' a' w' hio h2 hf.2
 · exact hq
 · exact hq
theorem SW.cond {c:Operand} {x y:Code} {t:Bool} {R:List (dF×Option K)} (hc:ev σ c=some (B t,R)) (h1:t=true→SW P io x Q σ) (h2:t=false→SW P io y Q σ):SW P io (.cond c x y) Q σ:=fun cx ι S a w hio hw hf=>by
 simp only[sX,aU7] at hf
 have hv:=dG hc (cZ hc) hw
 simp only[lR,ER,CR] at hv
 have he:a.eval c= .bool t:=by generalize a.eval c=v at hv;cases hv;rfl
 exact wp_cond_split he (fun h=>h1 h cx ι S a w hio hw hf.1) (fun h=>h2 h cx ι S a w hio hw hf.2)
def aGb (id:Nat) (Q:Ex→St→Prop):Ex→St→Prop
 | .exit i,s=>if i=id then Q .norm s else Q (.exit i) s
 |e,s=>Q e s
theorem SW.block {id:Nat} {c:Code} (h:SW P io c (aGb id Q) σ):SW P io (.block id c) Q σ:=fun cx ι S a w hio hw hf=>by
 refine wp_block (wp_mono (h cx ι S a w hio hw (by simpa[sX] using hf)) fun e a' w' hq=> ?_)
 cases e<;>simp only[zd,aGb,Exit.inBlock] at hq ⊢ <;>try exact hq
 rename_i i
 obtain⟨σ',ι',S',h1,h2⟩:=hq
 split
 · rename_i hi;rw[if_pos hi] at h1;exact⟨σ',ι',S',h1,h2⟩
 · rename_i hi;rw[if_neg hi] at h1;exact⟨σ',ι',S',h1,h2⟩
theorem SW.loop {c:Code} (I:Nat→St→Prop) {n:Nat} (h0:I n σ) (hr: ∀n s,I n s→SW P io c (il (fun s'=> ∃m,m<n∧I m s') Q) s):SW P io (.loop c) Q σ:=fun cx ι S a w hio hw hf=>by
 have hf':sX cx.N c=true:=by simpa[sX] using hf
 intro b k cs
 have key: ∀n a w,(∃σ ι S,I n σ∧RW cx σ ι S a w)→ ∃e a' w',zd cx Q e a' w'∧Arrives P (lone (b.at a (.code c:: .inLoop c::k)) cs w) b k cs e a' w':=by
  intro n
  induction n using Nat.strongRecOn with
  |_ n ih=>
   rintro a w ⟨σ',ι',S',hI,hw'⟩
   obtain⟨e,a₁,w₁,hq,harr⟩:=hr n σ' hI cx ι' S' a w hio hw' hf' b (.inLoop c::k) cs
   cases e with
   |normal=>
    simp only[zd,il] at hq
    obtain⟨σ₁,ι₁,S₁,⟨m,hm,hI₁⟩,hw₁⟩:=hq
    obtain⟨e₂,a₂,w₂,hq₂,harr₂⟩:=ih m hm a₁ w₁ ⟨σ₁,ι₁,S₁,hI₁,hw₁⟩
    exact⟨e₂,a₂,w₂,hq₂,.of_steps (Steps.trans harr (.one step_inLoop)) harr₂⟩
   |exit id=>exact⟨.exit id,a₁,w₁,hq,.pass (x:= .inLoop c) rfl (fun _ _=> .inl (by simp)) harr⟩
   |goto l=>exact hq.elim
   |ret=>exact⟨.ret,a₁,w₁,hq,.pass (x:= .inLoop c) rfl (fun _ _=> .inl (by simp)) harr⟩
   |panic ch=>exact hq.elim
   |outgrown=>exact hq.elim
 obtain⟨e,a',w',hq,harr⟩:=key n a w ⟨σ,ι,S,h0,hw⟩
 exact⟨e,a',w',hq,.of_steps (.one step_loop) harr⟩
theorem SW.region {T:gQ} (hT:dR P T) (hm:P.follows .mixedOrders=true) {id:Nat} {ops:Array Oper} {draw:Bool} (h:goR P T ops.toList ops.toList σ [] fun σ' ns=>(draw=true→wJ ops.toList ns=true)∧Q .norm σ'):SW P io (.region id ops draw) Q σ:=fun cx ι S a w hio hw hf=>by
 have hfit: ∀o∈ops.toList,∀d,o.dst=some d→d<cx.N:=fun o ho=>xX (by simpa[sX] using hf) ho
 obtain⟨ts,h1,h2,h3,h4⟩:=cz hT ops.toList σ [] h
 have hlen: ∀(l:List Oper) (ts:List mD),zP P ops l ts→ts.length=l.length∧ ∀(i:Nat) o t,l[i]? =some o→ts[i]? =some t→ItT P ops o t:=by
  intro l
  induction l with
  |nil=>intro ts h;cases ts with
   |nil=>exact⟨rfl,by simp⟩
   |cons t ts=>exact h.elim
  |cons o os ih=>intro ts h;cases ts with
   |nil=>exact h.elim
   |cons t ts=>
    obtain⟨q1,q2⟩:=ih ts h.2
    refine⟨by simp[q1],fun i o' t' ho ht=> ?_⟩
    cases i with
    |zero=>simp at ho ht;subst ho;subst ht;exact h.1
    |succ i=>exact q2 i o' t' (by simpa using ho) (by simpa using ht)
 cases draw with
 |false=>exact wp_region_list (xY ops.toList ts σ ι S a w h1 h2 hw hfit fun ι' S' a' w' hw'=>⟨_,ι',S',h4,hw'⟩)
 |true=>
  obtain⟨q1,q2⟩:=hlen _ _ h1
  have hord:=h3 rfl
  simp only[List.nil_append] at hord
  refine wp_region_any hm (cy (cx:=cx) (σ:=σ) (ts:=ts) (by simpa using q1) (fun i o t ho ht=>q2 i o t (by simpa using ho) ht) h2 (by simpa[pN,wJ] using hord) hfit (fun ι' S' a' w' hw'=>⟨_,ι',S',h4,hw'⟩)
   ops.size (Array.replicate ops.size false) σ ι S a _ (by simp) (fun l=> ?_) hw.drew (fun k o ho hk=> ?_) ?_)
  · have hL: ∀i,(Array.replicate ops.size false).getD i false=false:=fun i=>by
     rw[Array.getD_eq_getD_getElem?,Array.getElem?_replicate];split<;>rfl
    have: ∀n,part ts (fun i=>(Array.replicate ops.size false).getD i false) σ l n=aU σ l:=by
     intro n
     induction n with
     |zero=>rfl
     |succ n ih=>rw[mP,if_neg (by rw[hL];simp),ih]
    rw[this]
  · rw[Array.getD_eq_getD_getElem?,Array.getElem?_replicate] at hk;split at hk<;>cases hk
  · exact Nat.le_trans (List.length_filter_le _ _) (by simp)
end
set_option linter.unusedSimpArgs false
def cA:St→List Nat
 | []=>[]
 |(.o n,_)::r=>n::cA r
 |_::r=>cA r
theorem fG {σ:St} {o:Nat} {k:K} (h:aU σ (.o o)=some k):o∈cA σ:=by
 induction σ with
 |nil=>cases h
 |cons p r ih=>
  obtain⟨l,k'⟩:=p
  simp only[aU] at h
  split at h
  · rename_i e
    have e:l= .o o:=e
    subst e;simp[cA]
  · cases l with
    |t s=>exact ih h
    |o n=>simp[cA,ih h]
theorem pQ {σ:St} {o:Nat} (h:o∈cA σ): ∃k,aU σ (.o o)=some k:=by
 induction σ with
 |nil=>cases h
 |cons p r ih=>
  obtain⟨l,k⟩:=p
  simp only[aU]
  by_cases e:l= .o o
  · exact⟨k,by rw[if_pos e]⟩
  · rw[if_neg e]
    cases l with
    |t s=>exact ih h
    |o n=>
     simp only[cA,aVm] at h
     rcases h with h|h
     · exact absurd (by rw[h]) e
     · exact ih h
theorem uN {σ:St} {l:dF} {k:K} (h:aU σ l=some k): (l,k)∈σ:=by
 induction σ with
 |nil=>cases h
 |cons p r ih=>
  obtain⟨l',k'⟩:=p
  simp only[aU] at h
  split at h
  · rename_i e
    have e:l'=l:=e
    cases h;subst e;exact List.mem_cons_self ..
  · exact List.mem_cons_of_mem _ (ih h)
def kA (rl:List (Nat×Nat)) (j:Nat):Nat:=
 match rl with
 | []=>j
 |p::r=>if p.1=j then p.2 else kA r j
def mC (τ σ':St) (rl:List (Nat×Nat)) (bor:List Nat):C→C→Prop
 | .d x,.d y=>x=y
 | .nil,.nil=>True
 | .nil,.d y=>y= .sl []
 | .own o n,.d y=>o∈bor∧ ∃e es rows,aU τ (.o o)=some (.row e es rows)∧rows.length=n∧y= .sl rows
 | .own o n,.own j m=>o=kA rl j∧n=m∧ ∃e es rows,aU σ' (.o j)=some (.row e es rows)
 | .pt o k,.pt j m=>o=kA rl j∧k=m∧ ∃ty cs,aU σ' (.o j)=some (.box ty cs)
 | .rp cs,.rp cs'=>cs=cs'
 | .nil,.z j Q'=>(∀p,Q' p (.slice none 0 0))∧ ∃Z,aU σ' (.o j)=some (.zone Z)
 | .z o Q,.z j Q'=>o=kA rl j∧(∀p v,Q p v→Q' p v)∧ ∃Z,aU σ' (.o j)=some (.zone Z)
 |_,_=>False
def xe (τ σ':St) (rl:List (Nat×Nat)) (bor:List Nat):List C→List C→Prop
 | [],[]=>True
 |c::cs,d::ds=>mC τ σ' rl bor c d∧xe τ σ' rl bor cs ds
 |_,_=>False
def mE (τ σ':St) (rl:List (Nat×Nat)) (bor:List Nat):E→E→Prop
 | .c x,.c y=>mC τ σ' rl bor x y
 | .agg cs,.agg ds=>xe τ σ' rl bor cs ds
 |_,_=>False
def mEs (τ σ':St) (rl:List (Nat×Nat)) (bor:List Nat):List E→List E→Prop
 | [],[]=>True
 |c::cs,d::ds=>mE τ σ' rl bor c d∧mEs τ σ' rl bor cs ds
 |_,_=>False
def mV (τ σ':St) (rl:List (Nat×Nat)) (bor:List Nat):V→V→Prop
 | .e x,.e y=>mE τ σ' rl bor x y
 | .tup xs,.tup ys=>mEs τ σ' rl bor xs ys
 |_,_=>False
def mK (τ σ':St) (rl:List (Nat×Nat)) (bor:List Nat):K→K→Prop
 | .box ty cs,.box ty' ds=>ty=ty'∧xe τ σ' rl bor cs ds
 | .row e es rows,.row e' es' rows'=>e=e'∧es=es'∧rows=rows'
 | .zone Z,.zone Z'=>Z'.le=Z.le∧ ∀w S p,Z.R w S p→Z'.R w S p
 |_,_=>False
def mL (τ σ':St) (rl:List (Nat×Nat)) (bor:List Nat):List (dF×K)→Prop
 | []=>True
 |(.t s,.v X')::r=>(∃X,aU τ (.t s)=some (.v X)∧mV τ σ' rl bor X X')∧mL τ σ' rl bor r
 |(.o j,k')::r=>(∃k,aU τ (.o (kA rl j))=some k∧mK τ σ' rl bor k k')∧mL τ σ' rl bor r
 |_::_=>False
def uO:List Nat→Bool
 | []=>true
 |x::r=> !iU x r&&uO r
def zQ (σ':St) (rl:List (Nat×Nat)) (bor:List Nat):Bool:=uO ((cA σ').map (kA rl))&&uO (cA σ')&&oV bor ((cA σ').map (kA rl))
def oJ (τ σ':St) (rl:List (Nat×Nat)) (bor:List Nat):Prop:=mL τ σ' rl bor σ'∧zQ σ' rl bor=true
theorem fp {f:Nat→Nat}: ∀{l:List Nat},uO (l.map f)=true→ ∀i∈l,∀j∈l,f i=f j→i=j
 | [],_,i,hi,_,_,_=>by simp at hi
 |x::r,h,i,hi,j,hj,he=>by
  simp only[List.map_cons,uO,aU7,Bool.not_eq_true'] at h
  have hx: ∀y∈r,f x≠f y:=fun y hy e=>by
   have:iU (f x) (r.map f)=true:=gS.2 (by rw[e];exact aVj.2 ⟨y,hy,rfl⟩)
   rw[this] at h;cases h.1
  rcases aVm.1 hi with e1|h1
  · rcases aVm.1 hj with e2|h2
    · rw[e1,e2]
    · rw[e1] at he;exact absurd he (hx j h2)
  · rcases aVm.1 hj with e2|h2
    · rw[e2] at he;exact absurd he.symm (hx i h1)
    · exact fp h.2 i h1 j h2 he
section
variable {σ τ σ':St} {rl:List (Nat×Nat)} {bor:List Nat} {ι ν:Nat→Value} {S:Nat→Prop} {w:World}
theorem aA8: ∀{L:List (dF×K)},mL τ σ' rl bor L→ ∀p∈L,(∀s X',p=(.t s,.v X')→ ∃X,aU τ (.t s)=some (.v X)∧mV τ σ' rl bor X X')∧(∀j k',p=(.o j,k')→ ∃k,aU τ (.o (kA rl j))=some k∧mK τ σ' rl bor k k')
 | [],_,p,hp=>by cases hp
 |(.t s,.v X')::r,h,p,hp=>by
  rcases aVm.1 hp with rfl|hp
  · exact⟨(fun s' X'' e=>by cases e;exact h.1),(fun j k' e=>by cases e)⟩
  · exact aA8 h.2 p hp
 |(.o j,k')::r,h,p,hp=>by
  have h': (∃k,aU τ (.o (kA rl j))=some k∧mK τ σ' rl bor k k')∧mL τ σ' rl bor r:=by cases k'<;>exact h
  rcases aVm.1 hp with rfl|hp
  · exact⟨(fun s' X'' e=>by cases e),(fun j k' e=>by cases e;exact h'.1)⟩
  · exact aA8 h'.2 p hp
 |(.t s,.box ..)::r,h,p,hp=>h.elim
 |(.t s,.row ..)::r,h,p,hp=>h.elim
 |(.t s,.dead)::r,h,p,hp=>h.elim
 |(.t s,.cv ..)::r,h,p,hp=>h.elim
 |(.t s,.zone ..)::r,h,p,hp=>h.elim
theorem aRp: ∀{L:List (dF×K)},mL τ σ' rl bor L→ ∀s k,(dF.t s,k)∈L→ ∃X',k= .v X'
 | [],_,s,k,hp=>by cases hp
 |(.t s,.v X')::r,h,s',k,hp=>by
  rcases aVm.1 hp with e|hp
  · cases e;exact⟨_,rfl⟩
  · exact aRp h.2 s' k hp
 |(.o j,k')::r,h,s',k,hp=>by
  have h': (∃k,aU τ (.o (kA rl j))=some k∧mK τ σ' rl bor k k')∧mL τ σ' rl bor r:=by cases k'<;>exact h
  rcases aVm.1 hp with e|hp
  · cases e
  · exact aRp h'.2 s' k hp
 |(.t s,.box ..)::r,h,s',k,hp=>h.elim
 |(.t s,.row ..)::r,h,s',k,hp=>h.elim
 |(.t s,.dead)::r,h,s',k,hp=>h.elim
 |(.t s,.cv ..)::r,h,s',k,hp=>h.elim
 |(.t s,.zone ..)::r,h,s',k,hp=>h.elim
def pR (σ:St) (ι:Nat→Value) (bor:List Nat) (S:Nat→Prop) (b:Nat):Prop:=S b∨ ∃o∈bor,kR σ ι o b
theorem ze {e es:Nat} {rows:List (List D)} {p:Value} {S':Nat→Prop} (h:OR σ ι w S p (.row e es rows)) (hS: ∀b,S b→S' b) (hb: ∀b,xT p b→S' b):DR w S' (.sl rows) p:=by
 rcases h with⟨rfl,rfl⟩|⟨g,off,cap,cur,fz,rfl,hh,hfz,hc1,hc2,hc3,hrows⟩
 · exact .sl [] none 0 0 ⟨0,0,none⟩ (fun _ _=>undef) (by simp) (by simp[maxLen]) (by simp) (by simp) (by simp) (by simp)
 · refine .sl rows _ cap es ⟨g,off,none⟩ (fun i k=>(cur[off+i*es+k]?).getD undef) hc1 hc2 (fun r hr=> ?_) (fun _=>rfl) (fun i r k d hi hk=> ?_) (fun i r k d hi hk=> ?_)
   · obtain⟨i,hi⟩:=aVp.1 hr
     exact(hrows i r hi).1
   · obtain⟨u,hu,hdr⟩:=(hrows i r hi).2 k d hk
     refine⟨hb g rfl,?_⟩
     rw[lF,cell_of_row w g _ cur e fz hh,← Nat.add_assoc,hu];rfl
   · obtain⟨u,hu,hdr⟩:=(hrows i r hi).2 k d hk
     rw[hu];exact DR.mono hS (fun _ _=>rfl) hdr
theorem rx (hv:VR σ ι ν S w) (hsub: ∀l k,aU τ l=some k→aU σ l=some k) (hids: ∀j k',aU σ' (.o j)=some k'→ ∃k,aU τ (.o (kA rl j))=some k∧mK τ σ' rl bor k k') {c c':C} {v:Value} (hm:mC τ σ' rl bor c c') (h:CR σ ι w S c v):
 CR σ' (fun j=>ι (kA rl j)) w (pR σ ι bor S) c' v:=by
 cases c<;>cases c'<;>simp only[mC] at hm
 case d.d x y=>subst hm;exact DR.mono (fun b hb=> .inl hb) (fun _ _=>rfl) h
 case nil.nil=>exact h
 case nil.d y=>
  subst hm
  have h:v= .slice none 0 0:=h
  subst h
  exact .sl [] none 0 0 ⟨0,0,none⟩ (fun _ _=>undef) (by simp) (by simp[maxLen]) (by simp) (by simp) (by simp) (by simp)
 case own.d o n y=>
  obtain⟨hb,e,es,rows,hl,hn,rfl⟩:=hm
  have hl:=hsub _ _ hl
  obtain⟨_,h2⟩:=h
  rcases h2 with⟨e2,es2,rows2,hl2,hnn,hv2⟩|hd
  · rw[hl] at hl2;cases hl2
    rw[hv2 hn]
    exact ze (hv.objs o _ hl) (fun b hb=> .inl hb) (fun b hb2=> .inr ⟨o,hb,⟨_,hl,trivial⟩,hb2⟩)
  · rw[hl] at hd;cases hd
 case own.own o n j m=>
  obtain⟨rfl,rfl,e,es,rows,hl'⟩:=hm
  obtain⟨k,hk,hmk⟩:=hids j _ hl'
  obtain⟨h1,h2⟩:=h
  refine⟨h1,.inl ⟨e,es,rows,hl',?_⟩⟩
  cases k<;>simp only[mK] at hmk
  obtain⟨rfl,rfl,rfl⟩:=hmk
  have hl:=hsub _ _ hk
  rcases h2 with⟨e2,es2,rows2,hl2,hnn,hv2⟩|hd
  · rw[hl] at hl2;cases hl2;exact⟨hnn,hv2⟩
  · rw[hl] at hd;cases hd
 case pt.pt o k j m=>
  obtain⟨rfl,rfl,ty,cs,hl'⟩:=hm
  obtain⟨kk,hk,hmk⟩:=hids j _ hl'
  obtain⟨h1,h2⟩:=h
  refine⟨h1,.inl ⟨ty,cs,hl',?_⟩⟩
  cases kk<;>simp only[mK] at hmk
  have hl:=hsub _ _ hk
  rcases h2 with⟨ty2,cs2,hl2,b,hi,hvv⟩|hd
  · exact⟨b,hi,hvv⟩
  · rw[hl] at hd;cases hd
 case nil.z j Q'=>
  obtain⟨hQ,Z',hl'⟩:=hm
  have h:v= .slice none 0 0:=h
  exact⟨by rw[h];rfl,.inl ⟨Z',hl',fun p _=>by rw[h];exact hQ p⟩⟩
 case z.z o Q j Q'=>
  obtain⟨rfl,hQ,Z',hl'⟩:=hm
  obtain⟨kk,hk,hmk⟩:=hids j _ hl'
  obtain⟨h1,h2⟩:=h
  refine⟨h1,.inl ⟨Z',hl',fun p hp=> ?_⟩⟩
  cases kk<;>simp only[mK] at hmk
  have hl:=hsub _ _ hk
  rcases h2 with⟨Z2,hl2,hq⟩|hd
  · rw[hl] at hl2;cases hl2
    exact hQ _ _ (hq p (by rw[← hmk.1];exact hp))
  · rw[hl] at hd;cases hd
 case rp.rp cs cs'=>
  subst hm
  obtain⟨ad,hv',hk⟩:=h
  exact⟨ad,hv',fun k d hd=>by
   obtain⟨q1,u,q2,q3⟩:=hk k d hd
   exact⟨.inl q1,u,q2,DR.mono (fun b hb=> .inl hb) (fun _ _=>rfl) q3⟩⟩
theorem aA9: ∀{cs ds:List C},xe τ σ' rl bor cs ds→ds.length=cs.length∧ ∀(k:Nat) d,ds[k]? =some d→ ∃c,cs[k]? =some c∧mC τ σ' rl bor c d
 | [],[],_=>⟨rfl,by simp⟩
 |c::cs,d::ds,h=>by
  obtain⟨q1,q2⟩:=aA9 h.2
  refine⟨by simp[q1],fun k d' hk=> ?_⟩
  cases k with
  |zero=>simp at hk;subst hk;exact⟨c,rfl,h.1⟩
  |succ k=>simpa using q2 k d' (by simpa using hk)
 | [],_::_,h=>h.elim
 |_::_,[],h=>h.elim
theorem aDd (hv:VR σ ι ν S w) (hsub: ∀l k,aU τ l=some k→aU σ l=some k) (hids: ∀j k',aU σ' (.o j)=some k'→ ∃k,aU τ (.o (kA rl j))=some k∧mK τ σ' rl bor k k') {c c':E} {v:Value} (hm:mE τ σ' rl bor c c') (h:ER σ ι w S c v):
 ER σ' (fun j=>ι (kA rl j)) w (pR σ ι bor S) c' v:=by
 cases c<;>cases c'<;>simp only[mE] at hm
 · exact rx hv hsub hids hm h
 · obtain⟨vs,hvv,hl,hk⟩:=h
   obtain⟨q1,q2⟩:=aA9 hm
   exact⟨vs,hvv,by rw[hl,q1],fun k d u hd hu=>by
    obtain⟨c,hc,hmc⟩:=q2 k d hd
    exact rx hv hsub hids hmc (hk k c u hc hu)⟩
theorem aIv: ∀{cs ds:List E},mEs τ σ' rl bor cs ds→ds.length=cs.length∧ ∀(k:Nat) d,ds[k]? =some d→ ∃c,cs[k]? =some c∧mE τ σ' rl bor c d
 | [],[],_=>⟨rfl,by simp⟩
 |c::cs,d::ds,h=>by
  obtain⟨q1,q2⟩:=aIv h.2
  refine⟨by simp[q1],fun k d' hk=> ?_⟩
  cases k with
  |zero=>simp at hk;subst hk;exact⟨c,rfl,h.1⟩
  |succ k=>simpa using q2 k d' (by simpa using hk)
 | [],_::_,h=>h.elim
 |_::_,[],h=>h.elim
theorem aMk (hv:VR σ ι ν S w) (hsub: ∀l k,aU τ l=some k→aU σ l=some k) (hids: ∀j k',aU σ' (.o j)=some k'→ ∃k,aU τ (.o (kA rl j))=some k∧mK τ σ' rl bor k k') {c c':V} {v:Value} (hm:mV τ σ' rl bor c c') (h:lR σ ι w S c v):
 lR σ' (fun j=>ι (kA rl j)) w (pR σ ι bor S) c' v:=by
 cases c<;>cases c'<;>simp only[mV] at hm
 · exact aDd hv hsub hids hm h
 · obtain⟨vs,hvv,hl,hk⟩:=h
   obtain⟨q1,q2⟩:=aIv hm
   exact⟨vs,hvv,by rw[hl,q1],fun k d u hd hu=>by
    obtain⟨c,hc,hmc⟩:=q2 k d hd
    exact aDd hv hsub hids hmc (hk k c u hc hu)⟩
theorem aIw {k k':K} (h:mK τ σ' rl bor k k'):k.live∧k'.live:=by cases k<;>cases k'<;>simp_all[mK,K.live]
theorem aBa {p q:Value} {k k1 k':K} (h:nA p q k k1) (hm:mK τ σ' rl bor k1 k'):nA p q k k':=by
 cases k1<;>cases k'<;>simp only[mK] at hm
 · cases k<;>simp_all[nA]
 · obtain⟨rfl,rfl,rfl⟩:=hm;exact h
 · cases k<;>simp only[nA] at h ⊢
   exact⟨hm.1.trans h.1,h.2⟩
theorem aRq {p q:Value} {k k1 k':K} (hm:mK τ σ' rl bor k k1) (h:nA p q k1 k'):nA p q k k':=by
 cases k<;>cases k1<;>simp only[mK] at hm
 · cases k'<;>simp_all[nA]
 · obtain⟨rfl,rfl,rfl⟩:=hm;exact h
 · cases k'<;>simp only[nA] at h ⊢
   exact⟨h.1.trans hm.1,by rw[← hm.1];exact h.2⟩
theorem oJ.ids (h:oJ τ σ' rl bor): ∀j k',aU σ' (.o j)=some k'→ ∃k,aU τ (.o (kA rl j))=some k∧mK τ σ' rl bor k k':=fun j k' hl=>(aA8 h.1 _ (uN hl)).2 j k' rfl
theorem oJ.inj (h:oJ τ σ' rl bor) {i j:Nat} (hi:i∈cA σ') (hj:j∈cA σ') (he:kA rl i=kA rl j):i=j:=by
 have:=h.2
 simp only[zQ,aU7] at this
 exact fp this.1.1 i hi j hj he
theorem oJ.giv (h:oJ τ σ' rl bor) {o j:Nat} (ho:o∈bor) (hj:j∈cA σ'):kA rl j≠o:=by
 have:=h.2
 simp only[zQ,aU7] at this
 intro e
 exact sM this.2 o ho (by rw[← e];exact aVj.2 ⟨j,hj,rfl⟩)
theorem oJ.mut (h:oJ τ σ' rl bor) (hsub: ∀l k,aU τ l=some k→aU σ l=some k) {j b:Nat} (hm:kR σ' (fun j=>ι (kA rl j)) j b):kR σ ι (kA rl j) b:=by
 obtain⟨⟨k',hk',hl⟩,hb⟩:=hm
 obtain⟨k,hk,hmk⟩:=h.ids j k' hk'
 exact⟨⟨k,hsub _ _ hk,(aIw hmk).1⟩,hb⟩
theorem uP (h:oJ τ σ' rl bor) (hsub: ∀l k,aU τ l=some k→aU σ l=some k) (hv:VR σ ι ν S w):VR σ' (fun j=>ι (kA rl j)) ν (pR σ ι bor S) w:=by
 refine⟨fun s X' hs=> ?_,fun j k' hj=> ?_,fun j b hm hS=> ?_,fun j j' b hm hm'=> ?_,fun b hb=> ?_⟩
 · obtain⟨X',rfl⟩:=aRp h.1 s _ (uN hs)
   obtain⟨X,hX,hmv⟩:=(aA8 h.1 _ (uN hs)).1 s X' rfl
   exact aMk hv hsub h.ids hmv (hv.slots s _ (hsub _ _ hX))
 · obtain⟨k,hk,hmk⟩:=h.ids j k' hj
   have hor:=hv.objs _ k (hsub _ _ hk)
   cases k<;>cases k'<;>simp only[mK] at hmk
   · obtain⟨rfl,hcs⟩:=hmk
     obtain⟨b,vs,hi,hh,hsz,hc⟩:=hor
     obtain⟨q1,q2⟩:=aA9 hcs
     exact⟨b,vs,hi,hh,by rw[hsz,q1],fun k d u hd hu=>by
      obtain⟨c,hcc,hmc⟩:=q2 k d hd
      exact rx hv hsub h.ids hmc (hc k c u hcc hu)⟩
   · obtain⟨rfl,rfl,rfl⟩:=hmk
     rcases hor with hn|⟨g,off,cap,cur,fz,hp,hh,hfz,h1,h2,h3,h4⟩
     · exact .inl hn
     · exact .inr ⟨g,off,cap,cur,fz,hp,hh,hfz,h1,h2,h3,fun i r hr=>⟨(h4 i r hr).1,fun k d hd=>by
        obtain⟨u,hu,hdr⟩:=(h4 i r hr).2 k d hd
        exact⟨u,hu,DR.mono (fun b hb=> .inl hb) (fun _ _=>rfl) hdr⟩⟩⟩
   · rename_i Z Z'
     exact hmk.2 _ _ _ (Z.mono (fun b hb=> .inl hb) (fun _ _=>rfl) (fun _ _=>rfl) hor)
 · have hm1:=h.mut hsub hm
   rcases hS with hS|⟨o,ho,hmo⟩
   · exact hv.mutS _ b hm1 hS
   · obtain⟨⟨k',hk',_⟩,_⟩:=hm
     exact h.giv ho (fG hk') (hv.inj _ _ b hm1 hmo)
 · have h1:=h.mut hsub hm
   have h2:=h.mut hsub hm'
   obtain⟨⟨k',hk',_⟩,_⟩:=hm
   obtain⟨⟨k'',hk'',_⟩,_⟩:=hm'
   exact h.inj (fG hk') (fG hk'') (hv.inj _ _ b h1 h2)
 · rcases hb with hb|⟨o,ho,⟨k,hk,hl⟩,hb⟩
   · exact hv.sz b hb
   · exact OR.lt (hv.objs o k hk) hl hb
end
def yE (io:List Nat) (σ':St) (rl:List (Nat×Nat)) (bor:List Nat):Bool:=io.all fun o=>Nat.beq (kA rl o) o&&iU o (cA σ')&& !iU o bor
theorem SW.weaken {P:Program} {io:List Nat} {c:Code} {Q:Ex→St→Prop} {σ:St} (σ':St) (rl:List (Nat×Nat)) (bor:List Nat) (hm:oJ σ σ' rl bor) (hk:yE io σ' rl bor=true) (h:SW P io c Q σ'):SW P io c Q σ:=fun cx ι S a w hio hw hf=>by
 refine h cx (fun j=>ι (kA rl j)) (pR σ ι bor S) a w hio ?_ hf
 have hkk: ∀o k,cx.kio o=some k→kA rl o=o∧o∈cA σ'∧o∉bor:=fun o k ho=>by
  have:=aVi.1 hk o (hio o k ho)
  simp only[aU7,Bool.not_eq_true'] at this
  refine⟨Nat.eq_of_beq_eq_true this.1.1,gS.1 this.1.2,fun hb=> ?_⟩
  rw[gS.2 hb] at this;cases this.2
 have hvr:=uP hm (fun _ _ h=>h) hw.vr
 refine⟨hvr,hw.size,hw.defers,hw.fr,fun j b hmu=> ?_,fun b hb=> ?_,fun o k ho=> ?_⟩
 · exact hw.own _ b (hm.mut (fun _ _ h=>h) hmu)
 · rcases hb with hb|⟨o,ho,hmo⟩
   · exact hw.rd b hb
   · exact .inr (hw.own o b hmo)
 · obtain⟨q1,q2,q3⟩:=hkk o k ho
   obtain⟨k1,hk1,hev⟩:=hw.io o k ho
   obtain⟨p,hp⟩:=pQ q2
   obtain⟨k2,hk2,hmk⟩:=hm.ids o p hp
   rw[q1] at hk2
   rw[hk1] at hk2;cases hk2
   refine⟨p,hp,?_⟩
   rw[q1]
   exact aBa hev hmk
set_option linter.unusedSimpArgs false
def fq (P:Program) (f:FuncId):Prop:= ∃fn,P.funcs[f]? =some fn∧fn.body.isNone=false∧(fn.name== "runtime.NumGoroutine")=false
structure aMl (σin:St) (ι:Nat→Value) (S:Nat→Prop) (w:World) (σout:St) (ι':Nat→Value) (S':Nat→Prop) (w':World) (v:Value):Prop where
 fr:Fr (fun b=> ∃o,kR σin ι o b) w w'
 vr:VR σout ι' (fun _=>v) S' w'
 rd: ∀b,S' b→S b∨w.heap.size≤b∨ ∃o,kR σin ι o b
 own: ∀o b,kR σout ι' o b→w.heap.size≤b∨ ∃o,kR σin ι o b
 io: ∀o k k',aU σin (.o o)=some k→aU σout (.o o)=some k'→nA (ι o) (ι' o) k k'
def Spec (P:Program) (f:FuncId) (n:Nat) (σin σout:St):Prop:=
 fq P f∧ ∀(ι ν:Nat→Value) (S:Nat→Prop) (w:World) (args:Array Value),(GB P w fun b=> ∃o,kR σin ι o b)→VR σin ι ν S w→args.size=n→(∀i,i<n→args[i]? =some (ν i))→
  Calls P f args w fun e w'=> ∃v ι' S',e= .returned v∧aMl σin ι S w σout ι' S' w' v
def aOn (T:gQ) (s:St):ResultVar→Option E
 | .tmp t=>match aU s (.t t) with
  |some (.v (.e x))=>some x
  |_=>none
 | .cell p ty=>match aU s (.t p),T ty with
  |some (.v (.e (.c (.pt ob 0)))),some ti=>match aU s (.o ob) with
   |some (.box _ cs)=>if ti.kind.agg&&(cs.length==ti.size) then some (.agg cs) else none
   |_=>none
  |_,_=>none
def aDe (T:gQ) (s:St):List ResultVar→Option (List E)
 | []=>some []
 |r::rs=>match aOn T s r,aDe T s rs with
  |some x,some xs=>some (x::xs)
  |_,_=>none
def aGc (T:gQ) (s:St) (rs:List ResultVar):Option V:=
 match aDe T s rs with
 |some [x]=>some (.e x)
 |some xs=>some (.tup xs)
 |none=>none
def dY:St→St
 | []=>[]
 |(.o n,k)::r=>(.o n,k)::dY r
 |_::r=>dY r
theorem pS (s:St) (o:Nat):aU (dY s) (.o o)=aU s (.o o):=by
 induction s with
 |nil=>rfl
 |cons p r ih=>
  obtain⟨l,k⟩:=p
  cases l with
  |t n=>simp only[dY,aU];rw[ih,if_neg (by simp)]
  |o n=>simp only[dY,aU];rw[ih]
theorem aGd {P:Program} {T:gQ} (hT:dR P T) {cx:Cx P} {s:St} {ι:Nat→Value} {S:Nat→Prop} {a:Act} {w:World} (hw:RW cx s ι S a w) {r:ResultVar} {x:E} (h:aOn T s r=some x):
 ∃v,(match r with| .tmp t=>pure (a.tmps.getD t undef)| .cell p ty=>do loadVar ty (← asAddr (a.tmps.getD p undef)):Sem Value).run P w= .ok v w∧ER s ι w S x v:=by
 cases r with
 |tmp t=>
  simp only[aOn] at h
  split at h<;>try(cases h;done)
  rename_i x' hl
  cases h
  exact⟨_,rfl,hw.vr.slots t _ hl⟩
 |cell p ty=>
  simp only[aOn] at h
  split at h<;>try(cases h;done)
  rename_i ob ti hl hti
  split at h<;>try(cases h;done)
  rename_i ty' cs hbox
  split at h<;>try(cases h;done)
  rename_i hc
  cases h
  simp only[aU7,beq_iff_eq] at hc
  obtain⟨hag,hlen⟩:=hc
  obtain⟨_,h2⟩:=(show CR s ι w S (.pt ob 0) (iJ a p) from hw.vr.slots p _ hl)
  rcases h2 with⟨ty2,cs2,hl2,b,hi,hv⟩|hd
  · rw[hbox] at hl2;cases hl2
    obtain⟨b',vs,hi',hh,hsz,hcr⟩:=hw.vr.objs ob _ hbox
    rw[hi] at hi';cases hi'
    have hv':a.tmps.getD p undef= .pointer (some ⟨b,0,none⟩):=hv
    have hload:=mA (w:=w) (hT ty ti hti) hag ⟨b,0,none⟩ vs.toList (by rw[Array.length_toList,hsz,hlen]) (fun j v hj=>by
     rw[lF,Nat.zero_add,cell_of_row w b j vs _ (0,0) hh];simpa using hj)
    refine⟨.agg vs.toList.toArray,?_,vs.toList,rfl,by rw[Array.length_toList,hsz],fun k c u h1 h2=>hcr k c u h1 (by simpa using h2)⟩
    simp only[hv',Sem.run_bind,asAddr,Sem.run_pure,Result.andThen_ok]
    exact hload
  · rw[hbox] at hd;cases hd
theorem oj {P:Program} {T:gQ} (hT:dR P T) {cx:Cx P} {s:St} {ι:Nat→Value} {S:Nat→Prop} {a:Act} {w:World} (hw:RW cx s ι S a w): ∀{rs:List ResultVar} {xs:List E},aDe T s rs=some xs→
 ∃vs:List Value,(rs.mapM fun r=>(match r with| .tmp t=>pure (a.tmps.getD t undef)| .cell p ty=>do loadVar ty (← asAddr (a.tmps.getD p undef)):Sem Value)).run P w= .ok vs w∧vs.length=xs.length∧ ∀(k:Nat) x u,xs[k]? =some x→vs[k]? =some u→ER s ι w S x u
 | [],xs,h=>by cases h;exact⟨[],rfl,rfl,by simp⟩
 |r::rs,xs,h=>by
  simp only[aDe] at h
  split at h<;>try(cases h;done)
  rename_i x ys h1 h2
  cases h
  obtain⟨v,hv,hx⟩:=aGd hT hw h1
  obtain⟨vs,hvs,hl,hk⟩:=oj hT hw h2
  refine⟨v::vs,?_,by simp[hl],fun k y u hy hu=> ?_⟩
  · rw[List.mapM_cons,Sem.run_bind,hv,Result.andThen_ok,Sem.run_bind,hvs];rfl
  · cases k with
    |zero=>simp at hy hu;subst hy;subst hu;exact hx
    |succ k=>exact hk k y u (by simpa using hy) (by simpa using hu)
theorem ry {P:Program} {T:gQ} (hT:dR P T) {cx:Cx P} {s:St} {ι:Nat→Value} {S:Nat→Prop} {a:Act} {w:World} (hw:RW cx s ι S a w) {fn:Func} {X:V} (h:aGc T s fn.results.toList=some X):
 ∃v,(results fn a.tmps).run P w= .ok v w∧lR s ι w S X v:=by
 have key: ∀{xs:List E},aDe T s fn.results.toList=some xs→ ∃vs:List Value,(results fn a.tmps).run P w= .ok (if h:vs.toArray.size=1 then vs.toArray[0] else .tuple vs.toArray) w∧vs.length=xs.length∧ ∀(k:Nat) x u,xs[k]? =some x→vs[k]? =some u→ER s ι w S x u:=by
  intro xs hx
  obtain⟨vs,hvs,hl,hk⟩:=oj hT hw hx
  refine⟨vs,?_,hl,hk⟩
  unfold results
  have e:fn.results=fn.results.toList.toArray:=by simp
  rw[e,List.mapM_toArray,Sem.run_bind,Sem.run_map]
  exact(congrArg (fun r:Result (List Value)=>(r.andThen fun a w'=>Result.ok a.toArray w').andThen fun a w'=>Sem.run P (pure (if h:a.size=1 then a[0] else Value.tuple a)) w') hvs).trans rfl
 unfold aGc at h
 split at h
 · rename_i x hx
   cases h
   obtain⟨vs,hr,hl,hk⟩:=key hx
   match vs,hl with
   | [v],_=>exact⟨v,hr,hk 0 x v rfl rfl⟩
 · rename_i xs hne hx
   cases h
   obtain⟨vs,hr,hl,hk⟩:=key hx
   have h1: ¬vs.toArray.size=1:=by
    intro h1
    have h1:xs.length=1:=by rw[← hl];simpa using h1
    match xs,h1 with
    | [x],_=>exact hne x rfl
   rw[dif_neg h1] at hr
   exact⟨_,hr,vs,rfl,hl,hk⟩
 · cases h
def rZ (n:Nat):St→Bool
 | []=>true
 |(.t s,_)::r=>decide (s<n)&&rZ n r
 |_::r=>rZ n r
theorem tM {n:Nat}: ∀{σ:St},rZ n σ=true→ ∀s k,aU σ (.t s)=some k→s<n
 | [],_,s,k,h=>by cases h
 |(.t t,x)::r,h,s,k,hl=>by
  simp only[rZ,aU7,decide_eq_true_eq] at h
  simp only[aU] at hl
  split at hl
  · rename_i e;cases e;exact h.1
  · exact tM h.2 s k hl
 |(.o t,x)::r,h,s,k,hl=>by
  simp only[aU] at hl
  rw[if_neg (by simp)] at hl
  exact tM (σ:=r) h s k hl
def sa (io:List Nat) (σout:St) (rl:List (Nat×Nat)) (bor:List Nat):Bool:=
 io.all fun o=> !iU o (cA σout)||Nat.beq (kA rl o) o
def zR (T:gQ) (io:List Nat) (rs:List ResultVar) (σout:St) (s:St):Prop:=
 ∃X rl bor,aGc T s rs=some X∧oJ ((.t 0,.v X)::dY s) σout rl bor∧sa io σout rl bor=true
def aQf (T:gQ) (io:List Nat) (rs:List ResultVar) (σout:St):Ex→St→Prop
 | .norm,s=>zR T io rs σout s
 | .ret,s=>zR T io rs σout s
 | .exit _,_=>False
theorem aBb {P:Program} {T:gQ} (hT:dR P T) {f:FuncId} {fn:Func} {c:Code} {n:Nat} {σin σout:St} (hf:P.funcs[f]? =some fn) (hb:fn.body=some c) (hname: (fn.name== "runtime.NumGoroutine")=false) (hn:n≤fn.ntmps) (hfit:sX fn.ntmps c=true)
 (hsl:rZ n σin=true) (h:SW P ((cA σin).filter fun o=>iU o (cA σout)) c (aQf T ((cA σin).filter fun o=>iU o (cA σout)) fn.results.toList σout) σin):Spec P f n σin σout:=by
 refine⟨⟨fn,hf,by rw[hb];rfl,hname⟩,fun ι ν S w args hgb hvr hsz hargs=> ?_⟩
 have hnu: ∀s,s<n→(args++Array.replicate (fn.ntmps - args.size) undef).getD s undef=ν s:=by
  intro s hs
  rw[Array.getD_eq_getD_getElem?,Array.getElem?_append_left (by omega),hargs s hs];rfl
 let cx:Cx P:={N:=fn.ntmps,w0:=w,S0:=S,k0:=fun o=>aU σin (.o o),kio:=fun o=>if iU o (cA σout) then aU σin (.o o) else none,ι0:=ι,gb:=hgb.weak fun b ⟨o,k,q1,q2,q3⟩=>⟨o,⟨k,q1,q2⟩,q3⟩}
 have hM: ∀b,cx.M b↔ ∃o,kR σin ι o b:=fun b=>⟨fun⟨o,k,q1,q2,q3⟩=>⟨o,⟨k,q1,q2⟩,q3⟩,fun⟨o,⟨k,q1,q2⟩,q3⟩=>⟨o,k,q1,q2,q3⟩⟩
 have hkio: ∀{o:Nat} {k:K},(if iU o (cA σout) then aU σin (.o o) else none)=some k→aU σin (.o o)=some k:=fun{o k} h=>by
  by_cases hm:iU o (cA σout)=true
  · rw[if_pos hm] at h;exact h
  · rw[if_neg hm] at h;cases h
 have hkm: ∀{o:Nat} {k:K},(if iU o (cA σout) then aU σin (.o o) else none)=some k→o∈(cA σin).filter fun o=>iU o (cA σout):=fun{o k} h=>by
  by_cases hm:iU o (cA σout)=true
  · exact List.mem_filter.2 ⟨fG (hkio h),hm⟩
  · rw[if_neg hm] at h;cases h
 have hw:RW cx σin ι S {tmps:=args++Array.replicate (fn.ntmps - args.size) undef,defers:=[]} w:=by
  refine⟨⟨fun s x hx=> ?_,hvr.objs,hvr.mutS,hvr.inj,hvr.sz⟩,?_,rfl,Fr.refl _ _,fun o b ⟨⟨k,q1,q2⟩,q3⟩=> .inr ⟨o,k,q1,q2,q3⟩,fun b hb=> .inl hb,fun o k hk=>⟨k,hkio hk,nA.refl' _ _⟩⟩
  · have hs:=tM hsl s _ hx
    have:iJ {tmps:=args++Array.replicate (fn.ntmps - args.size) undef,defers:=[]} s=ν s:=hnu s hs
    rw[this];exact hvr.slots s x hx
  · show(args++Array.replicate (fn.ntmps - args.size) undef).size=fn.ntmps
    simp;omega
 refine calls_of_wp hf hb (wp_mono (h cx ι S _ w (fun o k hk=>hkm hk) hw hfit) fun e a' w' hq=> ?_)
 have fin: (∃σ' ι' S',zR T ((cA σin).filter fun o=>iU o (cA σout)) fn.results.toList σout σ'∧RW cx σ' ι' S' a' w')→a'.defers=[]∧ ∃v,(results fn a'.tmps).run P w'= .ok v w'∧ ∃v_1 ι' S',Ending.returned v= .returned v_1∧aMl σin ι S w σout ι' S' w' v_1:=by
  rintro⟨σ',ι',S',⟨X,rl,bor,hX,hm,hio⟩,hw'⟩
  obtain⟨v,hr,hv⟩:=ry hT hw' hX
  refine⟨hw'.defers,v,hr,v,fun j=>ι' (kA rl j),pR σ' ι' bor S',rfl,?_⟩
  have hlo: ∀o,aU ((dF.t 0,K.v X)::dY σ') (.o o)=aU σ' (.o o):=fun o=>by simp only[aU];rw[if_neg (by simp),pS]
  have st:qT σ' ι' S' w' ((dF.t 0,K.v X)::dY σ') ι' S' w':=⟨fun _ h=>h,fun _ _=>rfl,fun o k hk=>⟨k,by rw[hlo];exact hk,nA.refl' _ _⟩⟩
  have hmut: ∀o b,kR ((dF.t 0,K.v X)::dY σ') ι' o b↔kR σ' ι' o b:=fun o b=>by unfold kR;rw[hlo]
  have hlt: ∀(r:St) s k,aU (dY r) (.t s)=some k→False:=by
   intro r s k
   induction r with
   |nil=>intro h;cases h
   |cons p r ih=>
    obtain⟨l,k'⟩:=p
    cases l with
    |t n=>exact ih
    |o n=>simp only[dY,aU];rw[if_neg (by simp)];exact ih
  have hvr0:VR ((dF.t 0,K.v X)::dY σ') ι' (fun _=>v) S' w':=by
   refine⟨fun s x hx=> ?_,fun o k hk=>OR.step st (fun _ _=>rfl) (hw'.vr.objs o k (by rw[← hlo];exact hk)),fun o b q=>hw'.vr.mutS o b ((hmut o b).1 q),fun o o' b q q'=>hw'.vr.inj o o' b ((hmut o b).1 q) ((hmut o' b).1 q'),hw'.vr.sz⟩
   simp only[aU] at hx
   split at hx
   · cases hx;exact lR.step st hv
   · exact(hlt σ' s _ hx).elim
  have hvr1:=uP hm (fun _ _ h=>h) hvr0
  have hio2: ∀o∈(cA σin).filter fun o=>iU o (cA σout),iU o (cA σout)=false∨Nat.beq (kA rl o) o=true:=by simpa only[sa,aVi,Bool.or_eq_true,Bool.not_eq_true'] using hio
  have hgive: ∀b,pR ((dF.t 0,K.v X)::dY σ') ι' bor S' b→pR σ' ι' bor S' b:=fun b hb=>hb.imp id fun⟨o,ho,q⟩=>⟨o,ho,(hmut o b).1 q⟩
  refine⟨⟨hw'.fr.os,hw'.fr.tape,hw'.fr.output,hw'.fr.size,fun b hb hnm=>hw'.fr.block b hb (fun h=>hnm ((hM b).1 h))⟩,?_,fun b hb=> ?_,fun j b hmu=> ?_,fun o k k' hk hk'=> ?_⟩
  · have e:pR ((dF.t 0,K.v X)::dY σ') ι' bor S'=pR σ' ι' bor S':=by
     funext b;apply propext;exact⟨hgive b,fun hb=>hb.imp id fun⟨o,ho,q⟩=>⟨o,ho,(hmut o b).2 q⟩⟩
    rw[← e];exact hvr1
  · rcases hb with hb|⟨o,ho,hmo⟩
    · exact(hw'.rd b hb).imp id fun h=>h.imp id fun h=>(hM b).1 h
    · exact .inr ((hw'.own o b hmo).imp id fun h=>(hM b).1 h)
  · exact(hw'.own _ b ((hmut _ b).1 (hm.mut (fun _ _ h=>h) hmu))).imp id fun h=>(hM b).1 h
  · have hren:kA rl o=o:=by
     rcases hio2 o (List.mem_filter.2 ⟨fG hk,gS.2 (fG hk')⟩) with h4|h4
     · rw[gS.2 (fG hk')] at h4;cases h4
     · exact Nat.eq_of_beq_eq_true h4
    obtain⟨k1,hk1,hev⟩:=hw'.io o k (show(if iU o (cA σout) then aU σin (.o o) else none)=some k by rw[if_pos (gS.2 (fG hk'))];exact hk)
    have hev:nA (ι o) (ι' o) k k1:=hev
    obtain⟨k2,hk2,hmk⟩:=hm.ids o k' hk'
    rw[hren,hlo,hk1] at hk2;cases hk2
    rw[hren]
    exact aBa hev hmk
 cases e with
 |normal=>
  obtain⟨σ',ι',S',h1,h2⟩:=hq
  exact fin ⟨σ',ι',S',h1,h2⟩
 |ret=>
  obtain⟨σ',ι',S',h1,h2⟩:=hq
  exact fin ⟨σ',ι',S',h1,h2⟩
 |exit id=>obtain⟨σ',ι',S',h1,h2⟩:=hq;exact h1.elim
 |goto l=>exact hq.elim
 |panic ch=>exact hq.elim
 |outgrown=>exact hq.elim
set_option linter.unusedSimpArgs false
def evA (σ:St):List Operand→Option (List V×List (dF×Option K))
 | []=>some ([],[])
 |x::r=>match ev σ x,evA σ r with
  |some (X,R),some (Xs,R')=>some (X::Xs,R++R')
  |_,_=>none
theorem uF {σ:St}: ∀{ps:List Operand} {Xs:List V} {R:List (dF×Option K)},evA σ ps=some (Xs,R)→bL R σ
 | [],Xs,R,h=>by cases h;exact bL.nil
 |x::r,Xs,R,h=>by
  simp only[evA] at h
  split at h<;>try(cases h;done)
  rename_i X R1 Ys R2 h1 h2
  cases h
  exact(cZ h1).append (uF h2)
theorem mb {σ0:St} {P:Program} {cx:Cx P} {σ:St} {ι:Nat→Value} {S:Nat→Prop} {a:Act} {w:World} (hw:RW cx σ ι S a w):
 ∀{ps:List Operand} {Xs:List V} {R:List (dF×Option K)},evA σ0 ps=some (Xs,R)→bL R σ→Xs.length=ps.length∧ ∀(i:Nat) X,Xs[i]? =some X→ ∃x,ps[i]? =some x∧lR σ ι w S X (a.eval x)
 | [],Xs,R,h,_=>by cases h;exact⟨rfl,by simp⟩
 |x::r,Xs,R,h,hr=>by
  simp only[evA] at h
  split at h<;>try(cases h;done)
  rename_i X R1 Ys R2 h1 h2
  cases h
  obtain⟨q1,q2⟩:=mb hw h2 hr.right
  refine⟨by simp[q1],fun i X' hi=> ?_⟩
  cases i with
  |zero=>simp at hi;subst hi;exact⟨x,rfl,dG h1 hr.left hw⟩
  |succ i=>simpa using q2 i X' (by simpa using hi)
def eS:Nat→List V→St
 |_,[]=>[]
 |i,X::r=>(.t i,.v X)::eS (i+1) r
theorem oX: ∀(i:Nat) (Xs:List V) (r:St) (s:Nat),i≤s→s<i+Xs.length→aU (eS i Xs++r) (.t s)=(Xs[s - i]?).map K.v
 |i,[],r,s,h1,h2=>by simp at h2;omega
 |i,X::Xs,r,s,h1,h2=>by
  simp only[eS,List.cons_append,aU]
  by_cases e:i=s
  · subst e;simp
  · rw[if_neg (by simpa using e),oX (i+1) Xs r s (by omega) (by simp at h2;omega)]
    rw[show s - i=(s - (i+1))+1 by omega,List.getElem?_cons_succ]
theorem kS: ∀(i:Nat) (Xs:List V) (r:St) (o:Nat),aU (eS i Xs++r) (.o o)=aU r (.o o)
 |i,[],r,o=>rfl
 |i,X::Xs,r,o=>by
  simp only[eS,List.cons_append,aU]
  rw[if_neg (by simp),kS (i+1) Xs r o]
theorem tN: ∀(i:Nat) (Xs:List V) (r:St) (s:Nat) (k:K),aU (eS i Xs++r) (.t s)=some k→(∃X,Xs[s - i]? =some X∧k= .v X∧i≤s∧s<i+Xs.length)∨aU r (.t s)=some k
 |i,[],r,s,k,h=> .inr h
 |i,X::Xs,r,s,k,h=>by
  simp only[eS,List.cons_append,aU] at h
  split at h
  · rename_i e;cases e;cases h;exact .inl ⟨X,by simp,rfl,aVf _,by simp⟩
  · rcases tN (i+1) Xs r s k h with⟨Y,h1,h2,h3,h4⟩|h
    · refine .inl ⟨Y,?_,h2,by omega,by simp;omega⟩
      rw[show s - i=(s - (i+1))+1 by omega,List.getElem?_cons_succ];exact h1
    · exact .inr h
def qX (l:List (Nat×K)):St:=l.map fun p=>(.o p.1,p.2)
def aGe (rl:List (Nat×Nat)):C→C
 | .own o n=> .own (kA rl o) n
 | .pt o k=> .pt (kA rl o) k
 | .pe o n i k=> .pe (kA rl o) n i k
 | .z o Q=> .z (kA rl o) Q
 |c=>c
def aJ1 (rl:List (Nat×Nat)):E→E
 | .c x=> .c (aGe rl x)
 | .agg cs=> .agg (cs.map (aGe rl))
def aGf (rl:List (Nat×Nat)):V→V
 | .e x=> .e (aJ1 rl x)
 | .tup xs=> .tup (xs.map (aJ1 rl))
def aBc (rl:List (Nat×Nat)):K→K
 | .v x=> .v (aGf rl x)
 | .box ty cs=> .box ty (cs.map (aGe rl))
 | .row e es rows=> .row e es rows
 | .dead=> .dead
 | .cv s want b x=> .cv s want b (aGf rl x)
 | .zone Z=> .zone Z
def vM (rl:List (Nat×Nat)):St→List (dF×K)
 | []=>[]
 |(.o j,k)::r=>(.o (kA rl j),aBc rl k)::vM rl r
 |_::r=>vM rl r
def oO (σin σout:St):List Nat:=(cA σin).filter fun j=> !iU j (cA σout)
def mT (σin σout:St):List Nat:=(cA σout).filter fun j=> !iU j (cA σin)
def yF (rl:List (Nat×Nat)) (σin σout:St):List (dF×K):=vM rl σout++(oO σin σout).map fun j=>(.o (kA rl j),.dead)
def xi (rl:List (Nat×Nat)) (σout:St):Option Tmp→List (dF×K)
 |some d=>[(.t d,match aU σout (.t 0) with|some (.v X)=> .v (aGf rl X)|_=> .dead)]
 |none=>[]
def ol (Ra:List (dF×Option K)) (robj:List (Nat×K)) (rl:List (Nat×Nat)) (σin σout:St):List (dF×Option K):=
 Ra++robj.map (fun p=>(.o p.1,some p.2))++(mT σin σout).map fun j=>(.o (kA rl j),none)
def tH (rl:List (Nat×Nat)) (σin σout:St) (d:Option Tmp):List (dF×K):=yF rl σin σout++xi rl σout d
def qp:D→Prop
 | .sl rows=>rows=[]
 |_=>True
def da:C→Prop
 | .d x=>qp x
 | .rp _=>False
 |_=>True
def im:E→Prop
 | .c x=>da x
 | .agg cs=> ∀c∈cs,da c
def ip:V→Prop
 | .e x=>im x
 | .tup xs=> ∀x∈xs,im x
def vN:K→Prop
 | .v x=>ip x
 | .box _ cs=> ∀c∈cs,da c
 | .row _ _ rows=> ∀r∈rows,∀d∈r,qp d
 | .dead=>True
 | .cv _ _ _ x=>ip x
 | .zone _=>False
def nB (σ:St):Prop:= ∀p∈σ,vN p.2
theorem DR.scalar {w w':World} {S S':Nat→Prop} {x:D} {v:Value} (hx:qp x) (h:DR w S x v):DR w' S' x v:=by
 cases h with
 |i n=>exact .i n
 |u n=>exact .u n
 |b n=>exact .b n
 |s n=>exact .s n
 |x v hv=>exact .x v hv
 |sl rows a cap es ad u hc hm he ha h1 hd=>
  have hx:rows=[]:=hx
  subst hx
  exact .sl [] a cap es ad u hc hm (by simp) (by simp) (by simp) (by simp)
theorem aMm {L:List (dF×K)} {l:dF} {k:K} (hn: (L.map (·.1)).Nodup) (h: (l,k)∈L):wr L l=some k:=by
 induction L with
 |nil=>cases h
 |cons p r ih=>
  simp only[List.map_cons,List.nodup_cons] at hn
  unfold wr
  rcases aVm.1 h with rfl|h
  · rw[xZ hn.1,if_pos rfl]
  · rw[ih hn.2 h]
theorem om: ∀{l:List Nat},uO l=true→l.Nodup
 | [],_=>List.nodup_nil
 |x::r,h=>by
  simp only[uO,aU7,Bool.not_eq_true'] at h
  exact List.nodup_cons.2 ⟨(fun hm=>by rw[gS.2 hm] at h;cases h.1),om h.2⟩
theorem yG (rl:List (Nat×Nat)): ∀(σ:St),(vM rl σ).map (·.1)=(cA σ).map fun j=>dF.o (kA rl j)
 | []=>rfl
 |(.o j,k)::r=>by simp[vM,cA,yG rl r]
 |(.t s,k)::r=>by simp[vM,cA,yG rl r]
theorem ar {rl:List (Nat×Nat)}: ∀{σ:St} {j:Nat} {k:K},(dF.o j,k)∈σ→(dF.o (kA rl j),aBc rl k)∈vM rl σ
 |(.o i,x)::r,j,k,h=>by
  rcases aVm.1 h with h|h
  · cases h;exact List.mem_cons_self ..
  · exact List.mem_cons_of_mem _ (ar h)
 |(.t s,x)::r,j,k,h=>by
  rcases aVm.1 h with h|h
  · cases h
  · exact ar (σ:=r) h
def kI (rl:List (Nat×Nat)) (σin σout:St):Bool:=uO ((cA σout++oO σin σout).map (kA rl))&&rZ 1 σout
section
variable {rl:List (Nat×Nat)} {σ σin σout:St}
theorem mc: (yF rl σin σout).map (·.1)=((cA σout++oO σin σout).map (kA rl)).map dF.o:=by
 simp[yF,yG,Function.comp_def]
theorem sc (h:kI rl σin σout=true): ((yF rl σin σout).map (·.1)).Nodup:=by
 simp only[kI,aU7] at h
 rw[mc]
 have:=om h.1
 rw[List.nodup_iff_pairwise_ne] at this ⊢
 exact List.Pairwise.map _ (fun a b hab e=>hab (by cases e;rfl)) this
theorem pT (h:kI rl σin σout=true) {j:Nat} {k:K} (hj:aU σout (.o j)=some k):aU (iL σ (yF rl σin σout)) (.o (kA rl j))=some (aBc rl k):=by
 rw[lG,aMm (sc h) (List.mem_append_left _ (ar (uN hj)))]
theorem aJ2 (h:kI rl σin σout=true) {j:Nat} (hj:j∈oO σin σout):aU (iL σ (yF rl σin σout)) (.o (kA rl j))=some .dead:=by
 rw[lG,aMm (sc h) (List.mem_append_right _ (aVj.2 ⟨j,hj,rfl⟩))]
theorem aGg {o:Nat} (ho: ∀j,j∈cA σout∨j∈oO σin σout→kA rl j≠o):aU (iL σ (yF rl σin σout)) (.o o)=aU σ (.o o):=by
 rw[lG,xZ]
 rw[mc]
 intro hm
 obtain⟨x,hx,e⟩:=aVj.1 hm
 cases e
 obtain⟨j,hj,rfl⟩:=aVj.1 hx
 exact ho j (List.mem_append.1 hj) rfl
theorem aJ3 (s:Nat):aU (iL σ (yF rl σin σout)) (.t s)=aU σ (.t s):=by
 rw[lG,xZ]
 rw[mc]
 intro hm
 obtain⟨x,hx,e⟩:=aVj.1 hm
 cases e
def oK (rl:List (Nat×Nat)) (σout:St) (ι' ι:Nat→Value) (o:Nat):Value:=
 match(cA σout).find? fun j=>kA rl j==o with
 |some j=>ι' j
 |none=>ι o
theorem xD (h:kI rl σin σout=true) {ι' ι:Nat→Value} {j:Nat} (hj:j∈cA σout):oK rl σout ι' ι (kA rl j)=ι' j:=by
 unfold oK
 cases hq: (cA σout).find? fun i=>kA rl i==kA rl j with
 |none=>
  have:=List.find?_eq_none.1 hq j hj
  simp at this
 |some i=>
  have h1:=List.find?_some hq
  have h2:=List.mem_of_find?_eq_some hq
  simp only[kI,aU7] at h
  have:=fp h.1 i (List.mem_append_left _ h2) j (List.mem_append_left _ hj) (by simpa using h1)
  rw[this]
theorem aDg {ι' ι:Nat→Value} {o:Nat} (ho: ∀j,j∈cA σout→kA rl j≠o):oK rl σout ι' ι o=ι o:=by
 unfold oK
 cases hq: (cA σout).find? fun i=>kA rl i==o with
 |none=>rfl
 |some i=>exact absurd (by simpa using List.find?_some hq) (ho i (List.mem_of_find?_eq_some hq))
theorem aGh (h:kI rl σin σout=true) {ι' ι:Nat→Value} {S' S'':Nat→Prop} {w':World} {c:C} {v:Value} (hS: (∀b,S' b→S'' b)∨da c) (hc:CR σout ι' w' S' c v):
 CR (iL σ (yF rl σin σout)) (oK rl σout ι' ι) w' S'' (aGe rl c) v:=by
 cases c with
 |d x=>
  rcases hS with hS|hS
  · exact DR.mono hS (fun _ _=>rfl) hc
  · exact DR.scalar hS hc
 |nil=>exact hc
 |own o n=>
  obtain⟨h1,h2⟩:=hc
  refine⟨h1,?_⟩
  rcases h2 with⟨e,es,rows,hl,hn,hv⟩|hl
  · exact .inl ⟨e,es,rows,pT h hl,hn,fun hh=>by rw[xD h (fG hl)];exact hv hh⟩
  · exact .inr (pT h hl)
 |pt o k=>
  obtain⟨h1,h2⟩:=hc
  refine⟨h1,?_⟩
  rcases h2 with⟨ty,cs,hl,b,hi,hv⟩|hl
  · exact .inl ⟨ty,_,pT h hl,b,by rw[xD h (fG hl)];exact hi,hv⟩
  · exact .inr (pT h hl)
 |pe o n i k=>
  obtain⟨h1,h2⟩:=hc
  refine⟨h1,?_⟩
  rcases h2 with⟨e,es,rows,hl,hn,hv⟩|hl
  · exact .inl ⟨e,es,rows,pT h hl,hn,fun hh=>by rw[xD h (fG hl)];exact hv hh⟩
  · exact .inr (pT h hl)
 |z o Q=>
  obtain⟨h1,h2⟩:=hc
  refine⟨h1,?_⟩
  rcases h2 with⟨Z,hl,hq⟩|hl
  · exact .inl ⟨Z,pT h hl,fun p hp=>hq p (by rw[xD h (fG hl)] at hp;exact hp)⟩
  · exact .inr (pT h hl)
 |rp cs=>
  rcases hS with hS|hS
  · obtain⟨ad,hv,hk⟩:=hc
    exact⟨ad,hv,fun k d hd=>by
     obtain⟨q1,u,q2,q3⟩:=hk k d hd
     exact⟨hS _ q1,u,q2,DR.mono hS (fun _ _=>rfl) q3⟩⟩
  · exact hS.elim
theorem aMn (h:kI rl σin σout=true) {ι' ι:Nat→Value} {S' S'':Nat→Prop} {w':World} {c:E} {v:Value} (hS: (∀b,S' b→S'' b)∨im c) (hc:ER σout ι' w' S' c v):
 ER (iL σ (yF rl σin σout)) (oK rl σout ι' ι) w' S'' (aJ1 rl c) v:=by
 cases c with
 |c x=>exact aGh h hS hc
 |agg cs=>
  obtain⟨vs,hv,hl,hk⟩:=hc
  refine⟨vs,hv,by simp[hl],fun k c u hc' hu=> ?_⟩
  rw[List.getElem?_map] at hc'
  cases hq:cs[k]? with
  |none=>rw[hq] at hc';cases hc'
  |some c0=>
   rw[hq] at hc';cases hc'
   exact aGh h (hS.imp id fun hs=>hs c0 (List.mem_of_getElem? hq)) (hk k c0 u hq hu)
theorem aIx (h:kI rl σin σout=true) {ι' ι:Nat→Value} {S' S'':Nat→Prop} {w':World} {c:V} {v:Value} (hS: (∀b,S' b→S'' b)∨ip c) (hc:lR σout ι' w' S' c v):
 lR (iL σ (yF rl σin σout)) (oK rl σout ι' ι) w' S'' (aGf rl c) v:=by
 cases c with
 |e x=>exact aMn h hS hc
 |tup cs=>
  obtain⟨vs,hv,hl,hk⟩:=hc
  refine⟨vs,hv,by simp[hl],fun k c u hc' hu=> ?_⟩
  rw[List.getElem?_map] at hc'
  cases hq:cs[k]? with
  |none=>rw[hq] at hc';cases hc'
  |some c0=>
   rw[hq] at hc';cases hc'
   exact aMn h (hS.imp id fun hs=>hs c0 (List.mem_of_getElem? hq)) (hk k c0 u hq hu)
theorem aRr (h:kI rl σin σout=true) {ι' ι:Nat→Value} {S' S'':Nat→Prop} {w':World} {k:K} {p:Value} (hS: (∀b,S' b→S'' b)∨vN k) (hc:OR σout ι' w' S' p k):
 OR (iL σ (yF rl σin σout)) (oK rl σout ι' ι) w' S'' p (aBc rl k):=by
 cases k with
 |v x=>trivial
 |dead=>trivial
 |cv _ _ _ _=>trivial
 |zone Z=>
  rcases hS with hS|hS
  · exact Z.mono hS (fun _ _=>rfl) (fun _ _=>rfl) hc
  · exact hS.elim
 |box ty cs=>
  obtain⟨b,vs,hp,hh,hsz,hk⟩:=hc
  refine⟨b,vs,hp,hh,by simp[hsz],fun k c u hc' hu=> ?_⟩
  rw[List.getElem?_map] at hc'
  cases hq:cs[k]? with
  |none=>rw[hq] at hc';cases hc'
  |some c0=>
   rw[hq] at hc';cases hc'
   exact aGh h (hS.imp id fun hs=>hs c0 (List.mem_of_getElem? hq)) (hk k c0 u hq hu)
 |row e es rows=>
  rcases hc with hn|⟨g,off,cap,cur,fz,hp,hh,hfz,h1,h2,h3,h4⟩
  · exact .inl hn
  · refine .inr ⟨g,off,cap,cur,fz,hp,hh,hfz,h1,h2,h3,fun i r hr=>⟨(h4 i r hr).1,fun k d hd=> ?_⟩⟩
    obtain⟨u,hu,hdr⟩:=(h4 i r hr).2 k d hd
    refine⟨u,hu,?_⟩
    rcases hS with hS|hS
    · exact DR.mono hS (fun _ _=>rfl) hdr
    · exact DR.scalar (hS r (List.mem_of_getElem? hr) d (List.mem_of_getElem? hd)) hdr
end
set_option linter.unusedSimpArgs false
theorem fu {l:List (Nat×K)} {o:Nat} {k:K} (h:aU (qX l) (.o o)=some k): (o,k)∈l:=by
 induction l with
 |nil=>cases h
 |cons p r ih=>
  obtain⟨i,x⟩:=p
  simp only[qX,List.map_cons,aU] at h
  split at h
  · rename_i e;cases e;cases h;exact List.mem_cons_self ..
  · exact List.mem_cons_of_mem _ (ih h)
theorem aBd {l:List (Nat×K)} {s:Nat}:aU (qX l) (.t s)=none:=by
 induction l with
 |nil=>rfl
 |cons p r ih=>simp only[qX,List.map_cons,aU];rw[if_neg (by simp)];exact ih
theorem uQ {Xs:List V} {r:List (Nat×K)} {s:Nat} {k:K} (h:aU (eS 0 Xs++qX r) (.t s)=some k): ∃X,Xs[s]? =some X∧k= .v X:=by
 rcases tN 0 Xs (qX r) s k h with⟨X,h1,h2,_,_⟩|h
 · exact⟨X,by simpa using h1,h2⟩
 · rw[aBd] at h;cases h
theorem zS {Xs:List V} {σ:St} {s:Nat} {k:K} (h:aU (eS 0 Xs++dY σ) (.t s)=some k): ∃X,Xs[s]? =some X∧k= .v X:=by
 have hlt: ∀(r:St),aU (dY r) (.t s)=none:=by
  intro r
  induction r with
  |nil=>rfl
  |cons p r ih=>
   obtain⟨l,k'⟩:=p
   cases l with
   |t n=>exact ih
   |o n=>simp only[dY,aU];rw[if_neg (by simp)];exact ih
 rcases tN 0 Xs (dY σ) s k h with⟨X,h1,h2,_,_⟩|h
 · exact⟨X,by simpa using h1,h2⟩
 · rw[hlt] at h;cases h
theorem aJ4 {rl:List (Nat×Nat)} {k:K}: (aBc rl k).live↔k.live:=by cases k<;>simp[aBc,K.live]
theorem aOo {rl:List (Nat×Nat)} {p q:Value} {k k':K} (h:nA p q k k'):nA p q k (aBc rl k'):=by
 cases k<;>cases k'<;>simp only[nA,aBc] at h ⊢ <;>exact h
theorem au {j:Nat} {l l':List Nat}:j∈(l.filter fun i=> !iU i l')↔j∈l∧j∉l':=by
 rw[List.mem_filter]
 refine and_congr_right fun _=> ?_
 rw[Bool.not_eq_true',← Bool.not_eq_true,gS]
section
variable {P:Program} {f:FuncId} {n:Nat} {σin σout:St} {rl:List (Nat×Nat)} {bor:List Nat} {σ0:St} {Xs:List V} {Ra:List (dF×Option K)} {robj:List (Nat×K)}
theorem aIy (hm:oJ (eS 0 Xs++qX robj) σin rl bor) (hk:kI rl σin σout=true) (hb:bor=[]∨nB σout)
 {P:Program} {cx:Cx P} {σ:St} {ι ν:Nat→Value} {S:Nat→Prop} {a:Act} {w:World} (hr:bL (ol Ra robj rl σin σout) σ) (hw:RW cx σ ι S a w)
 (hνr: ∀s X,Xs[s]? =some X→lR σ ι w S X (ν s))
 {ι':Nat→Value} {S':Nat→Prop} {w':World} {v:Value} (hp:aMl σin (fun j=>ι (kA rl j)) (pR (eS 0 Xs++dY σ) ι bor S) w σout ι' S' w' v):
 RW cx (iL σ (yF rl σin σout)) (oK rl σout ι' ι) (fun b=>S b∨(bor=[]∧S' b)) a w':=by
 have hlo: ∀o,aU (eS 0 Xs++dY σ) (.o o)=aU σ (.o o):=fun o=>by rw[kS,pS]
 have hmut: ∀o b,kR (eS 0 Xs++dY σ) ι o b↔kR σ ι o b:=fun o b=>by unfold kR;rw[hlo]
 have hobj: ∀o k,aU (eS 0 Xs++qX robj) (.o o)=some k→aU σ (.o o)=some k:=fun o k h=>by
  rw[kS] at h
  have hmem:=fu h
  exact hr (.o o,some k) (List.mem_append_left _ (List.mem_append_right _ (aVj.2 ⟨(o,k),hmem,rfl⟩)))
 have hsub: ∀l k,aU (eS 0 Xs++qX robj) l=some k→aU (eS 0 Xs++dY σ) l=some k:=fun l k h=>by
  cases l with
  |o o=>rw[hlo];exact hobj o k h
  |t s=>
   obtain⟨X,h1,rfl⟩:=uQ h
   have hs:=(aVe.1 h1).1
   rw[oX 0 Xs _ s (aVa _) (by omega)];simp[h1]
 have hin: ∀j k',aU σin (.o j)=some k'→ ∃k,aU σ (.o (kA rl j))=some k∧mK (eS 0 Xs++qX robj) σin rl bor k k':=fun j k' h=>by
  obtain⟨k,h1,h2⟩:=hm.ids j k' h
  exact⟨k,hobj _ _ h1,h2⟩
 have hmin: ∀j b,kR σin (fun j=>ι (kA rl j)) j b→kR σ ι (kA rl j) b:=fun j b h=>(hmut _ _).1 (hm.mut hsub h)
 have hmlt: ∀o b,kR σ ι o b→b<w.heap.size:=fun o b ⟨⟨k0,hk,hl⟩,hb⟩=>OR.lt (hw.vr.objs o k0 hk) hl hb
 have hnew: ∀j,j∈cA σout→j∈cA σin∨aU σ (.o (kA rl j))=none:=fun j hj=>by
  by_cases h:j∈cA σin
  · exact .inl h
  · exact .inr (hr (.o (kA rl j),none) (List.mem_append_right _ (aVj.2 ⟨j,au.2 ⟨hj,h⟩,rfl⟩)))
 have hall: ∀j,j∈cA σin→j∈cA σout∨j∈oO σin σout:=fun j hj=>by
  by_cases h:j∈cA σout
  · exact .inl h
  · exact .inr (au.2 ⟨hj,h⟩)
 have hgive:bor=[]→ ∀b,pR (eS 0 Xs++dY σ) ι bor S b→S b:=fun e b h=>by
  rcases h with h|⟨o,ho,_⟩
  · exact h
  · rw[e] at ho;cases ho
 have cases_: ∀o,(∃j,j∈cA σout∧kA rl j=o∧oK rl σout ι' ι o=ι' j∧ ∃k,aU σout (.o j)=some k∧aU (iL σ (yF rl σin σout)) (.o o)=some (aBc rl k))∨
  aU (iL σ (yF rl σin σout)) (.o o)=some .dead∨
  ((∀j,j∈cA σout∨j∈oO σin σout→kA rl j≠o)∧aU (iL σ (yF rl σin σout)) (.o o)=aU σ (.o o)∧oK rl σout ι' ι o=ι o):=fun o=>by
  by_cases h1: ∃j,j∈cA σout∧kA rl j=o
  · obtain⟨j,hj,rfl⟩:=h1
    obtain⟨k,hkk⟩:=pQ hj
    exact .inl ⟨j,hj,rfl,xD hk hj,k,hkk,pT hk hkk⟩
  · by_cases h2: ∃j,j∈oO σin σout∧kA rl j=o
    · obtain⟨j,hj,rfl⟩:=h2
      exact .inr (.inl (aJ2 hk hj))
    · have hne: ∀j,j∈cA σout∨j∈oO σin σout→kA rl j≠o:=fun j hj e=>by
       rcases hj with hj|hj
       · exact h1 ⟨j,hj,e⟩
       · exact h2 ⟨j,hj,e⟩
      exact .inr (.inr ⟨hne,aGg hne,aDg fun j hj=>hne j (.inl hj)⟩)
 have keepB: ∀b,b<w.heap.size→(∀j,¬kR σin (fun j=>ι (kA rl j)) j b)→w'.heap[b]? =w.heap[b]?:=fun b hb hn=>hp.fr.block b hb fun⟨j,hj⟩=>hn j hj
 have st:qT σ ι S w (iL σ (yF rl σin σout)) (oK rl σout ι' ι) (fun b=>S b∨(bor=[]∧S' b)) w':=by
  refine⟨fun b h=> .inl h,fun b h=>keepB b (hw.vr.sz b h) fun j hj=>hw.vr.mutS _ b (hmin j b hj) h,fun o k hko=> ?_⟩
  rcases cases_ o with⟨j,hj,e,hι,kout,h1,h2⟩|h2|⟨hne,h2,hι⟩
  · refine⟨_,h2,?_⟩
    rw[hι]
    subst e
    rcases hnew j hj with hji|hab
    · obtain⟨kin,hkin⟩:=pQ hji
      obtain⟨k1,hk1,hmk⟩:=hin j kin hkin
      rw[hko] at hk1;cases hk1
      have hev:=hp.io j kin kout hkin h1
      exact aOo (aRq hmk hev)
    · rw[hab] at hko;cases hko
  · exact⟨_,h2,by cases k<;>simp[nA]⟩
  · exact⟨k,by rw[h2];exact hko,by rw[hι];exact nA.refl' _ _⟩
 have hSK: ∀{l:dF} {k:K},aU σout l=some k→(∀b,S' b→(S b∨(bor=[]∧S' b)))∨vN k:=fun{l k} h=>by
  rcases hb with e|hs
  · exact .inl fun b hb=> .inr ⟨e,hb⟩
  · exact .inr (hs (l,k) (uN h))
 have mutCases: ∀o b,kR (iL σ (yF rl σin σout)) (oK rl σout ι' ι) o b→(∃j,j∈cA σout∧kA rl j=o∧kR σout ι' j b∧(w.heap.size≤b∨ ∃j',j'∈cA σin∧kR σ ι (kA rl j') b))∨((∀j,j∈cA σout∨j∈oO σin σout→kA rl j≠o)∧kR σ ι o b):=fun o b ⟨⟨k,hko,hl⟩,hbl⟩=>by
  rcases cases_ o with⟨j,hj,e,hι,kout,h1,h2⟩|h2|⟨hne,h2,hι⟩
  · rw[h2] at hko;cases hko
    rw[hι] at hbl
    have hm2:kR σout ι' j b:=⟨⟨kout,h1,aJ4.1 hl⟩,hbl⟩
    refine .inl ⟨j,hj,e,hm2,(hp.own j b hm2).imp id fun⟨o',h⟩=>⟨o',?_,hmin o' b h⟩⟩
    obtain⟨⟨k',hk',_⟩,_⟩:=h
    exact fG hk'
  · rw[h2] at hko;cases hko;exact hl.elim
  · rw[h2] at hko;rw[hι] at hbl
    exact .inr ⟨hne,⟨k,hko,hl⟩,hbl⟩
 refine⟨⟨fun s x hx=> ?_,fun o k hko=> ?_,fun o b hmu hS=> ?_,fun o o' b hmu hmu'=> ?_,fun b hb=> ?_⟩,hw.size,hw.defers,hw.fr.trans hp.fr fun x hx ⟨j,hj⟩=> ?_,fun o b hmu=> ?_,fun b hS=> ?_,fun o k hko=> ?_⟩
 · rw[aJ3] at hx
   exact qU.step st (hw.vr.slots s x hx)
 · rcases cases_ o with⟨j,hj,e,hι,kout,h1,h2⟩|h2|⟨hne,h2,hι⟩
   · rw[h2] at hko;cases hko
     rw[hι]
     exact aRr hk (hSK h1) (hp.vr.objs j kout h1)
   · rw[h2] at hko;cases hko;trivial
   · rw[h2] at hko;rw[hι]
     by_cases hl:k.live
     · refine OR.step st (fun b hb=> ?_) (hw.vr.objs o k hko)
       have hmu:kR σ ι o b:=⟨⟨k,hko,hl⟩,hb⟩
       refine keepB b (hmlt o b hmu) fun j hj=> ?_
       have:=hw.vr.inj _ _ b (hmin j b hj) hmu
       obtain⟨⟨k',hk',_⟩,_⟩:=hj
       exact hne j (hall j (fG hk')) this
     · cases k<;>simp[K.live] at hl<;>trivial
 · rcases mutCases o b hmu with⟨j,hj,e,hm2,hown⟩|⟨hne,hm2⟩
   · rcases hS with hS|⟨_,hS⟩
     · rcases hown with h|h
       · have:=hw.vr.sz b hS;omega
       · obtain⟨j',_,h⟩:=h;exact hw.vr.mutS _ b h hS
     · exact hp.vr.mutS j b hm2 hS
   · rcases hS with hS|⟨e,hS⟩
     · exact hw.vr.mutS o b hm2 hS
     · rcases hp.rd b hS with h|h|⟨o',h⟩
       · exact hw.vr.mutS o b hm2 (hgive e b h)
       · have:=hmlt o b hm2;omega
       · have h1:=hw.vr.inj _ _ b (hmin o' b h) hm2
         obtain⟨⟨k',hk',_⟩,_⟩:=h
         exact hne o' (hall o' (fG hk')) h1
 · rcases mutCases o b hmu with⟨j,hj,e,hm2,hown⟩|⟨hne,hm2⟩
   · rcases mutCases o' b hmu' with⟨j',hj',e',hm2',hown'⟩|⟨hne',hm2'⟩
     · rw[← e,← e',hp.vr.inj j j' b hm2 hm2']
     · rcases hown with h|⟨j2,hj2,h⟩
       · have:=hmlt o' b hm2';omega
       · exact absurd (hw.vr.inj _ _ b h hm2') (hne' j2 (hall j2 hj2))
   · rcases mutCases o' b hmu' with⟨j',hj',e',hm2',hown'⟩|⟨hne',hm2'⟩
     · rcases hown' with h|⟨j2,hj2,h⟩
       · have:=hmlt o b hm2;omega
       · exact absurd (hw.vr.inj _ _ b h hm2) (hne j2 (hall j2 hj2))
     · exact hw.vr.inj o o' b hm2 hm2'
 · rcases hb with h|⟨_,h⟩
   · exact Nat.lt_of_lt_of_le (hw.vr.sz b h) hp.fr.size
   · exact hp.vr.sz b h
 · rcases hw.own _ x (hmin j x hj) with h|h
   · omega
   · exact h
 · rcases mutCases o b hmu with⟨j,hj,e,hm2,hown⟩|⟨hne,hm2⟩
   · rcases hown with h|h
     · exact .inl (Nat.le_trans hw.fr.size h)
     · obtain⟨j2,_,h⟩:=h;exact hw.own _ b h
   · exact hw.own o b hm2
 · rcases hS with h|⟨e,h⟩
   · exact hw.rd b h
   · rcases hp.rd b h with h|h|⟨o',h⟩
     · exact hw.rd b (hgive e b h)
     · exact .inr (.inl (Nat.le_trans hw.fr.size h))
     · exact .inr (hw.own _ b (hmin o' b h))
 · obtain⟨k',hk',hev⟩:=hw.io o k hko
   obtain⟨k2,hk2,hev2⟩:=st.evo o k' hk'
   exact⟨k2,hk2,hev.trans hev2⟩
theorem pG (σ:St) (W W':List (dF×K)):iL σ (W++W')=iL (iL σ W) W':=by
 induction W generalizing σ with
 |nil=>rfl
 |cons p r ih=>exact ih _
theorem aDh (hs:Spec P f n σin σout) {o:Oper} {c:Call} (ho:o.op= .call c) (hc:c.callee= .value (.func f)) (hx:evA σ0 c.args.toList=some (Xs,Ra)) (hn:Xs.length=n)
 (hm:oJ (eS 0 Xs++qX robj) σin rl bor) (hk:kI rl σin σout=true) (hb:bor=[]∨nB σout):
 wY P o (ol Ra robj rl σin σout) (tH rl σin σout o.dst):=by
 intro cx σ ι S a w hr hw hd next Q hnext
 obtain⟨⟨fn,hf,hbody,hname⟩,hcall⟩:=hs
 obtain⟨hlen,hargs⟩:=mb hw hx hr.left.left
 let args:Array Value:=c.args.map a.eval
 let ν:Nat→Value:=fun i=>(args[i]?).getD undef
 have hsz:args.size=n:=by show(c.args.map a.eval).size=n;rw[Array.size_map,← hn,hlen,Array.length_toList]
 have hargν: ∀i,i<n→args[i]? =some (ν i):=fun i hi=>by
  show args[i]? =some ((args[i]?).getD undef)
  rw[Array.getElem?_eq_getElem (by omega)];rfl
 have hνr: ∀s X,Xs[s]? =some X→lR σ ι w S X (ν s):=fun s X hX=>by
  obtain⟨x,h1,h2⟩:=hargs s X hX
  have:ν s=a.eval x:=by
   show((c.args.map a.eval)[s]?).getD undef=a.eval x
   rw[Array.getElem?_toList] at h1
   rw[Array.getElem?_map,h1];rfl
  rw[this];exact h2
 have hlo: ∀o,aU (eS 0 Xs++dY σ) (.o o)=aU σ (.o o):=fun o=>by rw[kS,pS]
 have st:qT σ ι S w (eS 0 Xs++dY σ) ι S w:=⟨fun _ h=>h,fun _ _=>rfl,fun o k hk=>⟨k,by rw[hlo];exact hk,nA.refl' _ _⟩⟩
 have hmut: ∀o b,kR (eS 0 Xs++dY σ) ι o b↔kR σ ι o b:=fun o b=>by unfold kR;rw[hlo]
 have hvr0:VR (eS 0 Xs++dY σ) ι ν S w:=by
  refine⟨fun s x hx=> ?_,fun o k hk=>OR.step st (fun _ _=>rfl) (hw.vr.objs o k (by rw[← hlo];exact hk)),fun o b q=>hw.vr.mutS o b ((hmut o b).1 q),fun o o' b q q'=>hw.vr.inj o o' b ((hmut o b).1 q) ((hmut o' b).1 q'),hw.vr.sz⟩
  obtain⟨X,h1,h2⟩:=zS hx
  cases h2
  exact lR.step st (hνr s _ h1)
 have hsub: ∀l k,aU (eS 0 Xs++qX robj) l=some k→aU (eS 0 Xs++dY σ) l=some k:=fun l k h=>by
  cases l with
  |o o=>
   rw[hlo]
   rw[kS] at h
   exact hr (.o o,some k) (List.mem_append_left _ (List.mem_append_right _ (aVj.2 ⟨(o,k),fu h,rfl⟩)))
  |t s=>
   obtain⟨X,h1,rfl⟩:=uQ h
   have hs:=(aVe.1 h1).1
   rw[oX 0 Xs _ s (aVa _) (by omega)];simp[h1]
 have hvr1:=uP hm hsub hvr0
 have hgb:GB P w fun b=> ∃o,kR σin (fun j=>ι (kA rl j)) o b:=fun w2 h2=>cx.gb w2 (hw.fr.trans h2 fun x hx ⟨o,ho⟩=>by
  rcases hw.own _ x ((hmut _ _).1 (hm.mut hsub ho)) with h3|h3
  · omega
  · exact h3)
 have hcl:=hcall _ ν _ w args hgb hvr1 hsz hargν
 obtain⟨callee,cargs,argTypes⟩:=c
 dsimp only at hc
 subst hc
 have hbd: ∃cd,fn.body=some cd:=by
  cases hq:fn.body with
  |none=>rw[hq] at hbody;cases hbody
  |some cd=>exact⟨cd,rfl⟩
 obtain⟨cd,hbd⟩:=hbd
 have hrun: (execOp a.eval o).run P w= .ok (.enter f args) w:=by
  have h1:=MuLone.run_callFunc_enter (P:=P) hf hname hbd args w
  have e: (execOp a.eval o).run P w=(callFunc f (args++ #[])).run P w:=by
   simp[execOp,ho,resolve,invoke,Deferred.ofValue,args,Act.eval]
  rw[e,Array.append_empty];exact h1
 unfold Oper.wp
 rw[hrun,Oper.upon_enter]
 intro cs
 obtain⟨e,w',fr,⟨v,ι',S',rfl,hpost⟩,hcomes⟩:=hcl cs
 refine⟨_,w',fr,?_,hcomes⟩
 dsimp only
 have hrw:=aIy (Ra:=Ra) hm hk hb hr hw hνr hpost
 have hSK: ∀{l:dF} {k:K},aU σout l=some k→(∀b,S' b→(S b∨(bor=[]∧S' b)))∨vN k:=fun{l k} h=>by
  rcases hb with e|hs
  · exact .inl fun b hb=> .inr ⟨e,hb⟩
  · exact .inr (hs (l,k) (uN h))
 cases hdst:o.dst with
 |none=>
  refine hnext (oK rl σout ι' ι) (fun b=>S b∨(bor=[]∧S' b)) _ w' ?_
  rw[hdst]
  simp only[tH,xi,List.append_nil]
  exact hrw
 |some d=>
  have hd':=hd d hdst
  cases hq:aU σout (.t 0) with
  |none=>
   refine hnext (oK rl σout ι' ι) (fun b=>S b∨(bor=[]∧S' b)) _ w' ?_
   rw[hdst]
   simp only[tH,xi,pG,hq,iL]
   exact hrw.putDead hd' v
  |some k=>
   cases k with
   |v X=>
    refine hnext (oK rl σout ι' ι) (fun b=>S b∨(bor=[]∧S' b)) _ w' ?_
    rw[hdst]
    simp only[tH,xi,pG,hq,iL]
    exact hrw.put hd' (aIx hk (hSK hq) (hpost.vr.slots 0 (.v X) hq))
   |_=>
    refine hnext (oK rl σout ι' ι) (fun b=>S b∨(bor=[]∧S' b)) _ w' ?_
    rw[hdst]
    simp only[tH,xi,pG,hq,iL]
    exact hrw.putDead hd' v
theorem aGi {σ:St} {c:List Operand} (hx:evA σ c=some (Xs,Ra)) (h1: ∀p∈robj,aU σ (.o p.1)=some p.2) (h2: ∀j∈mT σin σout,aU σ (.o (kA rl j))=none):bL (ol Ra robj rl σin σout) σ:=by
 intro p hp
 rcases List.mem_append.1 hp with hp|hp
 · rcases List.mem_append.1 hp with hp|hp
   · exact uF hx p hp
   · obtain⟨q,hq,rfl⟩:=aVj.1 hp
     exact h1 q hq
 · obtain⟨j,hj,rfl⟩:=aVj.1 hp
   exact h2 j hj
end
end Go.Ab
namespace Go.Proofs.YtcbjphphppaoiaaGreatDoor
open Int renaming toNat_natCast→aU4,tmod→aVg
open List renaming length_append→aU5,length_nil→aU8,length_cons→aU9,getD_eq_getElem?_getD→aVb,length_take→aVc,getElem?_eq_getElem→aVd,getElem?_eq_some_iff→aVe,range→aVh,all_eq_true→aVi,mem_map→aVj,length_drop→aVk,take_length→aVl,mem_cons→aVm,mem_singleton→aVn,mem_iff_getElem?→aVp
open Nat renaming le_of_ble_eq_true→aU6,zero_le→aVa,le_refl→aVf,add_mul→aVo
open Bool renaming and_eq_true→aU7
open Go Go.Ab Go.RowKit
set_option linter.unusedVariables false
abbrev ti2:TI:=⟨.int .i64,1,8,[.d (.i 0)]⟩
abbrev ti3:TI:=⟨.int .i64,1,8,[.d (.i 0)]⟩
abbrev ti4:TI:=⟨.bool,1,1,[.d (.b false)]⟩
abbrev ti5:TI:=⟨.int .u8,1,1,[.d (.u 0)]⟩
abbrev ti6:TI:=⟨.int .u8,1,1,[.d (.u 0)]⟩
abbrev ti7:TI:=⟨.st [(0,2),(1,3),(2,4),(3,6)],4,24,[.d (.i 0),.d (.i 0),.d (.b false),.d (.u 0)]⟩
abbrev ti8:TI:=⟨.st [(0,2),(1,3),(2,4),(3,6)],4,24,[.d (.i 0),.d (.i 0),.d (.b false),.d (.u 0)]⟩
abbrev ti9:TI:=⟨.str,1,16,[.d (.s [])]⟩
abbrev aTi:TI:=⟨.str,1,16,[.d (.s [])]⟩
abbrev aTj:TI:=⟨.str,1,16,[.d (.s [])]⟩
abbrev aTk:TI:=⟨.int .u64,1,8,[.d (.x (.int .u64 0))]⟩
abbrev aTl:TI:=⟨.st [(0,9),(1,12)],2,24,[.d (.s []),.d (.x (.int .u64 0))]⟩
abbrev aTm:TI:=⟨.st [(0,9),(1,12)],2,24,[.d (.s []),.d (.x (.int .u64 0))]⟩
abbrev aTn:TI:=⟨.ptr 220,1,8,[.d (.x (.pointer none))]⟩
abbrev aTo:TI:=⟨.ptr 223,1,8,[.d (.x (.pointer none))]⟩
abbrev aTp:TI:=⟨.ptr 232,1,8,[.d (.x (.pointer none))]⟩
abbrev aTq:TI:=⟨.st [(0,17)],1,8,[.d (.x (.pointer none))]⟩
abbrev aTr:TI:=⟨.st [(0,17)],1,8,[.d (.x (.pointer none))]⟩
abbrev aTs:TI:=⟨.int .i32,1,4,[.d (.x (.int .i32 0))]⟩
abbrev sd:TI:=⟨.sl 5,1,24,[.nil]⟩
abbrev aTt:TI:=⟨.sl 29,1,24,[.nil]⟩
abbrev aTu:TI:=⟨.sl 39,1,24,[.nil]⟩
abbrev aTv:TI:=⟨.st [(0,3),(1,3),(2,3),(3,23),(4,24),(5,23)],6,96,[.d (.i 0),.d (.i 0),.d (.i 0),.nil,.nil,.nil]⟩
abbrev aTw:TI:=⟨.st [(0,3),(1,3),(2,3),(3,23),(4,24),(5,23)],6,96,[.d (.i 0),.d (.i 0),.d (.i 0),.nil,.nil,.nil]⟩
abbrev aTx:TI:=⟨.st [(0,3),(1,3),(2,3),(3,3),(4,9)],5,48,[.d (.i 0),.d (.i 0),.d (.i 0),.d (.i 0),.d (.s [])]⟩
abbrev xj:TI:=⟨.st [(0,3),(1,3),(2,3),(3,3),(4,9)],5,48,[.d (.i 0),.d (.i 0),.d (.i 0),.d (.i 0),.d (.s [])]⟩
abbrev aTy:TI:=⟨.st [(0,3),(1,3),(2,3)],3,24,[.d (.i 0),.d (.i 0),.d (.i 0)]⟩
abbrev aJ5:TI:=⟨.st [(0,3),(1,3),(2,3)],3,24,[.d (.i 0),.d (.i 0),.d (.i 0)]⟩
abbrev aTz:TI:=⟨.sl 9,1,24,[.nil]⟩
abbrev aT0:TI:=⟨.ptr 92,1,8,[.d (.x (.pointer none))]⟩
abbrev aT1:TI:=⟨.sl 3,1,24,[.nil]⟩
abbrev aT2:TI:=⟨.st [(0,9),(1,3)],2,24,[.d (.s []),.d (.i 0)]⟩
abbrev aT3:TI:=⟨.st [(0,9),(1,3)],2,24,[.d (.s []),.d (.i 0)]⟩
abbrev aT4:TI:=⟨.sl 136,1,24,[.nil]⟩
abbrev aT5:TI:=⟨.st [(0,3),(1,4),(2,76),(4,77)],5,64,[.d (.i 0),.d (.b false),.d (.s []),.d (.i 0),.nil]⟩
abbrev aT6:TI:=⟨.st [(0,3),(1,4),(2,76),(4,77)],5,64,[.d (.i 0),.d (.b false),.d (.s []),.d (.i 0),.nil]⟩
abbrev aT7:TI:=⟨.sl 79,1,24,[.nil]⟩
abbrev aT8:TI:=⟨.sl 4,1,24,[.nil]⟩
abbrev aT9:TI:=⟨.sl 175,1,24,[.nil]⟩
abbrev aUa:TI:=⟨.st [(0,3),(1,80),(2,81),(3,82),(4,23),(5,23)],6,128,[.d (.i 0),.nil,.nil,.nil,.nil,.nil]⟩
abbrev aUb:TI:=⟨.st [(0,3),(1,80),(2,81),(3,82),(4,23),(5,23)],6,128,[.d (.i 0),.nil,.nil,.nil,.nil,.nil]⟩
abbrev aUc:TI:=⟨.sl 140,1,24,[.nil]⟩
abbrev aUd:TI:=⟨.st [(0,52),(1,84),(7,85)],8,160,[.d (.x (.pointer none)),.d (.i 0),.nil,.nil,.nil,.nil,.nil,.nil]⟩
abbrev aUe:TI:=⟨.st [(0,52),(1,84),(7,85)],8,160,[.d (.x (.pointer none)),.d (.i 0),.nil,.nil,.nil,.nil,.nil,.nil]⟩
abbrev aUf:TI:=⟨.ptr 87,1,8,[.d (.x (.pointer none))]⟩
abbrev aUg:TI:=⟨.st [(0,22),(1,3)],2,32,[.nil,.d (.i 0)]⟩
abbrev aUh:TI:=⟨.st [(0,22),(1,3)],2,32,[.nil,.d (.i 0)]⟩
abbrev aQg:TI:=⟨.sl 155,1,24,[.nil]⟩
abbrev aQh:TI:=⟨.st [(0,3),(1,3),(2,3),(3,3),(4,3),(5,134)],6,64,[.d (.i 0),.d (.i 0),.d (.i 0),.d (.i 0),.d (.i 0),.nil]⟩
abbrev aQi:TI:=⟨.st [(0,3),(1,3),(2,3),(3,3),(4,3),(5,134)],6,64,[.d (.i 0),.d (.i 0),.d (.i 0),.d (.i 0),.d (.i 0),.nil]⟩
abbrev aQj:TI:=⟨.st [(0,3),(1,3),(2,3),(3,3),(4,3),(5,3),(6,3),(7,3),(8,3),(9,9)],10,88,[.d (.i 0),.d (.i 0),.d (.i 0),.d (.i 0),.d (.i 0),.d (.i 0),.d (.i 0),.d (.i 0),.d (.i 0),.d (.s [])]⟩
abbrev aQk:TI:=⟨.st [(0,3),(1,3),(2,3),(3,3),(4,3),(5,3),(6,3),(7,3),(8,3),(9,9)],10,88,[.d (.i 0),.d (.i 0),.d (.i 0),.d (.i 0),.d (.i 0),.d (.i 0),.d (.i 0),.d (.i 0),.d (.i 0),.d (.s [])]⟩
abbrev aQl:TI:=⟨.arr 24 5,24,24,[.d (.u 0),.d (.u 0),.d (.u 0),.d (.u 0),.d (.u 0),.d (.u 0),.d (.u 0),.d (.u 0),.d (.u 0),.d (.u 0),.d (.u 0),.d (.u 0),.d (.u 0),.d (.u 0),.d (.u 0),.d (.u 0),.d (.u 0),.d (.u 0),.d (.u 0),.d (.u 0),.d (.u 0),.d (.u 0),.d (.u 0),.d (.u 0)]⟩
abbrev aQm:TI:=⟨.int .u64,1,8,[.d (.x (.int .u64 0))]⟩
abbrev aQn:TI:=⟨.st [(0,3),(1,9)],2,24,[.d (.i 0),.d (.s [])]⟩
abbrev aQo:TI:=⟨.st [(0,3),(1,9)],2,24,[.d (.i 0),.d (.s [])]⟩
abbrev aQp:TI:=⟨.int .u64,1,8,[.d (.x (.int .u64 0))]⟩
abbrev aQq:TI:=⟨.arr 20 146,20,160,[.d (.x (.int .u64 0)),.d (.x (.int .u64 0)),.d (.x (.int .u64 0)),.d (.x (.int .u64 0)),.d (.x (.int .u64 0)),.d (.x (.int .u64 0)),.d (.x (.int .u64 0)),.d (.x (.int .u64 0)),.d (.x (.int .u64 0)),.d (.x (.int .u64 0)),.d (.x (.int .u64 0)),.d (.x (.int .u64 0)),.d (.x (.int .u64 0)),.d (.x (.int .u64 0)),.d (.x (.int .u64 0)),.d (.x (.int .u64 0)),.d (.x (.int .u64 0)),.d (.x (.int .u64 0)),.d (.x (.int .u64 0)),.d (.x (.int .u64 0))]⟩
abbrev aQr:TI:=⟨.int .u32,1,4,[.d (.x (.int .u32 0))]⟩
abbrev aQs:TI:=⟨.st [(0,5),(1,5)],2,2,[.d (.u 0),.d (.u 0)]⟩
abbrev aQt:TI:=⟨.st [(0,5),(1,5)],2,2,[.d (.u 0),.d (.u 0)]⟩
abbrev aQu:TI:=⟨.arr 16 171,32,32,[.d (.u 0),.d (.u 0),.d (.u 0),.d (.u 0),.d (.u 0),.d (.u 0),.d (.u 0),.d (.u 0),.d (.u 0),.d (.u 0),.d (.u 0),.d (.u 0),.d (.u 0),.d (.u 0),.d (.u 0),.d (.u 0),.d (.u 0),.d (.u 0),.d (.u 0),.d (.u 0),.d (.u 0),.d (.u 0),.d (.u 0),.d (.u 0),.d (.u 0),.d (.u 0),.d (.u 0),.d (.u 0),.d (.u 0),.d (.u 0),.d (.u 0),.d (.u 0)]⟩
abbrev aQv:TI:=⟨.st [(0,3),(1,3),(2,9),(3,4)],4,40,[.d (.i 0),.d (.i 0),.d (.s []),.d (.b false)]⟩
abbrev aQw:TI:=⟨.st [(0,3),(1,3),(2,9),(3,4)],4,40,[.d (.i 0),.d (.i 0),.d (.s []),.d (.b false)]⟩
abbrev aQx:TI:=⟨.st [(0,3),(1,3),(2,3),(3,3),(4,3),(5,3),(6,3),(7,3),(8,3),(9,9)],10,88,[.d (.i 0),.d (.i 0),.d (.i 0),.d (.i 0),.d (.i 0),.d (.i 0),.d (.i 0),.d (.i 0),.d (.i 0),.d (.s [])]⟩
abbrev aQy:TI:=⟨.st [(0,3),(1,3),(2,3),(3,3),(4,3),(5,3),(6,3),(7,3),(8,3),(9,9)],10,88,[.d (.i 0),.d (.i 0),.d (.i 0),.d (.i 0),.d (.i 0),.d (.i 0),.d (.i 0),.d (.i 0),.d (.i 0),.d (.s [])]⟩
abbrev aQz:TI:=⟨.sl 178,1,24,[.nil]⟩
abbrev aQ0:TI:=⟨.arr 32 5,32,32,[.d (.u 0),.d (.u 0),.d (.u 0),.d (.u 0),.d (.u 0),.d (.u 0),.d (.u 0),.d (.u 0),.d (.u 0),.d (.u 0),.d (.u 0),.d (.u 0),.d (.u 0),.d (.u 0),.d (.u 0),.d (.u 0),.d (.u 0),.d (.u 0),.d (.u 0),.d (.u 0),.d (.u 0),.d (.u 0),.d (.u 0),.d (.u 0),.d (.u 0),.d (.u 0),.d (.u 0),.d (.u 0),.d (.u 0),.d (.u 0),.d (.u 0),.d (.u 0)]⟩
abbrev aQ1:TI:=⟨.arr 64 5,64,64,[.d (.u 0),.d (.u 0),.d (.u 0),.d (.u 0),.d (.u 0),.d (.u 0),.d (.u 0),.d (.u 0),.d (.u 0),.d (.u 0),.d (.u 0),.d (.u 0),.d (.u 0),.d (.u 0),.d (.u 0),.d (.u 0),.d (.u 0),.d (.u 0),.d (.u 0),.d (.u 0),.d (.u 0),.d (.u 0),.d (.u 0),.d (.u 0),.d (.u 0),.d (.u 0),.d (.u 0),.d (.u 0),.d (.u 0),.d (.u 0),.d (.u 0),.d (.u 0),.d (.u 0),.d (.u 0),.d (.u 0),.d (.u 0),.d (.u 0),.d (.u 0),.d (.u 0),.d (.u 0),.d (.u 0),.d (.u 0),.d (.u 0),.d (.u 0),.d (.u 0),.d (.u 0),.d (.u 0),.d (.u 0),.d (.u 0),.d (.u 0),.d (.u 0),.d (.u 0),.d (.u 0),.d (.u 0),.d (.u 0),.d (.u 0),.d (.u 0),.d (.u 0),.d (.u 0),.d (.u 0),.d (.u 0),.d (.u 0),.d (.u 0),.d (.u 0)]⟩
abbrev aQ2:TI:=⟨.st [(0,17),(1,17),(2,17),(3,9)],4,40,[.d (.x (.pointer none)),.d (.x (.pointer none)),.d (.x (.pointer none)),.d (.s [])]⟩
abbrev aQ3:TI:=⟨.st [(0,17),(1,17),(2,17),(3,9)],4,40,[.d (.x (.pointer none)),.d (.x (.pointer none)),.d (.x (.pointer none)),.d (.s [])]⟩
abbrev aQ4:TI:=⟨.int .u8,1,1,[.d (.u 0)]⟩
abbrev aQ5:TI:=⟨.int .u8,1,1,[.d (.u 0)]⟩
abbrev aQ6:TI:=⟨.ptr 5,1,8,[.d (.x (.pointer none))]⟩
abbrev aQ7:TI:=⟨.int .i32,1,4,[.d (.x (.int .i32 0))]⟩
abbrev aQ8:TI:=⟨.int .i32,1,4,[.d (.x (.int .i32 0))]⟩
def tab:gQ:=fun t=>match t with
 |2=>some ti2
 |3=>some ti3
 |4=>some ti4
 |5=>some ti5
 |6=>some ti6
 |7=>some ti7
 |8=>some ti8
 |9=>some ti9
 |10=>some aTi
 |11=>some aTj
 |12=>some aTk
 |13=>some aTl
 |14=>some aTm
 |15=>some aTn
 |16=>some aTo
 |17=>some aTp
 |18=>some aTq
 |19=>some aTr
 |21=>some aTs
 |22=>some sd
 |23=>some aTt
 |24=>some aTu
 |25=>some aTv
 |26=>some aTw
 |28=>some aTx
 |29=>some xj
 |38=>some aTy
 |39=>some aJ5
 |47=>some aTz
 |52=>some aT0
 |68=>some aT1
 |75=>some aT2
 |76=>some aT3
 |77=>some aT4
 |78=>some aT5
 |79=>some aT6
 |80=>some aT7
 |81=>some aT8
 |82=>some aT9
 |83=>some aUa
 |84=>some aUb
 |85=>some aUc
 |86=>some aUd
 |87=>some aUe
 |88=>some aUf
 |91=>some aUg
 |92=>some aUh
 |134=>some aQg
 |135=>some aQh
 |136=>some aQi
 |139=>some aQj
 |140=>some aQk
 |145=>some aQl
 |146=>some aQm
 |154=>some aQn
 |155=>some aQo
 |160=>some aQp
 |162=>some aQq
 |163=>some aQr
 |170=>some aQs
 |171=>some aQt
 |172=>some aQu
 |174=>some aQv
 |175=>some aQw
 |177=>some aQx
 |178=>some aQy
 |181=>some aQz
 |192=>some aQ0
 |193=>some aQ1
 |219=>some aQ2
 |220=>some aQ3
 |225=>some aQ4
 |226=>some aQ5
 |228=>some aQ6
 |229=>some aQ7
 |230=>some aQ8
 |_=>none
theorem aUi:eV Tryz.prog 2 ti2:=⟨Tryz.underlying2,⟨Tryz.t2,_,by kernel_rfl,rfl,rfl,rfl,rfl⟩,rfl,rfl,by decide,by decide⟩
theorem aUj:eV Tryz.prog 3 ti3:=⟨Tryz.underlying3,⟨Tryz.t3,_,by kernel_rfl,rfl,rfl,rfl,rfl⟩,rfl,rfl,by decide,by decide⟩
theorem aUk:eV Tryz.prog 4 ti4:=⟨Tryz.underlying4,⟨Tryz.t4,_,by kernel_rfl,rfl,rfl,rfl,rfl⟩,rfl,rfl,by decide,by decide⟩
theorem aUl:eV Tryz.prog 5 ti5:=⟨Tryz.underlying5,⟨Tryz.t5,_,by kernel_rfl,rfl,rfl,rfl,rfl⟩,rfl,rfl,by decide,by decide⟩
theorem aUm:eV Tryz.prog 6 ti6:=⟨Tryz.underlying6,⟨Tryz.t6,_,by kernel_rfl,rfl,rfl,rfl,rfl⟩,rfl,rfl,by decide,by decide⟩
theorem aUn:eV Tryz.prog 7 ti7:=⟨⟨_,Tryz.underlying7,rfl⟩,⟨Tryz.t7,_,by kernel_rfl,rfl,rfl,rfl,rfl⟩,rfl,rfl,by decide,by decide⟩
theorem aUo:eV Tryz.prog 8 ti8:=⟨⟨_,Tryz.underlying8,rfl⟩,⟨Tryz.t8,_,by kernel_rfl,rfl,rfl,rfl,rfl⟩,rfl,rfl,by decide,by decide⟩
theorem aUp:eV Tryz.prog 9 ti9:=⟨Tryz.underlying9,⟨Tryz.t9,_,by kernel_rfl,rfl,rfl,rfl,rfl⟩,rfl,rfl,by decide,by decide⟩
theorem aRs:eV Tryz.prog 10 aTi:=⟨Tryz.underlying10,⟨Tryz.t10,_,by kernel_rfl,rfl,rfl,rfl,rfl⟩,rfl,rfl,by decide,by decide⟩
theorem aRt:eV Tryz.prog 11 aTj:=⟨Tryz.underlying11,⟨Tryz.t11,_,by kernel_rfl,rfl,rfl,rfl,rfl⟩,rfl,rfl,by decide,by decide⟩
theorem aRu:eV Tryz.prog 12 aTk:=⟨Tryz.underlying12,⟨Tryz.t12,_,by kernel_rfl,rfl,rfl,rfl,rfl⟩,rfl,rfl,by decide,by decide⟩
theorem aRv:eV Tryz.prog 13 aTl:=⟨⟨_,Tryz.underlying13,rfl⟩,⟨Tryz.t13,_,by kernel_rfl,rfl,rfl,rfl,rfl⟩,rfl,rfl,by decide,by decide⟩
theorem aRw:eV Tryz.prog 14 aTm:=⟨⟨_,Tryz.underlying14,rfl⟩,⟨Tryz.t14,_,by kernel_rfl,rfl,rfl,rfl,rfl⟩,rfl,rfl,by decide,by decide⟩
theorem aRx:eV Tryz.prog 15 aTn:=⟨Tryz.underlying15,⟨Tryz.t15,_,by kernel_rfl,rfl,rfl,rfl,rfl⟩,rfl,rfl,by decide,by decide⟩
theorem aRy:eV Tryz.prog 16 aTo:=⟨Tryz.underlying16,⟨Tryz.t16,_,by kernel_rfl,rfl,rfl,rfl,rfl⟩,rfl,rfl,by decide,by decide⟩
theorem aRz:eV Tryz.prog 17 aTp:=⟨Tryz.underlying17,⟨Tryz.t17,_,by kernel_rfl,rfl,rfl,rfl,rfl⟩,rfl,rfl,by decide,by decide⟩
theorem aR0:eV Tryz.prog 18 aTq:=⟨⟨_,Tryz.underlying18,rfl⟩,⟨Tryz.t18,_,by kernel_rfl,rfl,rfl,rfl,rfl⟩,rfl,rfl,by decide,by decide⟩
theorem aR1:eV Tryz.prog 19 aTr:=⟨⟨_,Tryz.underlying19,rfl⟩,⟨Tryz.t19,_,by kernel_rfl,rfl,rfl,rfl,rfl⟩,rfl,rfl,by decide,by decide⟩
theorem aR2:eV Tryz.prog 21 aTs:=⟨Tryz.underlying21,⟨Tryz.t21,_,by kernel_rfl,rfl,rfl,rfl,rfl⟩,rfl,rfl,by decide,by decide⟩
theorem aR3:eV Tryz.prog 22 sd:=⟨Tryz.underlying22,⟨Tryz.t22,_,by kernel_rfl,rfl,rfl,rfl,rfl⟩,rfl,rfl,by decide,by decide⟩
theorem aR4:eV Tryz.prog 23 aTt:=⟨Tryz.underlying23,⟨Tryz.t23,_,by kernel_rfl,rfl,rfl,rfl,rfl⟩,rfl,rfl,by decide,by decide⟩
theorem aR5:eV Tryz.prog 24 aTu:=⟨Tryz.underlying24,⟨Tryz.t24,_,by kernel_rfl,rfl,rfl,rfl,rfl⟩,rfl,rfl,by decide,by decide⟩
theorem aR6:eV Tryz.prog 25 aTv:=⟨⟨_,Tryz.underlying25,rfl⟩,⟨Tryz.t25,_,by kernel_rfl,rfl,rfl,rfl,rfl⟩,rfl,rfl,by decide,by decide⟩
theorem aR7:eV Tryz.prog 26 aTw:=⟨⟨_,Tryz.underlying26,rfl⟩,⟨Tryz.t26,_,by kernel_rfl,rfl,rfl,rfl,rfl⟩,rfl,rfl,by decide,by decide⟩
theorem aR8:eV Tryz.prog 28 aTx:=⟨⟨_,Tryz.underlying28,rfl⟩,⟨Tryz.t28,_,by kernel_rfl,rfl,rfl,rfl,rfl⟩,rfl,rfl,by decide,by decide⟩
theorem aR9:eV Tryz.prog 29 xj:=⟨⟨_,Tryz.underlying29,rfl⟩,⟨Tryz.t29,_,by kernel_rfl,rfl,rfl,rfl,rfl⟩,rfl,rfl,by decide,by decide⟩
theorem aSa:eV Tryz.prog 38 aTy:=⟨⟨_,Tryz.underlying38,rfl⟩,⟨Tryz.t38,_,by kernel_rfl,rfl,rfl,rfl,rfl⟩,rfl,rfl,by decide,by decide⟩
theorem aSb:eV Tryz.prog 39 aJ5:=⟨⟨_,Tryz.underlying39,rfl⟩,⟨Tryz.t39,_,by kernel_rfl,rfl,rfl,rfl,rfl⟩,rfl,rfl,by decide,by decide⟩
theorem aSc:eV Tryz.prog 47 aTz:=⟨Tryz.underlying47,⟨Tryz.t47,_,by kernel_rfl,rfl,rfl,rfl,rfl⟩,rfl,rfl,by decide,by decide⟩
theorem aSd:eV Tryz.prog 52 aT0:=⟨Tryz.underlying52,⟨Tryz.t52,_,by kernel_rfl,rfl,rfl,rfl,rfl⟩,rfl,rfl,by decide,by decide⟩
theorem aSe:eV Tryz.prog 68 aT1:=⟨Tryz.underlying68,⟨Tryz.t68,_,by kernel_rfl,rfl,rfl,rfl,rfl⟩,rfl,rfl,by decide,by decide⟩
theorem aSf:eV Tryz.prog 75 aT2:=⟨⟨_,Tryz.underlying75,rfl⟩,⟨Tryz.t75,_,by kernel_rfl,rfl,rfl,rfl,rfl⟩,rfl,rfl,by decide,by decide⟩
theorem aSg:eV Tryz.prog 76 aT3:=⟨⟨_,Tryz.underlying76,rfl⟩,⟨Tryz.t76,_,by kernel_rfl,rfl,rfl,rfl,rfl⟩,rfl,rfl,by decide,by decide⟩
theorem aSh:eV Tryz.prog 77 aT4:=⟨Tryz.underlying77,⟨Tryz.t77,_,by kernel_rfl,rfl,rfl,rfl,rfl⟩,rfl,rfl,by decide,by decide⟩
theorem aSi:eV Tryz.prog 78 aT5:=⟨⟨_,Tryz.underlying78,rfl⟩,⟨Tryz.t78,_,by kernel_rfl,rfl,rfl,rfl,rfl⟩,rfl,rfl,by decide,by decide⟩
theorem aSj:eV Tryz.prog 79 aT6:=⟨⟨_,Tryz.underlying79,rfl⟩,⟨Tryz.t79,_,by kernel_rfl,rfl,rfl,rfl,rfl⟩,rfl,rfl,by decide,by decide⟩
theorem aSk:eV Tryz.prog 80 aT7:=⟨Tryz.underlying80,⟨Tryz.t80,_,by kernel_rfl,rfl,rfl,rfl,rfl⟩,rfl,rfl,by decide,by decide⟩
theorem aSl:eV Tryz.prog 81 aT8:=⟨Tryz.underlying81,⟨Tryz.t81,_,by kernel_rfl,rfl,rfl,rfl,rfl⟩,rfl,rfl,by decide,by decide⟩
theorem aSm:eV Tryz.prog 82 aT9:=⟨Tryz.underlying82,⟨Tryz.t82,_,by kernel_rfl,rfl,rfl,rfl,rfl⟩,rfl,rfl,by decide,by decide⟩
theorem aSn:eV Tryz.prog 83 aUa:=⟨⟨_,Tryz.underlying83,rfl⟩,⟨Tryz.t83,_,by kernel_rfl,rfl,rfl,rfl,rfl⟩,rfl,rfl,by decide,by decide⟩
theorem aSo:eV Tryz.prog 84 aUb:=⟨⟨_,Tryz.underlying84,rfl⟩,⟨Tryz.t84,_,by kernel_rfl,rfl,rfl,rfl,rfl⟩,rfl,rfl,by decide,by decide⟩
theorem aSp:eV Tryz.prog 85 aUc:=⟨Tryz.underlying85,⟨Tryz.t85,_,by kernel_rfl,rfl,rfl,rfl,rfl⟩,rfl,rfl,by decide,by decide⟩
theorem aSq:eV Tryz.prog 86 aUd:=⟨⟨_,Tryz.underlying86,rfl⟩,⟨Tryz.t86,_,by kernel_rfl,rfl,rfl,rfl,rfl⟩,rfl,rfl,by decide,by decide⟩
theorem aSr:eV Tryz.prog 87 aUe:=⟨⟨_,Tryz.underlying87,rfl⟩,⟨Tryz.t87,_,by kernel_rfl,rfl,rfl,rfl,rfl⟩,rfl,rfl,by decide,by decide⟩
theorem aSs:eV Tryz.prog 88 aUf:=⟨Tryz.underlying88,⟨Tryz.t88,_,by kernel_rfl,rfl,rfl,rfl,rfl⟩,rfl,rfl,by decide,by decide⟩
theorem aSt:eV Tryz.prog 91 aUg:=⟨⟨_,Tryz.underlying91,rfl⟩,⟨Tryz.t91,_,by kernel_rfl,rfl,rfl,rfl,rfl⟩,rfl,rfl,by decide,by decide⟩
theorem aSu:eV Tryz.prog 92 aUh:=⟨⟨_,Tryz.underlying92,rfl⟩,⟨Tryz.t92,_,by kernel_rfl,rfl,rfl,rfl,rfl⟩,rfl,rfl,by decide,by decide⟩
theorem aOq:eV Tryz.prog 134 aQg:=⟨Tryz.underlying134,⟨Tryz.t134,_,by kernel_rfl,rfl,rfl,rfl,rfl⟩,rfl,rfl,by decide,by decide⟩
theorem aOr:eV Tryz.prog 135 aQh:=⟨⟨_,Tryz.underlying135,rfl⟩,⟨Tryz.t135,_,by kernel_rfl,rfl,rfl,rfl,rfl⟩,rfl,rfl,by decide,by decide⟩
theorem aOs:eV Tryz.prog 136 aQi:=⟨⟨_,Tryz.underlying136,rfl⟩,⟨Tryz.t136,_,by kernel_rfl,rfl,rfl,rfl,rfl⟩,rfl,rfl,by decide,by decide⟩
theorem aOt:eV Tryz.prog 139 aQj:=⟨⟨_,Tryz.underlying139,rfl⟩,⟨Tryz.t139,_,by kernel_rfl,rfl,rfl,rfl,rfl⟩,rfl,rfl,by decide,by decide⟩
theorem aOu:eV Tryz.prog 140 aQk:=⟨⟨_,Tryz.underlying140,rfl⟩,⟨Tryz.t140,_,by kernel_rfl,rfl,rfl,rfl,rfl⟩,rfl,rfl,by decide,by decide⟩
theorem aOv:eV Tryz.prog 145 aQl:=⟨Tryz.underlying145,⟨Tryz.t145,_,by kernel_rfl,rfl,rfl,rfl,rfl⟩,rfl,rfl,by decide,by decide⟩
theorem aOw:eV Tryz.prog 146 aQm:=⟨Tryz.underlying146,⟨Tryz.t146,_,by kernel_rfl,rfl,rfl,rfl,rfl⟩,rfl,rfl,by decide,by decide⟩
theorem aOx:eV Tryz.prog 154 aQn:=⟨⟨_,Tryz.underlying154,rfl⟩,⟨Tryz.t154,_,by kernel_rfl,rfl,rfl,rfl,rfl⟩,rfl,rfl,by decide,by decide⟩
theorem aOy:eV Tryz.prog 155 aQo:=⟨⟨_,Tryz.underlying155,rfl⟩,⟨Tryz.t155,_,by kernel_rfl,rfl,rfl,rfl,rfl⟩,rfl,rfl,by decide,by decide⟩
theorem aOz:eV Tryz.prog 160 aQp:=⟨Tryz.underlying160,⟨Tryz.t160,_,by kernel_rfl,rfl,rfl,rfl,rfl⟩,rfl,rfl,by decide,by decide⟩
theorem aO0:eV Tryz.prog 162 aQq:=⟨Tryz.underlying162,⟨Tryz.t162,_,by kernel_rfl,rfl,rfl,rfl,rfl⟩,rfl,rfl,by decide,by decide⟩
theorem aO1:eV Tryz.prog 163 aQr:=⟨Tryz.underlying163,⟨Tryz.t163,_,by kernel_rfl,rfl,rfl,rfl,rfl⟩,rfl,rfl,by decide,by decide⟩
theorem aO2:eV Tryz.prog 170 aQs:=⟨⟨_,Tryz.underlying170,rfl⟩,⟨Tryz.t170,_,by kernel_rfl,rfl,rfl,rfl,rfl⟩,rfl,rfl,by decide,by decide⟩
theorem aO3:eV Tryz.prog 171 aQt:=⟨⟨_,Tryz.underlying171,rfl⟩,⟨Tryz.t171,_,by kernel_rfl,rfl,rfl,rfl,rfl⟩,rfl,rfl,by decide,by decide⟩
theorem aO4:eV Tryz.prog 172 aQu:=⟨Tryz.underlying172,⟨Tryz.t172,_,by kernel_rfl,rfl,rfl,rfl,rfl⟩,rfl,rfl,by decide,by decide⟩
theorem aO5:eV Tryz.prog 174 aQv:=⟨⟨_,Tryz.underlying174,rfl⟩,⟨Tryz.t174,_,by kernel_rfl,rfl,rfl,rfl,rfl⟩,rfl,rfl,by decide,by decide⟩
theorem aO6:eV Tryz.prog 175 aQw:=⟨⟨_,Tryz.underlying175,rfl⟩,⟨Tryz.t175,_,by kernel_rfl,rfl,rfl,rfl,rfl⟩,rfl,rfl,by decide,by decide⟩
theorem aO7:eV Tryz.prog 177 aQx:=⟨⟨_,Tryz.underlying177,rfl⟩,⟨Tryz.t177,_,by kernel_rfl,rfl,rfl,rfl,rfl⟩,rfl,rfl,by decide,by decide⟩
theorem aO8:eV Tryz.prog 178 aQy:=⟨⟨_,Tryz.underlying178,rfl⟩,⟨Tryz.t178,_,by kernel_rfl,rfl,rfl,rfl,rfl⟩,rfl,rfl,by decide,by decide⟩
theorem aO9:eV Tryz.prog 181 aQz:=⟨Tryz.underlying181,⟨Tryz.t181,_,by kernel_rfl,rfl,rfl,rfl,rfl⟩,rfl,rfl,by decide,by decide⟩
theorem aPa:eV Tryz.prog 192 aQ0:=⟨Tryz.underlying192,⟨Tryz.t192,_,by kernel_rfl,rfl,rfl,rfl,rfl⟩,rfl,rfl,by decide,by decide⟩
theorem aPb:eV Tryz.prog 193 aQ1:=⟨Tryz.underlying193,⟨Tryz.t193,_,by kernel_rfl,rfl,rfl,rfl,rfl⟩,rfl,rfl,by decide,by decide⟩
theorem aPc:eV Tryz.prog 219 aQ2:=⟨⟨_,Tryz.underlying219,rfl⟩,⟨Tryz.t219,_,by kernel_rfl,rfl,rfl,rfl,rfl⟩,rfl,rfl,by decide,by decide⟩
theorem aPd:eV Tryz.prog 220 aQ3:=⟨⟨_,Tryz.underlying220,rfl⟩,⟨Tryz.t220,_,by kernel_rfl,rfl,rfl,rfl,rfl⟩,rfl,rfl,by decide,by decide⟩
theorem aPe:eV Tryz.prog 225 aQ4:=⟨Tryz.underlying225,⟨Tryz.t225,_,by kernel_rfl,rfl,rfl,rfl,rfl⟩,rfl,rfl,by decide,by decide⟩
theorem aPf:eV Tryz.prog 226 aQ5:=⟨Tryz.underlying226,⟨Tryz.t226,_,by kernel_rfl,rfl,rfl,rfl,rfl⟩,rfl,rfl,by decide,by decide⟩
theorem aPg:eV Tryz.prog 228 aQ6:=⟨Tryz.underlying228,⟨Tryz.t228,_,by kernel_rfl,rfl,rfl,rfl,rfl⟩,rfl,rfl,by decide,by decide⟩
theorem aPh:eV Tryz.prog 229 aQ7:=⟨Tryz.underlying229,⟨Tryz.t229,_,by kernel_rfl,rfl,rfl,rfl,rfl⟩,rfl,rfl,by decide,by decide⟩
theorem aPi:eV Tryz.prog 230 aQ8:=⟨Tryz.underlying230,⟨Tryz.t230,_,by kernel_rfl,rfl,rfl,rfl,rfl⟩,rfl,rfl,by decide,by decide⟩
theorem dH:dR Tryz.prog tab:=by
 intro t x h
 unfold tab at h
 split at h
 · cases h;exact aUi
 · cases h;exact aUj
 · cases h;exact aUk
 · cases h;exact aUl
 · cases h;exact aUm
 · cases h;exact aUn
 · cases h;exact aUo
 · cases h;exact aUp
 · cases h;exact aRs
 · cases h;exact aRt
 · cases h;exact aRu
 · cases h;exact aRv
 · cases h;exact aRw
 · cases h;exact aRx
 · cases h;exact aRy
 · cases h;exact aRz
 · cases h;exact aR0
 · cases h;exact aR1
 · cases h;exact aR2
 · cases h;exact aR3
 · cases h;exact aR4
 · cases h;exact aR5
 · cases h;exact aR6
 · cases h;exact aR7
 · cases h;exact aR8
 · cases h;exact aR9
 · cases h;exact aSa
 · cases h;exact aSb
 · cases h;exact aSc
 · cases h;exact aSd
 · cases h;exact aSe
 · cases h;exact aSf
 · cases h;exact aSg
 · cases h;exact aSh
 · cases h;exact aSi
 · cases h;exact aSj
 · cases h;exact aSk
 · cases h;exact aSl
 · cases h;exact aSm
 · cases h;exact aSn
 · cases h;exact aSo
 · cases h;exact aSp
 · cases h;exact aSq
 · cases h;exact aSr
 · cases h;exact aSs
 · cases h;exact aSt
 · cases h;exact aSu
 · cases h;exact aOq
 · cases h;exact aOr
 · cases h;exact aOs
 · cases h;exact aOt
 · cases h;exact aOu
 · cases h;exact aOv
 · cases h;exact aOw
 · cases h;exact aOx
 · cases h;exact aOy
 · cases h;exact aOz
 · cases h;exact aO0
 · cases h;exact aO1
 · cases h;exact aO2
 · cases h;exact aO3
 · cases h;exact aO4
 · cases h;exact aO5
 · cases h;exact aO6
 · cases h;exact aO7
 · cases h;exact aO8
 · cases h;exact aO9
 · cases h;exact aPa
 · cases h;exact aPb
 · cases h;exact aPc
 · cases h;exact aPd
 · cases h;exact aPe
 · cases h;exact aPf
 · cases h;exact aPg
 · cases h;exact aPh
 · cases h;exact aPi
 · cases h
end Go.Proofs.YtcbjphphppaoiaaGreatDoor
namespace Go.Ab
open Int renaming toNat_natCast→aU4,tmod→aVg
open List renaming length_append→aU5,length_nil→aU8,length_cons→aU9,getD_eq_getElem?_getD→aVb,length_take→aVc,getElem?_eq_getElem→aVd,getElem?_eq_some_iff→aVe,range→aVh,all_eq_true→aVi,mem_map→aVj,length_drop→aVk,take_length→aVl,mem_cons→aVm,mem_singleton→aVn,mem_iff_getElem?→aVp
open Nat renaming le_of_ble_eq_true→aU6,zero_le→aVa,le_refl→aVf,add_mul→aVo
open Bool renaming and_eq_true→aU7
open Go Go.RowKit
set_option linter.unusedVariables false
set_option linter.unusedSimpArgs false
def db:D→Int| .i n=>n|_=>0
def toU:D→Int| .u n=>n|_=>0
def toB:D→Bool| .b x=>x|_=>false
def toS:D→List UInt8| .s l=>l|_=>[]
def toSl:D→List (List D)| .sl r=>r|_=>[]
def av (z:C) (d:D):D:=match z with
 | .d (.i _)=> .i (db d)
 | .d (.u _)=> .u (toU d)
 | .d (.b _)=> .b (toB d)
 | .d (.s _)=> .s (toS d)
 | .nil=> .sl (toSl d)
 |_=>d
def gI:List C→List D→Nat→List D
 | [],_,_=>[]
 |z::zs,cs,k=>av z (cs.getD k (.i 0))::gI zs cs (k+1)
def iq (ti:TI) (l:List D):Option V:=if ti.kind.agg then some (.e (.agg (l.map C.d))) else match l with|d::_=>some (Dv d)| []=>none
def aGj (T:gQ) (σ:St) (t:TypeId):V→Option (Prop×List (dF×Option K)×V)
 | .e (.c (.pe ob n i k))=>match T t,aU σ (.o ob) with
  |some ti,some (.row e es rows)=>match iq ti (gI ti.zero (rows.getD i []) k) with
   |some X=>some ((rows.length=n∧i<n)∧k+ti.size≤(rows.getD i []).length∧((rows.getD i []).drop k).take ti.size=gI ti.zero (rows.getD i []) k,[(.o ob,some (.row e es rows))],X)
   |none=>none
  |_,_=>none
 | .e (.c (.rp cs))=>match T t with
  |some ti=>match iq ti (gI ti.zero cs 0) with
   |some X=>some (ti.size≤cs.length∧cs.take ti.size=gI ti.zero cs 0,[],X)
   |none=>none
  |none=>none
 |X=>rn T σ t X
theorem oo {ti:TI} {l:List D} {X:V} (h:iq ti l=some X): (ti.kind.agg=true∧X= .e (.agg (l.map C.d)))∨(ti.kind.agg=false∧ ∃d r,l=d::r∧X=Dv d):=by
 unfold iq at h
 split at h
 · rename_i ha;cases h;exact .inl ⟨ha,rfl⟩
 · rename_i ha
   split at h
   · cases h;exact .inr ⟨by simpa using ha,_,_,rfl,rfl⟩
   · cases h
theorem aGk {P:Program} {T:gQ} (hT:dR P T) {σ:St} {t:TypeId} {X:V} {p:Prop} {R:List (dF×Option K)} {Y:V} (h:aGj T σ t X=some (p,R,Y)) (hp:p): ∃q,rn T σ t X=some (q,R,Y)∧q:=by
 have hd: ∀(l:List D) (k n:Nat) (m:List D) (d:D) (r:List D),0<n→k+n≤l.length→(l.drop k).take n=m→m=d::r→l.getD k (.i 0)=d∧k<l.length:=by
  intro l k n m d r hn hk h1 h2
  subst h1
  cases n with
  |zero=>omega
  |succ n=>
   have hk':k<l.length:=by omega
   rw[List.drop_eq_getElem_cons hk',List.take_succ_cons] at h2
   cases h2
   exact⟨by rw[aVb,aVd hk'];rfl,hk'⟩
 unfold aGj at h
 split at h
 · rename_i ob n i k
   split at h<;>try(cases h;done)
   rename_i ti e es rows ht hl
   split at h<;>try(cases h;done)
   rename_i Z hz
   cases h
   obtain⟨⟨h1,h2⟩,h3,h4⟩:=hp
   simp only[rn,ht,hl]
   rcases oo hz with⟨ha,rfl⟩|⟨ha,d,r,hm,rfl⟩
   · rw[if_pos ha]
     refine⟨_,by rw[h4],?_⟩;exact⟨h1,h2,h3⟩
   · rw[if_neg (by simp[ha])]
     obtain⟨q1,q2⟩:=hd _ _ _ _ d r (hT t ti ht).pos h3 h4 hm
     refine⟨_,by rw[q1],?_⟩;exact⟨h1,h2,q2⟩
 · rename_i cs
   split at h<;>try(cases h;done)
   rename_i ti ht
   split at h<;>try(cases h;done)
   rename_i Z hz
   cases h
   obtain⟨h3,h4⟩:=hp
   simp only[rn,ht]
   rcases oo hz with⟨ha,rfl⟩|⟨ha,d,r,hm,rfl⟩
   · rw[if_pos ha]
     refine⟨_,by rw[h4],?_⟩;exact h3
   · rw[if_neg (by simp[ha])]
     obtain⟨q1,q2⟩:=hd cs 0 _ _ d r (hT t ti ht).pos (by simpa using h3) (by simpa using h4) hm
     refine⟨_,by rw[q1],?_⟩;exact q2
 · exact⟨p,h,hp⟩
theorem aJ6 {P:Program} {o:Oper} {σ:St} {x:Operand} {d:Option Tmp} {f g:V→Option (Prop×List (dF×Option K)×V)} (hfg: ∀X p R Y,g X=some (p,R,Y)→p→ ∃q,f X=some (q,R,Y)∧q)
 (h:lS P o σ (kJ σ x d f)):lS P o σ (kJ σ x d g):=by
 intro p R W hg hp
 unfold kJ at hg
 split at hg<;>try(cases hg;done)
 rename_i X Rx d hx
 split at hg<;>try(cases hg;done)
 rename_i p' R' Y hgx
 cases hg
 obtain⟨q,h1,h2⟩:=hfg _ _ _ _ hgx hp
 exact h q _ _ (by simp only[kJ,hx,h1]) h2
theorem aw {P:Program} {w:World} {t:TypeId} (hu:P.underlying t=some .bool) (x y:Bool): (Op.equal t (.bool x) (.bool y)).run P w= .ok (x==y) w:=by
 unfold Op.equal
 rw[show Op.maxDepth=(Op.maxDepth - 1)+1 from rfl]
 unfold Op.equalIn
 rw[Sem.run_bind,run_underlying hu];rfl
theorem ax {P:Program} {w:World} {t:TypeId} (hu:P.underlying t=some .bool) (x y:Bool) (ox oy:Operand):
 (do eqGuard .eql t ox oy (.bool x) (.bool y);binOp .eql t (.bool x) (.bool y):Sem Value).run P w= .ok (.bool (x==y)) w∧
 (do eqGuard .neq t ox oy (.bool x) (.bool y);binOp .neq t (.bool x) (.bool y):Sem Value).run P w= .ok (.bool (!(x==y))) w:=by
 constructor
 · rw[Sem.run_bind,xA,Result.andThen_ok]
   show(do pure (.bool (← Op.equal t (.bool x) (.bool y))):Sem Value).run P w=_
   rw[Sem.run_bind,aw hu];rfl
 · rw[Sem.run_bind,xA,Result.andThen_ok]
   show(do pure (.bool (!(← Op.equal t (.bool x) (.bool y)))):Sem Value).run P w=_
   rw[Sem.run_bind,aw hu];rfl
def aMo (T:gQ) (t:TypeId) (op:BinOp):V→V→Option (Prop×List (dF×Option K)×V)
 | .e (.c (.d (.b x))),.e (.c (.d (.b y)))=>match T t with
  |some ti=>match ti.kind,op with
   | .bool,.eql=>some (True,[],B (x==y))
   | .bool,.neq=>some (True,[],B (!(x==y)))
   |_,_=>none
  |none=>none
 |X,Y=>aOj op X Y
def aMp (T:gQ) (t:TypeId) (op:BinOp):V→V→Option (Prop×List (dF×Option K)×V)
 | .e (.c (.d (.b x))),.e (.c (.d (.b y)))=>match T t with
  |some ti=>match ti.kind,op with
   | .bool,.eql=>some (True,[],B (x==y))
   | .bool,.neq=>some (True,[],B (!(x==y)))
   |_,_=>none
  |none=>none
 |X,Y=>none
theorem aJ7 {P:Program} {T:gQ} (hT:dR P T) {o:Oper} {σ0:St} {op:BinOp} {t u:TypeId} {x y:Operand} (ho:o.op= .binOp op t x y u):lS P o σ0 (qW σ0 x y o.dst (aMp T t op)):=by
 refine rA fun X Y p R Z h hp=> ?_
 unfold aMp at h
 split at h
 · rename_i a b
   split at h<;>try(cases h;done)
   rename_i ti ht
   have hk: (ti.kind= .bool∧op= .eql∧R=[]∧Z=B (a==b))∨(ti.kind= .bool∧op= .neq∧R=[]∧Z=B (!(a==b))):=by
    split at h
    · rename_i hk;cases h;exact .inl ⟨hk,rfl,rfl,rfl⟩
    · rename_i hk;cases h;exact .inr ⟨hk,rfl,rfl,rfl⟩
    · cases h
   have hu:=(hT t ti ht).kind
   have hkk:ti.kind= .bool:=by rcases hk with h|h<;>exact h.1
   rw[hkk] at hu;simp only[lU] at hu
   rcases hk with⟨_,rfl,rfl,rfl⟩|⟨_,rfl,rfl,rfl⟩
   all_goals
    refine⟨bL.nil,fun cx σ ι S ac w _ _ hx hy=> ?_⟩
    simp only[lR,ER,CR] at hx hy
    cases hv:ac.eval x<;>rw[hv] at hx<;>cases hx
    cases hv2:ac.eval y<;>rw[hv2] at hy<;>cases hy
   · refine⟨_,?_,.b _⟩
     have:=(ax (w:=w) hu a b x y).1
     unfold execOp;simp only[ho,hv,hv2];rw[Sem.run_bind,this];rfl
   · refine⟨_,?_,.b _⟩
     have:=(ax (w:=w) hu a b x y).2
     unfold execOp;simp only[ho,hv,hv2];rw[Sem.run_bind,this];rfl
 · cases h
theorem aJ8 {P:Program} {T:gQ} (hT:dR P T) {o:Oper} {σ0:St} {op:BinOp} {t u:TypeId} {x y:Operand} (ho:o.op= .binOp op t x y u):lS P o σ0 (qW σ0 x y o.dst (aMo T t op)):=by
 intro p R W h hp
 unfold qW at h
 split at h<;>try(cases h;done)
 rename_i X Rx Y Ry d hd hx hy
 split at h<;>try(cases h;done)
 rename_i p' R' Z hf
 cases h
 unfold aMo at hf
 split at hf
 · exact aJ7 (P:=P) (σ0:=σ0) hT ho p _ _ (by simp only[qW,hx,hy,hd,aMp];simp only[hf]) hp
 · exact aC3 (P:=P) (σ:=σ0) ho p _ _ (by simp only[qW,hx,hy,hf,hd]) hp
def aGl (T:gQ) (o:Oper) (σ:St) (s d:TypeId) (x:Operand):xg:=
 match T s,T d with
 |some si,some di=>match si.kind,di.kind with
  | .sl e,.str=>match T e with
   |some ei=>match ei.kind with
    | .int .u8=>kJ σ x o.dst (aRm σ)
    |_=>none
   |none=>none
  | .str,.sl e=>match T e with
   |some ei=>match ei.kind with
    | .int .u8=>aRn σ x e o.dst
    |_=>none
   |none=>none
  |_,_=>zb T o σ
 |_,_=>none
def aGm (T:gQ) (o:Oper) (σ:St) (c:Call):xg:=
 match c.callee,c.args.toList,c.argTypes.toList with
 | .builtin .copy,[x,y],[t,t2]=>aMh T σ t t2 x y o.dst
 |_,_,_=>zb T o σ
def aBe (T:gQ) (o:Oper) (σ:St):xg:=
 match o.op with
 | .load t x=>kJ σ x o.dst (aGj T σ t)
 | .binOp op t x y u=>qW σ x y o.dst (aMo T t op)
 | .convert s d x=>aGl T o σ s d x
 | .call c=>aGm T o σ c
 |_=>zb T o σ
theorem aGn {P:Program} {T:gQ} (hT:dR P T) {o:Oper} {σ:St} {s d:TypeId} {x:Operand} (ho:o.op= .convert s d x):lS P o σ (aGl T o σ s d x):=by
 unfold aGl
 split
 · rename_i si di hs hd
   split
   · rename_i e hk1 hk2
     split
     · rename_i ei he
       split
       · rename_i hek
         exact aMf hT ho hs hk1 he hek hd hk2
       · exact nT
     · exact nT
   · rename_i e hk1 hk2
     split
     · rename_i ei he
       split
       · rename_i hek
         exact aMg hT ho hs hk1 he hek hd hk2
       · exact nT
     · exact nT
   · exact yD hT o σ
 · exact nT
theorem aGo {P:Program} {T:gQ} (hT:dR P T) {o:Oper} {σ:St} {c:Call} (ho:o.op= .call c):lS P o σ (aGm T o σ c):=by
 obtain⟨callee,args,argTypes⟩:=c
 unfold aGm
 dsimp only
 split
 · rename_i x y t t2 ha hat
   obtain rfl:args= #[x,y]:=Array.toList_inj.1 (by simpa using ha)
   obtain rfl:argTypes= #[t,t2]:=Array.toList_inj.1 (by simpa using hat)
   exact aJz hT ho
 · exact yD hT o σ
theorem oq {P:Program} {T:gQ} (hT:dR P T) (o:Oper) (σ:St):lS P o σ (aBe T o σ):=by
 unfold aBe
 split
 · rename_i ho;exact aJ6 (fun X p R Y h hp=>aGk hT h hp) (yw hT ho)
 · rename_i ho;exact aJ8 hT ho
 · rename_i ho;exact aGn hT ho
 · rename_i ho;exact aGo hT ho
 · exact yD hT o σ
def aIz:dF→dF→Bool
 | .t a,.t b=>Nat.beq a b
 | .o a,.o b=>Nat.beq a b
 |_,_=>false
theorem zf {a b:dF}:aIz a b=true↔a=b:=by
 cases a<;>cases b<;>simp[aIz]
def qb:St→dF→K→(St→Prop)→Prop
 | [],m,k,c=>c [(m,k)]
 |p::r,m,k,c=>match aIz p.1 m with
  |true=>c ((m,k)::r)
  |false=>qb r m k fun r'=>c (p::r')
theorem oL: ∀{σ:St} {m:dF} {k:K} {c:St→Prop},qb σ m k c↔c (pM σ m k)
 | [],m,k,c=>Iff.rfl
 |p::r,m,k,c=>by
  unfold qb pM
  by_cases h:p.1=m
  · rw[zf.2 h,if_pos h]
  · have:aIz p.1 m=false:=by rw[← Bool.not_eq_true,zf];exact h
    rw[this,if_neg h]
    exact oL
def aBf:List C→(List C→Prop)→Prop
 | [],c=>c []
 |x::r,c=>aBf r fun r'=>c (x::r')
theorem se: ∀{l:List C} {c:List C→Prop},aBf l c↔c l
 | [],c=>Iff.rfl
 |x::r,c=>by unfold aBf;exact se
def aGp:K→(K→Prop)→Prop
 | .box ty cs,c=>aBf cs fun cs'=>c (.box ty cs')
 |k,c=>c k
theorem aGq {k:K} {c:K→Prop}:aGp k c↔c k:=by
 cases k<;>simp only[aGp]
 exact se
def nC:St→List (dF×K)→(St→Prop)→Prop
 |σ,[],c=>c σ
 |σ,p::r,c=>aGp p.2 fun k=>qb σ p.1 k fun σ'=>nC σ' r c
theorem kP: ∀{W:List (dF×K)} {σ:St} {c:St→Prop},nC σ W c↔c (iL σ W)
 | [],σ,c=>Iff.rfl
 |p::r,σ,c=>by unfold nC iL;rw[aGq,oL];exact kP
def aI0 (P:Program) (T:gQ) (o:Oper) (σ:St) (k:List (dF×Option K)→List (dF×K)→Prop):Prop:=
 match aBe T o σ with
 |some (p,R,W)=>p∧k R W
 |none=> ∃R W,wY P o R W∧bL R σ∧k R W
theorem ot {P:Program} {T:gQ} (hT:dR P T) {o:Oper} {σ:St} {k:List (dF×Option K)→List (dF×K)→Prop} (h:aI0 P T o σ k): ∃R W,wY P o R W∧bL R σ∧k R W:=by
 unfold aI0 at h
 split at h
 · rename_i p R W he
   obtain⟨h1,h2⟩:=oq hT o σ p R W he h.1
   exact⟨R,W,h1,h2,h.2⟩
 · exact h
def goS (P:Program) (T:gQ) (ops:List Oper) (dr:Bool):List Oper→St→List eg→(St→List eg→Prop)→Prop
 | [],σ,acc,k=>k σ acc
 |o::os,σ,acc,k=>match o.guard with
  |none=>aI0 P T o σ fun R W=>nC σ W fun σ'=>goS P T ops dr os σ' (match dr with|true=>acc++[pF (R,W)]|false=>[]) k
  |some (j,want)=>match(ops[j]?).bind (·.dst) with
   |some s=>match aU σ (.t s) with
    |some (.v (.e (.c (.d (.b x)))))=>
     (x=want→aI0 P T o σ fun R W=>nC σ W fun σ'=>goS P T ops dr os σ' (match dr with|true=>acc++[pF ((.t s,none)::R,W)]|false=>[]) k)∧
     (x= !want→nC σ (zc o) fun σ'=>goS P T ops dr os σ' (match dr with|true=>acc++[pF ([(.t s,none)],zc o)]|false=>[]) k)
    |_=>False
   |none=>False
theorem xE {P:Program} {T:gQ} (hT:dR P T) {ops:Array Oper} {dr:Bool} {k:St→List eg→Prop}: ∀(l:List Oper) (σ:St) (acc:List eg),goS P T ops.toList dr l σ acc k→
 ∃ts:List mD,zP P ops l ts∧kB ts σ∧ ∃acc',(dr=true→acc'=acc++ts.map pF)∧k (fF ts σ) acc'
 | [],σ,acc,h=>⟨[],trivial,trivial,acc,fun _=>by simp,by simpa[goS,fF] using h⟩
 |o::os,σ,acc,h=>by
  simp only[goS] at h
  split at h
  · rename_i hg
    obtain⟨R,W,h1,h2,h3⟩:=ot hT h
    rw[kP] at h3
    obtain⟨ts,q1,q2,acc',q3,q4⟩:=xE hT os _ _ h3
    refine⟨(R,W)::ts,⟨ao hg h1,q1⟩,⟨h2,q2⟩,acc',fun hd=> ?_,by simpa[fF] using q4⟩
    rw[q3 hd];subst hd;simp
  · rename_i j want hg
    split at h<;>try(exact h.elim)
    rename_i s hs
    split at h<;>try(exact h.elim)
    rename_i x hl
    have hs': (ops[j]?).bind (·.dst)=some s:=by simpa using hs
    by_cases hx:x=want
    · subst hx
      obtain⟨R,W,h1,h2,h3⟩:=ot hT (h.1 rfl)
      rw[kP] at h3
      obtain⟨ts,q1,q2,acc',q3,q4⟩:=xE hT os _ _ h3
      refine⟨((.t s,some (.v (B x)))::R,W)::ts,⟨aC8 hg hs' h1,q1⟩,⟨fun p hp=> ?_,q2⟩,acc',fun hd=> ?_,by simpa[fF] using q4⟩
      · rcases aVm.1 hp with rfl|hp
        · exact hl
        · exact h2 p hp
      · rw[q3 hd];subst hd;simp[pF]
    · have hx':x= !want:=by cases x<;>cases want<;>simp_all
      have h3:=h.2 hx'
      rw[kP] at h3
      obtain⟨ts,q1,q2,acc',q3,q4⟩:=xE hT os _ _ h3
      subst hx'
      refine⟨([(.t s,some (.v (B (!want))))],zc o)::ts,⟨aIt hg hs' rfl,q1⟩,⟨bL.one hl,q2⟩,acc',fun hd=> ?_,by simpa[fF] using q4⟩
      rw[q3 hd];subst hd;simp[pF]
section
variable {P:Program} {io:List Nat} {Q:Ex→St→Prop} {σ:St}
theorem SW.text {T:gQ} (hT:dR P T) (hm:P.follows .mixedOrders=true) {id:Nat} {ops:Array Oper} (h:goS P T ops.toList false ops.toList σ [] fun σ' _=>Q .norm σ'):SW P io (.region id ops false) Q σ:=by
 intro cx ι S a w hio hw hf
 have hfit: ∀o∈ops.toList,∀d,o.dst=some d→d<cx.N:=fun o ho=>xX (by simpa[sX] using hf) ho
 obtain⟨ts,h1,h2,acc,_,h4⟩:=xE hT ops.toList σ [] h
 exact wp_region_list (xY ops.toList ts σ ι S a w h1 h2 hw hfit fun ι' S' a' w' hw'=>⟨_,ι',S',h4,hw'⟩)
theorem SW.drawn {T:gQ} (hT:dR P T) (hm:P.follows .mixedOrders=true) {id:Nat} {ops:Array Oper} (h:goS P T ops.toList true ops.toList σ [] fun σ' ns=>wJ ops.toList ns=true∧Q .norm σ'):SW P io (.region id ops true) Q σ:=by
 intro cx ι S a w hio hw hf
 have hfit: ∀o∈ops.toList,∀d,o.dst=some d→d<cx.N:=fun o ho=>xX (by simpa[sX] using hf) ho
 obtain⟨ts,h1,h2,acc,h3,h4,h5⟩:=xE hT ops.toList σ [] h
 have h3:=h3 rfl
 rw[List.nil_append] at h3
 subst h3
 have hlen: ∀(l:List Oper) (ts:List mD),zP P ops l ts→ts.length=l.length∧ ∀(i:Nat) o t,l[i]? =some o→ts[i]? =some t→ItT P ops o t:=by
  intro l
  induction l with
  |nil=>intro ts h;cases ts with
   |nil=>exact⟨rfl,by simp⟩
   |cons t ts=>exact h.elim
  |cons o os ih=>intro ts h;cases ts with
   |nil=>exact h.elim
   |cons t ts=>
    obtain⟨q1,q2⟩:=ih ts h.2
    refine⟨by simp[q1],fun i o' t' ho ht=> ?_⟩
    cases i with
    |zero=>simp at ho ht;subst ho;subst ht;exact h.1
    |succ i=>exact q2 i o' t' (by simpa using ho) (by simpa using ht)
 obtain⟨q1,q2⟩:=hlen _ _ h1
 refine wp_region_any hm (cy (cx:=cx) (σ:=σ) (ts:=ts) (by simpa using q1) (fun i o t ho ht=>q2 i o t (by simpa using ho) ht) h2 (by simpa[pN,wJ] using h4) hfit (fun ι' S' a' w' hw'=>⟨_,ι',S',h5,hw'⟩)
  ops.size (Array.replicate ops.size false) σ ι S a _ (by simp) (fun l=> ?_) hw.drew (fun k o ho hk=> ?_) ?_)
 · have hL: ∀i,(Array.replicate ops.size false).getD i false=false:=fun i=>by
    rw[Array.getD_eq_getD_getElem?,Array.getElem?_replicate];split<;>rfl
   have: ∀n,part ts (fun i=>(Array.replicate ops.size false).getD i false) σ l n=aU σ l:=by
    intro n
    induction n with
    |zero=>rfl
    |succ n ih=>rw[mP,if_neg (by rw[hL];simp),ih]
   rw[this]
 · rw[Array.getD_eq_getD_getElem?,Array.getElem?_replicate] at hk;split at hk<;>cases hk
 · exact Nat.le_trans (List.length_filter_le _ _) (by simp)
end
end Go.Ab
