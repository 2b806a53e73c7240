/- Plain functions, and contracts of the functions that the law reaches. -/
import Derived.Shelf.Vars
import Derived.Stop.LaidErr
import Derived.MakeChecks
import Derived.Test.YthbgjfegalcenaaGreatDoorB4
namespace Go.Proofs.YthbgjfegalcenaaGreatDoor
open Int renaming toNat_natCast→aWz
open List renaming length_append→aW0,length_nil→aW2,length_cons→aW3,length_take→aW5,getD_eq_getElem?_getD→aW7,getElem?_eq_getElem→aW8,length_drop→aW9,getElem?_eq_some_iff→aXb,range→aXc,mem_map→aXd,all_eq_true→aXe,take_length→aXf
open Nat renaming le_of_ble_eq_true→aW1,zero_le→aW6,le_refl→aXa
open Bool renaming and_eq_true→aW4
open Go Go.Ab Go.RowKit
set_option linter.unusedVariables false
set_option linter.unusedSimpArgs false
set_option maxRecDepth 9000
set_option maxHeartbeats 1600000 in
theorem jq (l:List UInt8) (hl:l.length≤140737488355328):Sp 3 1 [tD 0 (.sl (aA l))] [tB 0 true]:=by
 refine sb Tryz.func3 rfl (sq (rT [0] (s1 (sq (sq (rT [0,12] (s3 (cd rfl (fun c12=> ?_) fun c12=> ?_))))))))
 · refine sq (rT [2] (s1 (rt (bJ rfl ?_))))
   rfl
 refine sk (sq (rE [3] (s1 (cQ (robj:=[]) (rl:=[]) (bor:=[]) (news:=[]) (eh l hl) rfl rfl rfl rfl ⟨cJ rfl rfl trivial,rfl⟩ (by rintro _ ⟨k,hkq,rfl⟩;exact⟨rfl,.inl rfl,fun j hj=>nomatch hj⟩) (fun p hp=>nomatch hp) (fun j hj=>nomatch hj) ?_))))
 rintro _ ⟨k,hkq,rfl⟩
 have hg:=hkq.kg
 have hkl:=hkq.1
 have hkb:=xR k
 refine s2 (sq (rT [3,4] (s1 (xp (nh k (by omega)) (ai rfl ?_)))))
 refine s2 (sq (rT [3,4,5] (s1 (xp (fM k hg.log) (ai rfl ?_)))))
 refine s2 (sq (sq (rD [3,4,5,34] (s2 (xp (kM (bM k) hkb) (ai rfl ?_))))))
 refine s2 (y1 (xc (fun h=>(iV k hg.log)) (ai rfl (ai rk ?_))))
 refine y1 (xc (fun h=>(eL k hg.log)) (ai rfl (ai rk ?_)))
 refine y1 (ai pk (s1 (y1 (xc (fun h=>(eL k hg.log)) (ai rfl (ai rk ?_))))))
 refine y1 (ai pk (ai (by kernel_rfl) (cd rfl (fun c34=> ?_) fun c34=> ?_)))
 · refine sq (rD [2] (s2 (xp (kM (bM k) hkb) (ai rfl ?_))))
   refine s1 (y1 (xc (fun h=>(iV k hg.log)) (ai rfl (ai rk ?_))))
   refine y1 (xc (fun h=>(eL k hg.log)) (ai rfl (ai rk ?_)))
   refine y1 (ai pk (s1 (ai (by kernel_rfl) (rt (bJ rfl (congrArg D.b ?_))))))
   simp[gb]
 have hok:aT k=true:=by simpa[gb] using c34
 have hx:dS k.id (bD k.log).1=(bM k,true):=aKw hok
 have hn:=(iM (fY.1 hok).2.1).2.2.1
 refine sk (sq (rT [3,5,6,7] (s3 (xp (gZ k.log (by omega)) (ai rfl ?_)))))
 refine s5 (sq (rT [3,5,7,8,9] (s3 (xp (xP k.id (bD k.log).1 (jF k.log (by omega)).1 (jF k.log (by omega)).2) (ai rfl ?_)))))
 refine s6 (sq (rD [2] (s2 (y2 (xc (fun h=>kM (bM k) (xR _)) (ai (by rw[hx];rfl) (ai rk ?_)))))))
 refine ai pk (s1 (y4 (y2 (ai pk (s1 (y2 (xc (fun h=>(jm k.id)) (ai rfl (ai rk ?_)))))))))
 refine y2 (xc (fun h=>(vX k.id)) (ai rfl (ai rk ?_)))
 refine xc (fun h=>gP (dU k.id) (KG.start k.id).hal) (ai rfl (ai rk ?_))
 refine ai pk (s1 (ai (by kernel_rfl) (rt (bJ rfl (congrArg D.b ?_)))))
 simp[gb,hx,hn]
set_option maxHeartbeats 1600000 in
theorem fv (l:List UInt8) (hl:l.length≤140737488355328):Sp 5 1 [tD 0 (.sl (aA l))] [tB 0 true]:=by
 refine sb Tryz.func5 rfl (sq (rT [0] (s1 (sq (sq (rT [0,8] (s3 (cd rfl (fun c8=> ?_) fun c8=> ?_))))))))
 · refine sq (rT [2] (s1 (rt (bJ rfl ?_))))
   rfl
 refine sk (sq (rE [3] (s1 (cQ (robj:=[]) (rl:=[]) (bor:=[]) (news:=[]) (cc l hl) rfl rfl rfl rfl ⟨cJ rfl rfl trivial,rfl⟩ (by rintro _ ⟨k,hkq,rfl⟩;exact⟨rfl,.inl rfl,fun j hj=>nomatch hj⟩) (fun p hp=>nomatch hp) (fun j hj=>nomatch hj) ?_))))
 rintro _ ⟨k,hkq,rfl⟩
 have hg:=hkq.kg
 have hkl:=hkq.1
 have hkb:=xR k
 have hgr:=hg.rise
 refine s2 (sq (rT [3,4] (s1 (xp (wV k hg.log) (ai rfl ?_)))))
 refine s2 (sq (rT [3,4,5] (s1 (xp (wW k hg.log) (ai rfl ?_)))))
 refine s2 (sq (sq (rT [3,4,5,23] (s2 (xp (gP (cS k) hgr.hal) (ai rfl ?_))))))
 refine s2 (y1 (xc (fun h=>(eL k hg.log)) (ai rfl (ai rk ?_))))
 refine y1 (ai pk (cd rfl (fun c23=> ?_) fun c23=> ?_))
 · refine sq (rT [2] (s2 (xp (gP (cS k) hgr.hal) (ai rfl ?_))))
   refine s1 (rt (bJ rfl ?_))
   rfl
 have hok:aT k=true:=by simpa[gb] using c23
 have hlaw:=aPy hok
 refine sk (sq (rD [2] (s3 (y1 (xc (fun h=>(fM (cS k) hgr.log)) (ai rfl (ai rk ?_)))))))
 refine y1 (xc (fun h=>(fM k hg.log)) (ai rfl (ai rk ?_)))
 refine xc (fun h=>kM (bM k) (xR _)) (ai (by rw[hlaw.2.1];rfl) (ai rk ?_))
 refine ai pk (s1 (y4 (aKg cX [.s (cS k).log,.i (cS k).forced] [.s k.log,.i k.forced] rfl rfl rfl (by kernel_rfl) (by kernel_rfl) (by kernel_rfl) (by kernel_rfl) rfl rfl rk (ai pk (s1 (y4 (y3 (ai (fun h=>pk) (ai rk (ai pk (s1 (ai (by kernel_rfl) (rt (bJ rfl (congrArg D.b ?_)))))))))))))))
 obtain⟨e1,e2,e3,e4,e5⟩:=hlaw
 rcases e5 with e5|e5<;>simp[gb,e1,e3,e4,e5,bu,eqD,aG]
set_option maxHeartbeats 1600000 in
theorem ej (l:List UInt8) (hl:l.length≤140737488355328):Sp 6 1 [tD 0 (.sl (aA l))] [tB 0 true]:=by
 refine sb Tryz.func6 rfl (sq (rT [0] (s1 (sq (sq (rT [0,10] (s3 (cd rfl (fun c10=> ?_) fun c10=> ?_))))))))
 · refine sq (rT [2] (s1 (rt (bJ rfl ?_))))
   rfl
 refine sk (sq (rE [3] (s1 (cQ (robj:=[]) (rl:=[]) (bor:=[]) (news:=[]) (aw l hl) rfl rfl rfl rfl ⟨cJ rfl rfl trivial,rfl⟩ (by rintro _ ⟨k,hkq,rfl⟩;exact⟨rfl,.inl rfl,fun j hj=>nomatch hj⟩) (fun p hp=>nomatch hp) (fun j hj=>nomatch hj) ?_))))
 rintro _ ⟨k,hkq,rfl⟩
 have hg:=hkq.kg
 have hkl:=hkq.1
 have hkb:=xR k
 have hgf:=hg.force
 refine s2 (sq (rT [3,4,5] (s1 (xp (vW k hg.log) (ai rfl ?_)))))
 refine s6 (sq (rT [3,4,5,6,7] (s1 (xp (jp k hg.log) (ai rfl ?_)))))
 refine s6 (sq (sq (rT [3,4,5,6,7,35] (s4 (y2 (xc (fun h=>gP (bX k).1 hgf.hal) (ai rfl (ai rk ?_))))))))
 refine y1 (ai pk (s1 (y2 (ai pk (cd rfl (fun c35=> ?_) fun c35=> ?_)))))
 · refine sq (rT [2] (s4 (y2 (xc (fun h=>gP (bX k).1 hgf.hal) (ai rfl (ai rk ?_))))))
   refine ai pk (s1 (rt (bJ rfl (congrArg D.b ?_))))
   simp[gb]
 have hyes: (bX k).2=true:=by simpa[gb] using c35
 have hlaw:=aNg hyes
 refine sk (sq (rD [2] (s8 (y1 (xc (fun h=>(gz (bX k).1 hgf.log)) (ai rfl (ai rk ?_)))))))
 refine y1 (xc (fun h=>(fM k hg.log)) (ai rfl (ai rk ?_)))
 refine xc (fun h=>kM (bM k) (xR _)) (ai (by rw[show tq (bX k).1 0=bM k from hlaw.2.2.1];rfl) (ai rk ?_))
 refine ai pk (s1 (y4 (xc (fun h=>uA k.halves hg.hal) (ai (by rw[hlaw.2.2.2];rfl) (ai rk ?_)))))
 refine ai pk (s1 (ai (by kernel_rfl) (rt (bJ rfl (congrArg D.b ?_)))))
 simp[gb,hlaw.2.1]
set_option maxHeartbeats 3200000 in
theorem fw (l:List UInt8) (hl:l.length≤140737488355328):Sp 4 1 [tD 0 (.sl (aA l))] [tB 0 true]:=by
 refine sb Tryz.func4 rfl (sq (rT [0] (s1 (sq (sq (rT [0,15] (s3 (cd rfl (fun c15=> ?_) fun c15=> ?_))))))))
 · refine sq (rT [2] (s1 (rt (bJ rfl ?_))))
   rfl
 refine sk (sq (rE [3,4] (s1 (cQ (robj:=[]) (rl:=[]) (bor:=[]) (news:=[]) (ca l hl) rfl rfl rfl rfl ⟨cJ rfl rfl trivial,rfl⟩ (by rintro _ ⟨k,kp,hkq,rfl⟩;exact⟨rfl,.inl rfl,fun j hj=>nomatch hj⟩) (fun p hp=>nomatch hp) (fun j hj=>nomatch hj) ?_))))
 rintro _ ⟨k,kp,hkq,rfl⟩
 have hg:=hkq.kg
 have hkl:=hkq.1
 have hkb:=xR k
 have hgf:=hg.fall kp
 have hfl:=(aKx hkq kp).1
 have hsr:=jF k.log (by omega)
 refine s6 (sq (rT [3,4,5] (s2 (xp (rL k kp hg.log) (ai rfl ?_)))))
 refine s2 (sq (rT [3,4,5,6] (s2 (xp (rM k kp hg.log) (ai rfl ?_)))))
 refine s2 (sq (sq (rT [3,4,5,6,35] (s2 (xp (gP (bZ k kp) hgf.hal) (ai rfl ?_))))))
 refine s2 (y1 (xc (fun h=>(eL k hg.log)) (ai rfl (ai rk ?_))))
 refine y1 (ai pk (cd rfl (fun c35=> ?_) fun c35=> ?_))
 · refine sq (rT [2] (s2 (xp (gP (bZ k kp) hgf.hal) (ai rfl ?_))))
   refine s1 (rt (bJ rfl ?_))
   rfl
 have hok:aT k=true:=by simpa[gb] using c35
 obtain⟨hl1,hl2,hl3,hl4,hl5⟩:=aPx hok kp
 refine sk (sq (rT [3,4,6,7] (s3 (xp (gZ k.log (by omega)) (ai rfl ?_)))))
 refine s5 (sq (rT [3,4,6,7,9] (s3 (xp (gZ (bZ k kp).log (by omega)) (ai rfl ?_)))))
 refine s5 (sq ?_)
 have hsl:aV ((bD k.log).1.take (bD (bZ k kp).log).1.length)=List.drop (eY none) (List.take (gI (some (((aV (bD (bZ k kp).log).1).length:Nat):Int)) (aV (bD k.log).1).length) (aV (bD k.log).1)):=by simp[aV,eY,gI,List.map_take]
 refine rD [4,6,7,9,11,12] (s5 (ai (by simp[qp,eY,gI,aJ];exact⟨hl3,uH _⟩) (xp (xP k.id ((bD k.log).1.take (bD (bZ k kp).log).1.length) (by rw[aW5];omega) (fun x hx=>hsr.2 x (List.mem_of_mem_take hx))) (ai (by rw[hsl];rfl) ?_))))
 refine s6 (ai (by kernel_rfl) (sq (rD [2] (s4 (y4 (ai pk (s1 (y4 (y1 (ai pk (s1 (y1 (ai pk (s1 (y1 (xc (fun h=>(fM (bZ k kp) hgf.log)) (ai rfl (ai rk ?_))))))))))))))))))
 refine y1 (xc (fun h=>kM (bM (bZ k kp)) (xR _)) (ai (by rw[hl4];rfl) (ai rk ?_)))
 refine ai pk (s1 (y1 (xc (fun h=>(iV (bZ k kp) hgf.log)) (ai rfl (ai rk ?_)))))
 refine ai pk (s1 (y2 (xc (fun h=>(rM (bZ k kp) kp hgf.log)) (ai rfl (ai rk ?_)))))
 refine y1 (xc (fun h=>gP (bZ k kp) hgf.hal) (ai (by rw[aJu hok kp];rfl) (ai rk ?_)))
 refine ai pk (s1 (ai (by kernel_rfl) (rt (bJ rfl (congrArg D.b ?_)))))
 simp[gb,hl1,hl2,hl3,hl4,hl5,aJ,aG]
set_option maxHeartbeats 3200000 in
theorem fy (l:List UInt8) (hl:l.length≤140737488355328):Sp 7 1 [tD 0 (.sl (aA l))] [tB 0 true]:=by
 refine sb Tryz.func7 rfl (sq (rT [0] (s1 (sq (sq (rT [0,12] (s3 (cd rfl (fun c12=> ?_) fun c12=> ?_))))))))
 · refine sq (rT [2] (s1 (rt (bJ rfl ?_))))
   rfl
 refine sk (sq (rE [3] (s1 (cQ (robj:=[]) (rl:=[]) (bor:=[]) (news:=[]) (bz l hl) rfl rfl rfl rfl ⟨cJ rfl rfl trivial,rfl⟩ (by rintro _ ⟨k,hkq,rfl⟩;exact⟨rfl,.inl rfl,fun j hj=>nomatch hj⟩) (fun p hp=>nomatch hp) (fun j hj=>nomatch hj) ?_))))
 rintro _ ⟨k,hkq,rfl⟩
 have hg:=hkq.kg
 have hkl:=hkq.1
 have hkb:=xR k
 have hgp:=hg.pack
 have hpl:=aPz (k:=k) (by omega)
 refine s2 (sq (rT [3,4,5] (s1 (xp (wT k hg.log) (ai rfl ?_)))))
 refine s6 (sq (rT [3,4,5,6,7] (s1 (xp (mz k hg.log) (ai rfl ?_)))))
 refine s6 (sq (sq (rT [3,4,5,6,7,37] (s4 (y2 (xc (fun h=>gP (bU k).1 hgp.hal) (ai rfl (ai rk ?_))))))))
 refine y1 (ai pk (s1 (y2 (ai pk (cd rfl (fun c37=> ?_) fun c37=> ?_)))))
 · refine sq (rT [2] (s4 (y2 (xc (fun h=>gP (bU k).1 hgp.hal) (ai rfl (ai rk ?_))))))
   refine ai pk (s1 (rt (bJ rfl (congrArg D.b ?_))))
   simp[gb]
 have hyes: (bU k).2=true:=by simpa[gb] using c37
 obtain⟨hl1,hl2,hl3,hl4,hl5⟩:=aPw (aR6 hyes) hyes
 refine sk (sq (rT [3,6,8] (s3 (xp (gZ (bU k).1.log (by omega)) (ai rfl ?_)))))
 refine s5 (sq (rD [2] (s1 (xp (fM (bU k).1 hgp.log) (ai rfl ?_)))))
 refine s1 (xp (fM k hg.log) (ai rfl ?_))
 refine xp (kM (bM k) hkb) (ai (by rw[hl2];rfl) ?_)
 refine s1 (y1 (xc (fun h=>(gz (bU k).1 hgp.log)) (ai rfl (ai rk ?_))))
 refine y1 (xc (fun h=>(fM k hg.log)) (ai rfl (ai rk ?_)))
 refine xc (fun h=>kM (bM k) (xR _)) (ai (by rw[hl3];rfl) (ai rk ?_))
 refine ai pk (s1 (y2 (xc (fun h=>(fM k hg.log)) (ai rfl (ai rk ?_)))))
 refine xc (fun h=>(bs (bM k) hkb)) (ai rfl (ai rk ?_))
 refine xc (fun h=>zn (eE (bM k)) (by have:=(nR (k:=bM k)).1;omega)) (ai (by rw[hl4];rfl) (ai rk ?_))
 refine ai pk (s1 (y4 (xc (fun h=>uA k.halves hg.hal) (ai (by rw[hl5];rfl) (ai rk ?_)))))
 refine ai pk (s1 (ai (by kernel_rfl) (rt (bJ rfl (congrArg D.b ?_)))))
 simp[gb]
end Go.Proofs.YthbgjfegalcenaaGreatDoor
namespace Go.Ab
open Int renaming toNat_natCast→aWz
open List renaming length_append→aW0,length_nil→aW2,length_cons→aW3,length_take→aW5,getD_eq_getElem?_getD→aW7,getElem?_eq_getElem→aW8,length_drop→aW9,getElem?_eq_some_iff→aXb,range→aXc,mem_map→aXd,all_eq_true→aXe,take_length→aXf
open Nat renaming le_of_ble_eq_true→aW1,zero_le→aW6,le_refl→aXa
open Bool renaming and_eq_true→aW4
open Go Go.RowKit
set_option linter.unusedVariables false
theorem aP0 {P:Program} {w w':World} {name:String} {cs:Array Value} (h:w.var? P name=some cs) (hf:Fr (fun _=>False) w w'):w'.var? P name=some cs:=by
 unfold World.var? at h ⊢
 cases hg:P.globalNamed name with
 |none=>rw[hg] at h;cases h
 |some g=>
  rw[hg] at h
  simp only[Option.bind_some] at h ⊢
  cases hh:w.heap[g]? with
  |none=>rw[hh] at h;cases h
  |some o=>
   have hlt:g<w.heap.size:=(Array.getElem?_eq_some_iff.1 hh).1
   rw[hf.block g hlt (fun h=>h),hh]
   rw[hh] at h
   exact h
theorem ni {P:Program} {w:World} {name:String} {g:Nat} {cs:Array Value} {t:TypeId} {v:Value} (hg:P.globalNamed name=some g) (hh:w.heap[g]? =some (.cells cs t)) (hs:cs.size=1) (hc:w.cell? ⟨g,0,none⟩=some v):w.var? P name=some #[v]:=by
 have e:cs= #[v]:=by
  have h1:w.cell? ⟨g,0,none⟩=cs[0]?:=by rw[cell_of_row w g 0 cs t (0,0) hh]
  rw[hc] at h1
  apply Array.ext
  · simpa using hs
  · intro i h2 h3
    have:i=0:=by have:i<1:=by simpa using h3
                 omega
    subst this
    rw[Array.getElem?_eq_getElem h2] at h1
    exact(Option.some.inj h1).symm
 subst e
 unfold World.var?
 rw[hg]
 simp only[Option.bind_some]
 rw[hh]
theorem aHe {P:Program} {w:World} (h1:Lib.TabIs P w "internal/strconv.uint64pow10" .u64 Lib.pow10Tab) (h2: ∃m,w.var? P "internal/bytealg.MaxLen" =some #[.int .i64 m]):GB P w fun _=>False:=fun w' hf=>⟨aP0 h1 hf,h2.imp fun m hm=>aP0 hm hf⟩
end Go.Ab
