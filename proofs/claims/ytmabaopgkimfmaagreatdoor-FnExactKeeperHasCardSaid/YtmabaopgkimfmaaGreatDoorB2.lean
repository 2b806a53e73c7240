/- Plain functions, and contracts of the functions that the law reaches. -/
import Derived.Shelf.Utf8.RuneCount
import Derived.Shelf.Strconv.Itoa0
import Derived.Shelf.Strconv.Itoa1
import Derived.Shelf.LaysM
import Derived.Shelf.Strconv.Itoa2
import Derived.Shelf.Strconv.Itoa3
import Derived.Shelf.Strings.Search1
import Derived.Shelf.Strings.Search2
import Derived.Shelf.Strings.Search3
import Derived.Shelf.Strings.Cut
import Derived.Shelf.Strings.Count
import Derived.Shelf.Strings.Split
import Derived.Test.YtmabaopgkimfmaaGreatDoorProg
import Derived.Test.YtmabaopgkimfmaaGreatDoorB1
set_option maxHeartbeats 12800000
namespace Go.Proofs.YtmabaopgkimfmaaGreatDoor
open Int renaming toNat_natCast→aNf
open Nat renaming le_of_ble_eq_true→aNg,zero_le→aNj,le_refl→aNp
open List renaming length_append→aNh,length_cons→aNk,length_nil→aNl,getD_eq_getElem?_getD→aNm,length_take→aNn,getElem?_eq_getElem→aNo,getElem?_eq_some_iff→aNq,mem_map→aNr,mem_cons→aNs,all_eq_true→aNt,range→aNu,length_drop→aNv
open Bool renaming and_eq_true→aNi
open Go Go.Ab Go.RowKit
set_option linter.unusedVariables false
set_option linter.unusedSimpArgs false
set_option maxRecDepth 9000
theorem eN (n lo hi:Int):Sp 109 3 [tI 0 n,tI 1 lo,tI 2 hi] [tB 0 (mR n lo hi)]:=by
 refine sb Tryz.func109 rfl (sq (rT [0,1,2] (s1 (sq (rT [6] (s4 (y3 (ai pk (s1 (rt (aT rfl ?_)))))))))))
 simp[mR,gb]
theorem fH (n lo hi:Int):Sp 123 3 [tI 0 n,tI 1 lo,tI 2 hi] [tB 0 (mR n lo hi)]:=by
 refine sb Tryz.func123 rfl (sq (rT [0,1,2] (s1 (sq (rT [6] (s4 (y3 (ai pk (s1 (rt (aT rfl ?_)))))))))))
 simp[mR,gb]
theorem fN (n:Int):Sp 111 1 [tI 0 n] [tB 0 (eP n)]:=by
 refine sb Tryz.func111 rfl (sq (rT [0] (s1 (sq (rT [2] (s1 (xp (eN _ _ _) (ai rfl ?_))))))))
 refine s1 (rt (aT rfl ?_))
 first|rfl|(simp;done)|(simp_all;done)
theorem fQ (n:Int):Sp 130 1 [tI 0 n] [tB 0 (eP n)]:=by
 refine sb Tryz.func130 rfl (sq (rT [0] (s1 (sq (rT [2] (s1 (xp (fH _ _ _) (ai rfl ?_))))))))
 refine s1 (rt (aT rfl ?_))
 first|rfl|(simp;done)|(simp_all;done)
theorem pM (a b c d:Int):Sp 226 4 [tI 0 a,tI 1 b,tI 2 c,tI 3 d] [tB 0 (cD a b c d)]:=by
 refine sb Tryz.func226 rfl (sq (rT [0,1,2,3] (s1 (sq (rT [8] (s4 (y4 (y3 (ai (fun h=>pk) (ai rk (ai pk (s1 (rt (aT rfl (aA D.b ?_)))))))))))))))
 simp[cD,gb]
theorem oM (a b c d:Int):Sp 225 4 [tI 0 a,tI 1 b,tI 2 c,tI 3 d] [tB 0 (cD a b c d)]:=by
 refine sb Tryz.func225 rfl (sq (rT [0,1,2,3] (s1 (sq (rT [8] (s4 (y4 (y3 (ai (fun h=>pk) (ai rk (ai pk (s1 (rt (aT rfl (aA D.b ?_)))))))))))))))
 simp[cD,gb]
theorem qj (m:bZ):Sp 227 1 [tV 0 m.V] [tB 0 (lC m)]:=by
 refine sb Tryz.func227 rfl (sq (rT [1] (s2 (sq (rT [2] (s2 (xp (fN _) (ai rfl ?_))))))))
 refine s1 (y2 (xc (fun h=>(eN _ _ _)) (ai rfl (ai rk ?_))))
 refine ai pk (s1 (y2 (xc (fun h=>(eN _ _ _)) (ai rfl (ai rk ?_)))))
 refine ai pk (s1 (rt (aT rfl (aA D.b ?_))))
 simp[lC,gb]
theorem qk (s:List UInt8) (hl:s.length≤140737488355328):Sp 197 1 [tD 0 (.s s)] [tB 0 (xY s)]:=by
 refine sb Tryz.func197 rfl (sq (rT [0] (s1 (sq (sq (rT [0,3] (s1 (bk (SW.loopW (n:=s.length) (fun n q=> ∃i:Nat,n=s.length - i∧i≤s.length∧(∀k,k<i→rZ s k=true)∧q=[tD 0 (.s s),tI 3 (i:Nat)]) ?_ ?_)))))))))
 · exact wq (σ':=[tD 0 (.s s),tI 3 (0:Nat)]) [] [] (⟨0,rfl,aNj _,fun k h=>absurd h (by omega),rfl⟩) qz
 rintro n s ⟨i,rfl,hi,hk,rfl⟩
 refine sq (sq (rT [0,3,7] (s4 (cd rfl (fun c7=> ?_) fun c7=> ?_))))
 · have hi2:i<s.length:=by simpa using c7
   have hb8:=jm s i
   have hw:wrap64 ((s.getD ((i:Nat):Int).toNat 0).toNat:Int)=wZ s i:=aH (by unfold wZ at hb8;rw[aNf];omega)
   refine sk (sq (bk (sq (rT [0,3,15] (s2 (ai (by exact⟨by omega,by omega⟩) (s1 (xp (eN _ _ _) (ai rfl ?_)))))))))
   refine s1 (cd rfl (fun c15=> ?_) fun c15=> ?_)
   · refine sq (rT [2] (s1 (rt (aT rfl (aA D.b ?_)))))
     have hs:rZ s i=false:=by
      have h9:=c15
      rw[hw] at h9
      simpa[rZ] using h9
     rw[xY,eC hi2 hs];rfl
   refine sk (rT [0,3] (s3 ?_))
   have hs:rZ s i=true:=by
    have h9:=c15
    rw[hw] at h9
    simpa[rZ] using h9
   refine wq [] [] (⟨s.length - (i+1),by omega,i+1,rfl,by omega,fun k h=>by by_cases e:k=i;exact e▸hs;exact hk k (by omega),rfl⟩) ?_
   repeat' apply ai
   all_goals first|exact qx|exact aA D.i (aH (by omega))|exact qz
 have hi3:i=s.length:=by simp at c7;omega
 refine xt (sq (rT [2] (s2 (xp (eN _ _ _) (ai rfl ?_)))))
 refine s1 (rt (aT rfl (aA D.b ?_)))
 subst hi3
 rw[xY,gC hk];rfl
theorem pN (n:bF) (hl:n.text.length≤140737488355328):Sp 153 1 [tV 0 n.V] [tB 0 (eM n)]:=by
 refine sb Tryz.func153 rfl (sq (rT [1] (s2 (sq (rT [2] (s2 (xp (fN _) (ai rfl ?_))))))))
 refine s1 (y2 (xc (fun h=>(fN _)) (ai rfl (ai rk ?_))))
 refine ai pk (s1 (y2 (xc (fun h=>(eN _ _ _)) (ai rfl (ai rk ?_)))))
 refine ai pk (s1 (y2 (xc (fun h=>(eN _ _ _)) (ai rfl (ai rk ?_)))))
 refine ai pk (s1 (y2 (xc (fun h=>(qk n.text hl)) (ai rfl (ai rk ?_)))))
 refine ai pk (s1 (rt (aT rfl (aA D.b ?_))))
 simp[eM,gb,Bool.and_assoc]
theorem tX (n:bF) (hl:n.text.length≤140737488355328):Sp 152 1 [tV 0 n.V] [tB 0 (eM n)]:=by
 refine sb Tryz.func152 rfl (sq (rT [1] (s2 (sq (sq (rT [1,37] (s2 (xp (fQ _) (ai rfl ?_)))))))))
 refine s2 (y2 (xc (fun h=>(fQ _)) (ai rfl (ai rk ?_))))
 refine y1 (ai pk (s1 (y2 (xc (fun h=>(fH _ _ _)) (ai rfl (ai rk ?_))))))
 refine y1 (ai pk (s1 (y2 (xc (fun h=>(fH _ _ _)) (ai rfl (ai rk ?_))))))
 refine y1 (ai pk (s1 (y4 (ai pk (s1 (y4 (ai pk (cd rfl (fun c37=> ?_) fun c37=> ?_))))))))
 · refine sq (rT [2] (s1 (rt (aT rfl (aA D.b ?_)))))
   cases h:eM n with
   |false=>rfl
   |true=>
    exfalso
    simp only[eM,xY,aNi] at h
    obtain⟨⟨⟨⟨h1,h2⟩,h3⟩,h4⟩,h5,h6⟩:=h
    simp only[mR,aNi,aD] at h6
    simp only[h1,h2,h3,h4,Bool.not_true,Bool.false_or,Bool.or_eq_true,aD] at c37
    omega
 have hf:eP n.frm=true∧eP n.to=true∧mR n.num 1 99=true∧mR n.til 1 999=true∧1≤n.text.length∧n.text.length≤24:=by
  simp only[gb,Bool.or_eq_false_iff,Bool.not_eq_false,decide_eq_false_iff_not,Bool.not_eq_eq_eq_not,Bool.not_false] at c37
  grind
 refine sk (sq (sq (rT [1,3] (s1 (bk (SW.loopW (n:=n.text.length) (fun m q=> ∃i:Nat,m=n.text.length - i∧i≤n.text.length∧(∀k,k<i→rZ n.text k=true)∧q=[tP 1 1,tI 3 (i:Nat),oB 1 52 [.d (.i n.frm),.d (.i n.num),.d (.i n.to),.d (.i n.til),.d (.s n.text)]]) ?_ ?_))))))
 · exact wq (σ':=[tP 1 1,tI 3 (0:Nat),oB 1 52 [.d (.i n.frm),.d (.i n.num),.d (.i n.to),.d (.i n.til),.d (.s n.text)]]) [] [] (⟨0,rfl,aNj _,fun k h=>absurd h (by omega),rfl⟩) qz
 rintro n s ⟨i,rfl,hi,hk,rfl⟩
 refine sq (sq (rT [1,3,42] (s5 (cd rfl (fun c42=> ?_) fun c42=> ?_))))
 · have hi2:i<n.text.length:=by simpa using c42
   refine sk (sq (bk (sq (rT [1,3,56] (s3 (ai (by exact⟨by omega,by omega⟩) (s2 (y3 (ai (fun h=>(by exact⟨by omega,by omega⟩)) (ai rk (y1 (ai pk (cd rfl (fun c56=> ?_) fun c56=> ?_)))))))))))))
   · refine sq (rT [2] (s1 (rt (aT rfl (aA D.b ?_)))))
     have hs:rZ n.text i=false:=by
      have h9:=c56
      rw[aNf] at h9
      simp[gb] at h9
      simp[rZ,mR,wZ];omega
     rw[eM,xY,eC hi2 hs];simp
   refine sk (rT [1,3] (s3 ?_))
   have hs:rZ n.text i=true:=by
    have h9:=c56
    rw[aNf] at h9
    simp[gb] at h9
    simp[rZ,mR,wZ];omega
   refine wq [] [] (⟨n.text.length - (i+1),by omega,i+1,rfl,by omega,fun k h=>by by_cases e:k=i;exact e▸hs;exact hk k (by omega),rfl⟩) ?_
   repeat' apply ai
   all_goals first|exact qx|exact aA D.i (aH (by omega))|exact qz
 have hi3:i=n.text.length:=by simp at c42;omega
 refine xt (sq (rT [2] (s1 (rt (aT rfl (aA D.b ?_))))))
 subst hi3
 obtain⟨h1,h2,h3,h4,h5,h6⟩:=hf
 rw[eM,xY,gC hk,h1,h2,h3,h4]
 simp[mR];omega
theorem iP (l:List bF) (f m:Int) (hl:l.length≤1000000):Sp 96 3 [tD 0 (.sl (aF l)),tI 1 f,tI 2 m] [tI 0 (bA l f m)]:=by
 refine sb Tryz.func96 rfl (sq (rT [0,1,2] (s1 (sq (sq (rT [1,2,9,10,11] (s3 (bk (SW.loopW (n:=l.length) (fun n q=> ∃i:Nat,n=l.length - i∧i≤l.length∧(∀k,k<i→mS l f m k=false)∧q=[tI 1 f,tI 2 m,tD 9 (.sl (aF l)),tI 10 (l.length:Nat),tI 11 (i:Nat)]) ?_ ?_)))))))))
 · refine wq (σ':=[tI 1 f,tI 2 m,tD 9 (.sl (aF l)),tI 10 (l.length:Nat),tI 11 (0:Nat)]) [] [] (⟨0,rfl,aNj _,fun k h=>absurd h (by omega),rfl⟩) ?_
   repeat' apply ai
   all_goals first|exact qx|(rw[aE];done)|rfl|exact qz
 rintro n s ⟨i,rfl,hi,hk,rfl⟩
 refine sq (rT [1,2,9,10,11,12] (s1 (sq (cd rfl (fun c12=> ?_) fun c12=> ?_))))
 · have hi2:i<l.length:=by simpa using c12
   have hg:=aS (l:=l) hi2
   refine sk (sq (bk (sq (rT [1,2,7,8,9,10,11] (s1 (ai (by rw[aNf,hg];exact⟨⟨by omega,by rw[aE];omega⟩,rfl⟩) (ai (by rw[aNf,hg];exact⟨aNg rfl,rfl⟩) (s3 (sq (rT [1,2,7,9,10,11,25] (s5 (y4 (ai pk (cd rfl (fun c25=> ?_) fun c25=> ?_))))))))))))))
   · refine sq (rT [6] (s2 (rt (aT rfl (aA D.i ?_)))))
     have hs:mS l f m i=true:=by
      have h9:=c25
      rw[aNf,hg] at h9
      exact h9
     exact(lM (aNj _) (by omega) (fun j _ h=>hk j h) hs).symm
   refine sk (rT [1,2,9,10,11] (s2 ?_))
   have hs:mS l f m i=false:=by
    have h9:=c25
    rw[aNf,hg] at h9
    exact h9
   refine wq [] [] (⟨l.length - (i+1),by omega,i+1,rfl,by omega,fun k h=>by by_cases e:k=i;exact e▸hs;exact hk k (by omega),rfl⟩) ?_
   repeat' apply ai
   all_goals first|exact qx|exact aA D.i (aH (by omega))|exact qz
 have hi3:i=l.length:=by simp at c12;omega
 refine xt (sq (rT [6] (s1 (rt (aT rfl (aA D.i ?_))))))
 exact(mD (fun j _ h=>hk j (by omega))).symm
theorem gH (l:List bF) (f m:Int) (hl:l.length≤1000000):Sp 94 3 [tD 0 (.sl (aF l)),tI 1 f,tI 2 m] [tI 0 (bA l f m)]:=by
 refine sb Tryz.func94 rfl (sq (rT [0,1,2] (s1 (sq (sq (rT [0,1,2,7] (s1 (bk (SW.loopW (n:=l.length) (fun n q=> ∃i:Nat,n=l.length - i∧i≤l.length∧(∀k,k<i→mS l f m k=false)∧q=[tD 0 (.sl (aF l)),tI 1 f,tI 2 m,tI 7 (i:Nat)]) ?_ ?_)))))))))
 · exact wq (σ':=[tD 0 (.sl (aF l)),tI 1 f,tI 2 m,tI 7 (0:Nat)]) [] [] (⟨0,rfl,aNj _,fun k h=>absurd h (by omega),rfl⟩) qz
 rintro n s ⟨i,rfl,hi,hk,rfl⟩
 refine sq (sq (rT [0,1,2,7,11] (s4 (cd rfl (fun c11=> ?_) fun c11=> ?_))))
 · have hi2:i<l.length:=by simpa[aE] using c11
   have hg:=aS (l:=l) hi2
   refine sk (sq (bk (sq (rT [0,1,2,7,29] (s2 (ai (by rw[aNf,hg];exact⟨⟨by omega,by rw[aE];omega⟩,rfl⟩) (s1 (ai (by rw[aNf,hg];exact⟨aNg rfl,rfl⟩) (s3 (y2 (ai (fun h=>(by rw[aNf,hg];exact⟨⟨by omega,by rw[aE];omega⟩,rfl⟩)) (ai rk (y1 (ai (fun h=>(by rw[aNf,hg];exact⟨aNg rfl,rfl⟩)) (ai rk (y2 (ai pk (cd rfl (fun c29=> ?_) fun c29=> ?_))))))))))))))))))
   · refine sq (rT [6] (s2 (rt (aT rfl (aA D.i ?_)))))
     have hs:mS l f m i=true:=by
      have h9:=c29
      rw[aNf,hg] at h9
      exact h9
     exact(lM (aNj _) (by omega) (fun j _ h=>hk j h) hs).symm
   refine sk (rT [0,1,2,7] (s3 ?_))
   have hs:mS l f m i=false:=by
    have h9:=c29
    rw[aNf,hg] at h9
    exact h9
   refine wq [] [] (⟨l.length - (i+1),by omega,i+1,rfl,by omega,fun k h=>by by_cases e:k=i;exact e▸hs;exact hk k (by omega),rfl⟩) ?_
   repeat' apply ai
   all_goals first|exact qx|exact aA D.i (aH (by omega))|exact qz
 have hi3:i=l.length:=by simp[aE] at c11;omega
 refine xt (sq (rT [6] (s1 (rt (aT rfl (aA D.i ?_))))))
 exact(mD (fun j _ h=>hk j (by omega))).symm
theorem pO (l:List bZ) (f m:Int) (hl:l.length≤1000000):Sp 162 3 [tD 0 (.sl (aJ l)),tI 1 f,tI 2 m] [tI 0 (kB l f m)]:=by
 refine sb Tryz.func162 rfl (sq (rT [0,1,2] (s1 (sq (sq (rT [1,2,9,10,11] (s3 (bk (SW.loopW (n:=l.length) (fun n q=> ∃i:Nat,n=l.length - i∧i≤l.length∧(∀k,k<i→sA l f m k=false)∧q=[tI 1 f,tI 2 m,tD 9 (.sl (aJ l)),tI 10 (l.length:Nat),tI 11 (i:Nat)]) ?_ ?_)))))))))
 · refine wq (σ':=[tI 1 f,tI 2 m,tD 9 (.sl (aJ l)),tI 10 (l.length:Nat),tI 11 (0:Nat)]) [] [] (⟨0,rfl,aNj _,fun k h=>absurd h (by omega),rfl⟩) ?_
   repeat' apply ai
   all_goals first|exact qx|(rw[aG];done)|rfl|exact qz
 rintro n s ⟨i,rfl,hi,hk,rfl⟩
 refine sq (rT [1,2,9,10,11,12] (s1 (sq (cd rfl (fun c12=> ?_) fun c12=> ?_))))
 · have hi2:i<l.length:=by simpa using c12
   have hg:=bP (l:=l) hi2
   refine sk (sq (bk (sq (rT [1,2,7,8,9,10,11] (s1 (ai (by rw[aNf,hg];exact⟨⟨by omega,by rw[aG];omega⟩,rfl⟩) (ai (by rw[aNf,hg];exact⟨aNg rfl,rfl⟩) (s3 (sq (rT [1,2,7,9,10,11,25] (s5 (y4 (ai pk (cd rfl (fun c25=> ?_) fun c25=> ?_))))))))))))))
   · refine sq (rT [6] (s2 (rt (aT rfl (aA D.i ?_)))))
     have hs:sA l f m i=true:=by
      have h9:=c25
      rw[aNf,hg] at h9
      exact h9
     exact(lM (aNj _) (by omega) (fun j _ h=>hk j h) hs).symm
   refine sk (rT [1,2,9,10,11] (s2 ?_))
   have hs:sA l f m i=false:=by
    have h9:=c25
    rw[aNf,hg] at h9
    exact h9
   refine wq [] [] (⟨l.length - (i+1),by omega,i+1,rfl,by omega,fun k h=>by by_cases e:k=i;exact e▸hs;exact hk k (by omega),rfl⟩) ?_
   repeat' apply ai
   all_goals first|exact qx|exact aA D.i (aH (by omega))|exact qz
 have hi3:i=l.length:=by simp at c12;omega
 refine xt (sq (rT [6] (s1 (rt (aT rfl (aA D.i ?_))))))
 exact(mD (fun j _ h=>hk j (by omega))).symm
theorem oN (l:List bZ) (f m:Int) (hl:l.length≤1000000):Sp 155 3 [tD 0 (.sl (aJ l)),tI 1 f,tI 2 m] [tI 0 (kB l f m)]:=by
 refine sb Tryz.func155 rfl (sq (rT [0,1,2] (s1 (sq (sq (rT [0,1,2,7] (s1 (bk (SW.loopW (n:=l.length) (fun n q=> ∃i:Nat,n=l.length - i∧i≤l.length∧(∀k,k<i→sA l f m k=false)∧q=[tD 0 (.sl (aJ l)),tI 1 f,tI 2 m,tI 7 (i:Nat)]) ?_ ?_)))))))))
 · exact wq (σ':=[tD 0 (.sl (aJ l)),tI 1 f,tI 2 m,tI 7 (0:Nat)]) [] [] (⟨0,rfl,aNj _,fun k h=>absurd h (by omega),rfl⟩) qz
 rintro n s ⟨i,rfl,hi,hk,rfl⟩
 refine sq (sq (rT [0,1,2,7,11] (s4 (cd rfl (fun c11=> ?_) fun c11=> ?_))))
 · have hi2:i<l.length:=by simpa[aG] using c11
   have hg:=bP (l:=l) hi2
   refine sk (sq (bk (sq (rT [0,1,2,7,29] (s2 (ai (by rw[aNf,hg];exact⟨⟨by omega,by rw[aG];omega⟩,rfl⟩) (s1 (ai (by rw[aNf,hg];exact⟨aNg rfl,rfl⟩) (s3 (y2 (ai (fun h=>(by rw[aNf,hg];exact⟨⟨by omega,by rw[aG];omega⟩,rfl⟩)) (ai rk (y1 (ai (fun h=>(by rw[aNf,hg];exact⟨aNg rfl,rfl⟩)) (ai rk (y2 (ai pk (cd rfl (fun c29=> ?_) fun c29=> ?_))))))))))))))))))
   · refine sq (rT [6] (s2 (rt (aT rfl (aA D.i ?_)))))
     have hs:sA l f m i=true:=by
      have h9:=c29
      rw[aNf,hg] at h9
      exact h9
     exact(lM (aNj _) (by omega) (fun j _ h=>hk j h) hs).symm
   refine sk (rT [0,1,2,7] (s3 ?_))
   have hs:sA l f m i=false:=by
    have h9:=c29
    rw[aNf,hg] at h9
    exact h9
   refine wq [] [] (⟨l.length - (i+1),by omega,i+1,rfl,by omega,fun k h=>by by_cases e:k=i;exact e▸hs;exact hk k (by omega),rfl⟩) ?_
   repeat' apply ai
   all_goals first|exact qx|exact aA D.i (aH (by omega))|exact qz
 have hi3:i=l.length:=by simp[aG] at c11;omega
 refine xt (sq (rT [6] (s1 (rt (aT rfl (aA D.i ?_))))))
 exact(mD (fun j _ h=>hk j (by omega))).symm
theorem wc (id:Int) (n:bF):Sp 193 2 [tI 0 id,tV 1 n.V] [tB 0 (jn id n)]:=by
 refine sb Tryz.func193 rfl (sq (rT [0,3] (s2 (sq (rT [4] (s5 (y4 (y1 (xc (fun h=>(eN _ _ _)) (ai rfl (ai rk ?_)))))))))))
 refine y4 (y2 (xc (fun h=>(eN _ _ _)) (ai rfl (ai rk ?_))))
 refine ai (fun h=>pk) (ai rk (ai pk (s1 (rt (aT rfl (aA D.b ?_))))))
 first|(simp only[jn,mR,gb];done)|(simp only[jn,mR,gb];grind)
theorem ql (n:bF) (id:Int):Sp 190 2 [tV 0 n.V,tI 1 id] [tB 0 (jn id n)]:=by
 refine sb Tryz.func190 rfl (sq (rT [1,2] (s2 (sq (rT [4] (s5 (y4 (ai pk (s1 (y4 (y4 (y1 (ai (fun h=>pk) (ai rk (ai pk (s1 (rt (aT rfl (aA D.b ?_)))))))))))))))))))
 first|(simp only[jn,mR,gb];done)|(simp only[jn,mR,gb];grind)
theorem yN (l:List bF) (hx: ∀x∈l,x.text.length≤140737488355328) (hl:l.length≤100000):Sp 191 1 [tD 0 (.sl (aF l))] [tB 0 (jA l)]:=by
 refine sb Tryz.func191 rfl (sq (rT [0] (s1 (sq (sq (rT [0,5,6,7] (s3 (bk (SW.loopW (n:=l.length) (fun n q=> ∃i:Nat,n=l.length - i∧i≤l.length∧(∀k,k<i→mX l k=true)∧q=[tD 0 (.sl (aF l)),tD 5 (.sl (aF l)),tI 6 (l.length:Nat),tI 7 (i:Nat)]) ?_ ?_)))))))))
 · refine wq (σ':=[tD 0 (.sl (aF l)),tD 5 (.sl (aF l)),tI 6 (l.length:Nat),tI 7 (0:Nat)]) [] [] (⟨0,rfl,aNj _,fun k h=>absurd h (by omega),rfl⟩) ?_
   repeat' apply ai
   all_goals first|exact qx|(rw[aE];done)|rfl|exact qz
 rintro n s ⟨i,rfl,hi,hk,rfl⟩
 refine sq (rT [0,5,6,7,8] (s1 (sq (cd rfl (fun c8=> ?_) fun c8=> ?_))))
 · have hi2:i<l.length:=by simpa using c8
   have hg:=aS (l:=l) hi2
   have hmem:l.getD i .zero∈l:=by rw[aNm,aNo hi2];exact List.getElem_mem _
   refine sk (sq (bk (sq (rT [0,3,4,5,6,7] (s1 (ai (by rw[aNf,hg];exact⟨⟨by omega,by rw[aE];omega⟩,rfl⟩) (ai (by rw[aNf,hg];exact⟨aNg rfl,rfl⟩) (s3 (sq (rD [0,5,6,7,38] (s1 (xp (pN (l.getD i .zero) (hx _ hmem)) (ai (by rw[aNf,hg];rfl) ?_)))))))))))))
   refine s2 (y4 (y2 (ai (fun h=>(by have h0:0<i:=(by have h9:=h;simp[gb] at h9;omega);rw[dS h0 (by omega),aNf,aS (by omega),aE];exact⟨⟨by omega,by omega⟩,rfl⟩)) (ai rk (y1 (ai (fun h=>(by have h0:0<i:=(by have h9:=h;simp[gb] at h9;omega);rw[dS h0 (by omega),aNf,aS (by omega)];exact⟨aNg rfl,rfl⟩)) (ai rk (y3 (ai (fun h=>(by have h0:0<i:=(by have h9:=h;simp[gb] at h9;omega);rw[dS h0 (by omega),aNf,aS (by omega),aE];exact⟨⟨by omega,by omega⟩,rfl⟩)) (ai rk (y1 (ai (fun h=>(by have h0:0<i:=(by have h9:=h;simp[gb] at h9;omega);rw[dS h0 (by omega),aNf,aS (by omega)];exact⟨aNg rfl,rfl⟩)) (ai rk (y4 (xc (fun h=>(pM _ _ _ _)) (ai rfl (ai rk ?_)))))))))))))))))
   refine y1 (ai (fun h=>pk) (ai rk (ai pk (ai (by kernel_rfl) (cd rfl (fun c38=> ?_) fun c38=> ?_)))))
   · refine sq (rT [2] (s1 (rt (aT rfl (aA D.b ?_)))))
     have hs:mX l i=false:=qW c38 (fun h0=>by simp only[dS h0 (show i≤1000000 by omega),aNf,hg,aS (show i - 1<l.length by omega)];rfl)
     rw[jA,eC hi2 hs]
   refine sk (rT [0,5,6,7] (s2 ?_))
   have hs:mX l i=true:=qW c38 (fun h0=>by simp only[dS h0 (show i≤1000000 by omega),aNf,hg,aS (show i - 1<l.length by omega)];rfl)
   refine wq [] [] (⟨l.length - (i+1),by omega,i+1,rfl,by omega,fun k h=>by by_cases e:k=i;exact e▸hs;exact hk k (by omega),rfl⟩) ?_
   repeat' apply ai
   all_goals first|exact qx|exact aA D.i (aH (by omega))|exact qz
 have hi3:i=l.length:=by simp at c8;omega
 refine xt (sq (rT [2] (s1 (rt (aT rfl (aA D.b ?_))))))
 subst hi3
 rw[jA,gC hk]
theorem xA (l:List bF) (most:Int) (hx: ∀x∈l,x.text.length≤140737488355328) (hl:l.length≤100000):Sp 188 2 [tD 0 (.sl (aF l)),tI 1 most] [tB 0 (decide ((l.length:Int)≤most)&&jA l)]:=by
 refine sb Tryz.func188 rfl (sq (rT [0,1] (s1 (sq (sq (rT [0,9] (s4 (cd rfl (fun c9=> ?_) fun c9=> ?_))))))))
 · refine sq (rT [4] (s1 (rt (aT rfl (aA D.b ?_)))))
   simp[aE] at c9
   simp[Int.not_le.2 c9]
 have hm: (l.length:Int)≤most:=by simp[aE] at c9;omega
 refine sk (sq (sq (rT [0,5] (s1 (bk (SW.loopW (n:=l.length) (fun n q=> ∃i:Nat,n=l.length - i∧i≤l.length∧(∀k,k<i→mX l k=true)∧q=[tD 0 (.sl (aF l)),tI 5 (i:Nat)]) ?_ ?_))))))
 · exact wq (σ':=[tD 0 (.sl (aF l)),tI 5 (0:Nat)]) [] [] (⟨0,rfl,aNj _,fun k h=>absurd h (by omega),rfl⟩) qz
 rintro n s ⟨i,rfl,hi,hk,rfl⟩
 refine sq (sq (rT [0,5,13] (s4 (cd rfl (fun c13=> ?_) fun c13=> ?_))))
 · have hi2:i<l.length:=by simpa[aE] using c13
   have hg:=aS (l:=l) hi2
   have hmem:l.getD i .zero∈l:=by rw[aNm,aNo hi2];exact List.getElem_mem _
   refine sk (sq (bk (sq (rD [0,5,51] (s2 (ai (by rw[aNf,hg];exact⟨⟨by omega,by rw[aE];omega⟩,rfl⟩) (ai (by rw[aNf,hg];exact⟨aNg rfl,rfl⟩) (xp (tX (l.getD i .zero) (hx _ hmem)) (ai (by rw[aNf,hg];rfl) ?_)))))))))
   refine s2 (y4 (y2 (ai (fun h=>(by have h0:0<i:=(by have h9:=h;simp[gb] at h9;omega);rw[dS h0 (by omega),aNf,aS (by omega),aE];exact⟨⟨by omega,by omega⟩,rfl⟩)) (ai rk (y1 (ai (fun h=>(by have h0:0<i:=(by have h9:=h;simp[gb] at h9;omega);rw[dS h0 (by omega),aNf,aS (by omega)];exact⟨aNg rfl,rfl⟩)) (ai rk (y3 (ai (fun h=>(by have h0:0<i:=(by have h9:=h;simp[gb] at h9;omega);rw[dS h0 (by omega),aNf,aS (by omega),aE];exact⟨⟨by omega,by omega⟩,rfl⟩)) (ai rk (y1 (ai (fun h=>(by have h0:0<i:=(by have h9:=h;simp[gb] at h9;omega);rw[dS h0 (by omega),aNf,aS (by omega)];exact⟨aNg rfl,rfl⟩)) (ai rk (y2 (ai (fun h=>(by rw[aNf,hg];exact⟨⟨by omega,by rw[aE];omega⟩,rfl⟩)) (ai rk (y1 (ai (fun h=>(by rw[aNf,hg];exact⟨aNg rfl,rfl⟩)) (ai rk (y2 (ai (fun h=>(by rw[aNf,hg];exact⟨⟨by omega,by rw[aE];omega⟩,rfl⟩)) (ai rk (y1 (ai (fun h=>(by rw[aNf,hg];exact⟨aNg rfl,rfl⟩)) (ai rk (xc (fun h=>(oM _ _ _ _)) (ai rfl (ai rk ?_))))))))))))))))))))))))))))
   refine y1 (ai (fun h=>pk) (ai rk (ai pk (ai (by kernel_rfl) (cd rfl (fun c51=> ?_) fun c51=> ?_)))))
   · refine sq (rT [4] (s1 (rt (aT rfl (aA D.b ?_)))))
     have hs:mX l i=false:=qW c51 (fun h0=>by simp only[dS h0 (show i≤1000000 by omega),aNf,hg,aS (show i - 1<l.length by omega)];rfl)
     rw[jA,eC hi2 hs];simp
   refine sk (rT [0,5] (s3 ?_))
   have hs:mX l i=true:=qW c51 (fun h0=>by simp only[dS h0 (show i≤1000000 by omega),aNf,hg,aS (show i - 1<l.length by omega)];rfl)
   refine wq [] [] (⟨l.length - (i+1),by omega,i+1,rfl,by omega,fun k h=>by by_cases e:k=i;exact e▸hs;exact hk k (by omega),rfl⟩) ?_
   repeat' apply ai
   all_goals first|exact qx|exact aA D.i (aH (by omega))|exact qz
 have hi3:i=l.length:=by simp[aE] at c13;omega
 refine xt (sq (rT [4] (s1 (rt (aT rfl (aA D.b ?_))))))
 subst hi3
 rw[jA,gC hk];simp[hm]
theorem oi (l:List bZ) (hl:l.length≤100000):Sp 192 1 [tD 0 (.sl (aJ l))] [tB 0 (nG l)]:=by
 refine sb Tryz.func192 rfl (sq (rT [0] (s1 (sq (sq (rT [0,5,6,7] (s3 (bk (SW.loopW (n:=l.length) (fun n q=> ∃i:Nat,n=l.length - i∧i≤l.length∧(∀k,k<i→mY l k=true)∧q=[tD 0 (.sl (aJ l)),tD 5 (.sl (aJ l)),tI 6 (l.length:Nat),tI 7 (i:Nat)]) ?_ ?_)))))))))
 · refine wq (σ':=[tD 0 (.sl (aJ l)),tD 5 (.sl (aJ l)),tI 6 (l.length:Nat),tI 7 (0:Nat)]) [] [] (⟨0,rfl,aNj _,fun k h=>absurd h (by omega),rfl⟩) ?_
   repeat' apply ai
   all_goals first|exact qx|(rw[aG];done)|rfl|exact qz
 rintro n s ⟨i,rfl,hi,hk,rfl⟩
 refine sq (rT [0,5,6,7,8] (s1 (sq (cd rfl (fun c8=> ?_) fun c8=> ?_))))
 · have hi2:i<l.length:=by simpa using c8
   have hg:=bP (l:=l) hi2
   have hmem:l.getD i .zero∈l:=by rw[aNm,aNo hi2];exact List.getElem_mem _
   refine sk (sq (bk (sq (rT [0,3,4,5,6,7] (s1 (ai (by rw[aNf,hg];exact⟨⟨by omega,by rw[aG];omega⟩,rfl⟩) (ai (by rw[aNf,hg];exact⟨aNg rfl,rfl⟩) (s3 (sq (rD [0,5,6,7,38] (s1 (xp (qj (l.getD i .zero)) (ai (by rw[aNf,hg];rfl) ?_)))))))))))))
   refine s2 (y4 (y2 (ai (fun h=>(by have h0:0<i:=(by have h9:=h;simp[gb] at h9;omega);rw[dS h0 (by omega),aNf,bP (by omega),aG];exact⟨⟨by omega,by omega⟩,rfl⟩)) (ai rk (y1 (ai (fun h=>(by have h0:0<i:=(by have h9:=h;simp[gb] at h9;omega);rw[dS h0 (by omega),aNf,bP (by omega)];exact⟨aNg rfl,rfl⟩)) (ai rk (y3 (ai (fun h=>(by have h0:0<i:=(by have h9:=h;simp[gb] at h9;omega);rw[dS h0 (by omega),aNf,bP (by omega),aG];exact⟨⟨by omega,by omega⟩,rfl⟩)) (ai rk (y1 (ai (fun h=>(by have h0:0<i:=(by have h9:=h;simp[gb] at h9;omega);rw[dS h0 (by omega),aNf,bP (by omega)];exact⟨aNg rfl,rfl⟩)) (ai rk (y4 (xc (fun h=>(pM _ _ _ _)) (ai rfl (ai rk ?_)))))))))))))))))
   refine y1 (ai (fun h=>pk) (ai rk (ai pk (ai (by kernel_rfl) (cd rfl (fun c38=> ?_) fun c38=> ?_)))))
   · refine sq (rT [2] (s1 (rt (aT rfl (aA D.b ?_)))))
     have hs:mY l i=false:=qX c38 (fun h0=>by simp only[dS h0 (show i≤1000000 by omega),aNf,hg,bP (show i - 1<l.length by omega)];rfl)
     rw[nG,eC hi2 hs]
   refine sk (rT [0,5,6,7] (s2 ?_))
   have hs:mY l i=true:=qX c38 (fun h0=>by simp only[dS h0 (show i≤1000000 by omega),aNf,hg,bP (show i - 1<l.length by omega)];rfl)
   refine wq [] [] (⟨l.length - (i+1),by omega,i+1,rfl,by omega,fun k h=>by by_cases e:k=i;exact e▸hs;exact hk k (by omega),rfl⟩) ?_
   repeat' apply ai
   all_goals first|exact qx|exact aA D.i (aH (by omega))|exact qz
 have hi3:i=l.length:=by simp at c8;omega
 refine xt (sq (rT [2] (s1 (rt (aT rfl (aA D.b ?_))))))
 subst hi3
 rw[nG,gC hk]
theorem nB (k:bH) (hx: ∀x∈k.held,x.text.length≤140737488355328) (hy: ∀x∈k.inbox,x.text.length≤140737488355328):Sp 148 1 [tV 0 k.V] [tB 0 (dG k)]:=by
 refine sb Tryz.func148 rfl (sq (rT [1] (s2 (sq (sq (rT [1,42] (s2 (xp (fN _) (ai rfl ?_)))))))))
 refine s2 (y2 (xc (fun h=>(eN _ _ _)) (ai rfl (ai rk ?_))))
 refine y1 (ai pk (s1 (y2 (xc (fun h=>(eN _ _ _)) (ai rfl (ai rk ?_))))))
 refine y1 (ai pk (s1 (y4 (ai pk (s1 (y4 (ai pk (s1 (y4 (ai pk (cd rfl (fun c42=> ?_) fun c42=> ?_)))))))))))
 · refine sq (rT [2] (s1 (rt (aT rfl (aA D.b ?_)))))
   refine(mF fun h=> ?_).symm
   obtain⟨⟨h1,h2,h3,h4,h5,h6⟩,⟨h7,h8,h9⟩,h10,h11,h12⟩:=(bW k).1 h
   simp only[gb,mR,aE,aG,h1,Bool.not_true,Bool.false_or,Bool.or_eq_true,Bool.not_eq_eq_eq_not,Bool.and_eq_false_iff,aD,decide_eq_false_iff_not,Bool.not_eq_true'] at c42
   omega
 have hf:eP k.id=true∧(0≤k.time∧k.time≤999)∧(1≤k.next∧k.next≤100)∧k.held.length≤6∧k.marks.length≤12∧k.inbox.length≤6:=by
  simp only[gb,mR,aE,aG,Bool.or_eq_false_iff,Bool.not_eq_false,decide_eq_false_iff_not,Bool.not_eq_eq_eq_not,Bool.not_false,aNi,aD] at c42
  obtain⟨⟨⟨⟨⟨q1,q2⟩,q3⟩,q4⟩,q5⟩,q6⟩:=c42
  exact⟨q1,q2,q3,by omega,by omega,by omega⟩
 obtain⟨f1,f2,f3,f4,f5,f6⟩:=hf
 refine sk (sq (sq (rT [1,58] (s2 (xp (yN k.held hx (by omega)) (ai rfl ?_))))))
 refine s2 (y2 (xc (fun h=>(oi k.marks (by omega))) (ai rfl (ai rk ?_))))
 refine y1 (ai pk (s1 (y2 (xc (fun h=>(yN k.inbox hy (by omega))) (ai rfl (ai rk ?_))))))
 refine y1 (ai pk (cd rfl (fun c58=> ?_) fun c58=> ?_))
 · refine sq (rT [2] (s1 (rt (aT rfl (aA D.b ?_)))))
   refine(mF fun h=> ?_).symm
   obtain⟨⟨h1,h2,h3,h4,h5,h6⟩,⟨h7,h8,h9⟩,h10,h11,h12⟩:=(bW k).1 h
   rw[h7,h8,h9] at c58
   cases c58
 have hg3:jA k.held=true∧nG k.marks=true∧jA k.inbox=true:=by
  simp only[gb,Bool.or_eq_false_iff,Bool.not_eq_false,Bool.not_eq_eq_eq_not,Bool.not_false] at c58
  exact⟨c58.1.1,c58.1.2,c58.2⟩
 refine sk (sq (sq (rT [1,60,61,62] (s4 (bk (SW.loopW (n:=k.held.length) (fun n q=> ∃i:Nat,n=k.held.length - i∧i≤k.held.length∧(∀j,j<i→vT k j=true)∧q=[tP 1 1,tD 60 (.sl (aF k.held)),tI 61 (k.held.length:Nat),tI 62 (i:Nat),oB 1 44 [.d (.i k.id),.d (.i k.time),.d (.i k.next),.d (.sl (aF k.held)),.d (.sl (aJ k.marks)),.d (.sl (aF k.inbox))]]) ?_ ?_))))))
 · refine wq (σ':=[tP 1 1,tD 60 (.sl (aF k.held)),tI 61 (k.held.length:Nat),tI 62 (0:Nat),oB 1 44 [.d (.i k.id),.d (.i k.time),.d (.i k.next),.d (.sl (aF k.held)),.d (.sl (aJ k.marks)),.d (.sl (aF k.inbox))]]) [] [] (⟨0,rfl,aNj _,fun j h=>absurd h (by omega),rfl⟩) ?_
   repeat' apply ai
   all_goals first|exact qx|(rw[aE];done)|rfl|exact qz
 rintro n s ⟨i,rfl,hi,hk,rfl⟩
 refine sq (rT [1,60,61,62,63] (s1 (sq (cd rfl (fun c63=> ?_) fun c63=> ?_))))
 · have hi2:i<k.held.length:=by simpa using c63
   have hg:=aS (l:=k.held) hi2
   refine sk (sq (bk (sq (rT [1,4,60,61,62] (ai (by rw[aNf,hg];exact⟨⟨by omega,by rw[aE];omega⟩,rfl⟩) (ai (by rw[aNf,hg];exact⟨aNg rfl,rfl⟩) (s2 (sq (wa [tP 1 1,tD 60 (.sl (aF k.held)),tI 61 (k.held.length:Nat),tI 62 (i:Nat),oB 1 44 [.d (.i k.id),.d (.i k.time),.d (.i k.next),.d (.sl (aF k.held)),.d (.sl (aJ k.marks)),.d (.sl (aF k.inbox))],tP 4 4,oB 4 52 [.d (.i (k.held.getD i .zero).frm),.d (.i (k.held.getD i .zero).num),.d (.i (k.held.getD i .zero).to),.d (.i (k.held.getD i .zero).til),.d (.s (k.held.getD i .zero).text)]] [] [] ?_ ?_)))))))))
   · repeat' apply ai
     all_goals first|exact qx|(rw[aNf,hg];rfl)|exact qz
   refine rT [1,60,61,62,101] (s6 (y4 (y1 (ai pk (s1 (y4 (y1 (ai pk (s1 (y3 (xc (fun h=>(wc k.id (k.held.getD i .zero))) (ai rfl (ai rk ?_)))))))))))))
   refine y1 (ai pk (s1 (y4 (y2 (xc (fun h=>(pO k.marks _ _ (by omega))) (ai rfl (ai rk ?_)))))))
   refine y1 (ai pk (cd rfl (fun c101=> ?_) fun c101=> ?_))
   · refine sq (rT [2] (s1 (rt (aT rfl (aA D.b ?_)))))
     refine(mF fun h=> ?_).symm
     obtain⟨⟨h1,h2,h3,h4,h5,h6⟩,⟨h7,h8,h9⟩,h10,h11,h12⟩:=(bW k).1 h
     rw[eC hi2 (vV c101)] at h10
     cases h10
   refine sk (rT [1,60,61,62] (s2 ?_))
   have hs:vT k i=true:=vV c101
   refine wq [] [] (⟨k.held.length - (i+1),by omega,i+1,rfl,by omega,fun j h=>by by_cases e:j=i;exact e▸hs;exact hk j (by omega),rfl⟩) ?_
   repeat' apply ai
   all_goals first|exact qx|exact aA D.i (aH (by omega))|exact qz
 have hiA:i=k.held.length:=by simp at c63;omega
 have hkA:=hk
 clear hk hi
 refine xt (sq (sq (rT [1,104,105,106] (s4 (bk (SW.loopW (n:=k.marks.length) (fun n q=> ∃i:Nat,n=k.marks.length - i∧i≤k.marks.length∧(∀j,j<i→xZ k j=true)∧q=[tP 1 1,tD 104 (.sl (aJ k.marks)),tI 105 (k.marks.length:Nat),tI 106 (i:Nat),oB 1 44 [.d (.i k.id),.d (.i k.time),.d (.i k.next),.d (.sl (aF k.held)),.d (.sl (aJ k.marks)),.d (.sl (aF k.inbox))]]) ?_ ?_))))))
 · refine wq (σ':=[tP 1 1,tD 104 (.sl (aJ k.marks)),tI 105 (k.marks.length:Nat),tI 106 (0:Nat),oB 1 44 [.d (.i k.id),.d (.i k.time),.d (.i k.next),.d (.sl (aF k.held)),.d (.sl (aJ k.marks)),.d (.sl (aF k.inbox))]]) [] [] (⟨0,rfl,aNj _,fun j h=>absurd h (by omega),rfl⟩) ?_
   repeat' apply ai
   all_goals first|exact qx|(rw[aG];done)|rfl|exact qz
 rintro n s ⟨i,rfl,hi,hk,rfl⟩
 refine sq (rT [1,104,105,106,107] (s1 (sq (cd rfl (fun c107=> ?_) fun c107=> ?_))))
 · have hi2:i<k.marks.length:=by simpa using c107
   have hg:=bP (l:=k.marks) hi2
   refine sk (sq (bk (sq (rT [1,6,104,105,106] (ai (by rw[aNf,hg];exact⟨⟨by omega,by rw[aG];omega⟩,rfl⟩) (ai (by rw[aNf,hg];exact⟨aNg rfl,rfl⟩) (s2 (sq (wa [tP 1 1,tD 104 (.sl (aJ k.marks)),tI 105 (k.marks.length:Nat),tI 106 (i:Nat),oB 1 44 [.d (.i k.id),.d (.i k.time),.d (.i k.next),.d (.sl (aF k.held)),.d (.sl (aJ k.marks)),.d (.sl (aF k.inbox))],tP 6 6,oB 6 162 [.d (.i (k.marks.getD i .zero).frm),.d (.i (k.marks.getD i .zero).num),.d (.i (k.marks.getD i .zero).til)]] [] [] ?_ ?_)))))))))
   · repeat' apply ai
     all_goals first|exact qx|(rw[aNf,hg];rfl)|exact qz
   refine rT [1,104,105,106,128] (s6 (y4 (y1 (ai pk (s1 (y4 (y1 (ai pk (cd rfl (fun c128=> ?_) fun c128=> ?_)))))))))
   · refine sq (rT [2] (s1 (rt (aT rfl (aA D.b ?_)))))
     refine(mF fun h=> ?_).symm
     obtain⟨⟨h1,h2,h3,h4,h5,h6⟩,⟨h7,h8,h9⟩,h10,h11,h12⟩:=(bW k).1 h
     rw[eC hi2 (vW c128)] at h11
     cases h11
   refine sk (rT [1,104,105,106] (s2 ?_))
   have hs:xZ k i=true:=vW c128
   refine wq [] [] (⟨k.marks.length - (i+1),by omega,i+1,rfl,by omega,fun j h=>by by_cases e:j=i;exact e▸hs;exact hk j (by omega),rfl⟩) ?_
   repeat' apply ai
   all_goals first|exact qx|exact aA D.i (aH (by omega))|exact qz
 have hiB:i=k.marks.length:=by simp at c107;omega
 have hkB:=hk
 clear hk hi
 refine xt (sq (sq (rT [1,131,132,133] (s4 (bk (SW.loopW (n:=k.inbox.length) (fun n q=> ∃i:Nat,n=k.inbox.length - i∧i≤k.inbox.length∧(∀j,j<i→sW k j=true)∧q=[tP 1 1,tD 131 (.sl (aF k.inbox)),tI 132 (k.inbox.length:Nat),tI 133 (i:Nat),oB 1 44 [.d (.i k.id),.d (.i k.time),.d (.i k.next),.d (.sl (aF k.held)),.d (.sl (aJ k.marks)),.d (.sl (aF k.inbox))]]) ?_ ?_))))))
 · refine wq (σ':=[tP 1 1,tD 131 (.sl (aF k.inbox)),tI 132 (k.inbox.length:Nat),tI 133 (0:Nat),oB 1 44 [.d (.i k.id),.d (.i k.time),.d (.i k.next),.d (.sl (aF k.held)),.d (.sl (aJ k.marks)),.d (.sl (aF k.inbox))]]) [] [] (⟨0,rfl,aNj _,fun j h=>absurd h (by omega),rfl⟩) ?_
   repeat' apply ai
   all_goals first|exact qx|(rw[aE];done)|rfl|exact qz
 rintro n s ⟨i,rfl,hi,hk,rfl⟩
 refine sq (rT [1,131,132,133,134] (s1 (sq (cd rfl (fun c134=> ?_) fun c134=> ?_))))
 · have hi2:i<k.inbox.length:=by simpa using c134
   have hg:=aS (l:=k.inbox) hi2
   refine sk (sq (bk (sq (rT [1,8,131,132,133] (ai (by rw[aNf,hg];exact⟨⟨by omega,by rw[aE];omega⟩,rfl⟩) (ai (by rw[aNf,hg];exact⟨aNg rfl,rfl⟩) (s2 (sq (wa [tP 1 1,tD 131 (.sl (aF k.inbox)),tI 132 (k.inbox.length:Nat),tI 133 (i:Nat),oB 1 44 [.d (.i k.id),.d (.i k.time),.d (.i k.next),.d (.sl (aF k.held)),.d (.sl (aJ k.marks)),.d (.sl (aF k.inbox))],tP 8 8,oB 8 52 [.d (.i (k.inbox.getD i .zero).frm),.d (.i (k.inbox.getD i .zero).num),.d (.i (k.inbox.getD i .zero).to),.d (.i (k.inbox.getD i .zero).til),.d (.s (k.inbox.getD i .zero).text)]] [] [] ?_ ?_)))))))))
   · repeat' apply ai
     all_goals first|exact qx|(rw[aNf,hg];rfl)|exact qz
   refine rT [1,131,132,133,172] (s6 (y4 (y1 (ai pk (s1 (y4 (y1 (ai pk (s1 (y4 (y4 (y4 (xc (fun h=>(pO k.marks _ _ (by omega))) (ai rfl (ai rk ?_)))))))))))))))
   refine y1 (ai (fun h=>pk) (ai rk (ai pk (cd rfl (fun c172=> ?_) fun c172=> ?_))))
   · refine sq (rT [2] (s1 (rt (aT rfl (aA D.b ?_)))))
     refine(mF fun h=> ?_).symm
     obtain⟨⟨h1,h2,h3,h4,h5,h6⟩,⟨h7,h8,h9⟩,h10,h11,h12⟩:=(bW k).1 h
     rw[eC hi2 (sY c172)] at h12
     cases h12
   refine sk (rT [1,131,132,133] (s2 ?_))
   have hs:sW k i=true:=sY c172
   refine wq [] [] (⟨k.inbox.length - (i+1),by omega,i+1,rfl,by omega,fun j h=>by by_cases e:j=i;exact e▸hs;exact hk j (by omega),rfl⟩) ?_
   repeat' apply ai
   all_goals first|exact qx|exact aA D.i (aH (by omega))|exact qz
 have hiC:i=k.inbox.length:=by simp at c134;omega
 refine xt (sq (rT [2] (s1 (rt (aT rfl (aA D.b ?_))))))
 refine((bW k).2 ⟨⟨f1,f2,f3,f4,f5,f6⟩,hg3,gC ?_,gC ?_,gC ?_⟩).symm
 · rw[← hiA];exact hkA
 · rw[← hiB];exact hkB
 rw[← hiC];exact hk
theorem or4 (a b c d:Bool): (c||a||b||d)=(a||b||c||d):=by cases a<;>cases b<;>cases c<;>cases d<;>rfl
theorem or3 (a b c:Bool): (b||a||c)=(a||b||c):=by cases a<;>cases b<;>cases c<;>rfl
theorem or2 (a b:Bool): (b||a)=(a||b):=by cases a<;>cases b<;>rfl
theorem aJ4 (a b c d:Bool): (!(a&&b&&c)||d)=(!a|| !b|| !c||d):=by cases a<;>cases b<;>cases c<;>cases d<;>rfl
theorem kl (l:List bZ) (hl:l.length≤100000):Sp 189 1 [tD 0 (.sl (aJ l))] [tB 0 (decide (l.length≤12)&&nG l)]:=by
 refine sb Tryz.func189 rfl (sq (rT [0] (s1 (sq (sq (rT [0,7] (s3 (cd rfl (fun c7=> ?_) fun c7=> ?_))))))))
 · have hm: ¬l.length≤12:=by simp[aG] at c7;omega
   refine sq (rT [2] (s1 (rt (aT rfl (aA D.b ?_)))))
   simp[hm]
 have hm:l.length≤12:=by simp[aG] at c7;omega
 refine sk (sq (sq (rT [0,3] (s1 (bk (SW.loopW (n:=l.length) (fun n q=> ∃i:Nat,n=l.length - i∧i≤l.length∧(∀k,k<i→mY l k=true)∧q=[tD 0 (.sl (aJ l)),tI 3 (i:Nat)]) ?_ ?_))))))
 · exact wq (σ':=[tD 0 (.sl (aJ l)),tI 3 (0:Nat)]) [] [] (⟨0,rfl,aNj _,fun k h=>absurd h (by omega),rfl⟩) qz
 rintro n s ⟨i,rfl,hi,hk,rfl⟩
 refine sq (sq (rT [0,3,11] (s4 (cd rfl (fun c11=> ?_) fun c11=> ?_))))
 · have hi2:i<l.length:=by simpa[aG] using c11
   have hg:=bP (l:=l) hi2
   refine sk (sq (bk (sq (rT [0,3,4] (s2 (ai (by rw[aNf,hg];exact⟨⟨by omega,by rw[aG];omega⟩,rfl⟩) (ai (by rw[aNf,hg];exact⟨aNg rfl,rfl⟩) (s2 (sq (wa [tD 0 (.sl (aJ l)),tI 3 (i:Nat),tP 4 4,oB 4 162 [.d (.i (l.getD i .zero).frm),.d (.i (l.getD i .zero).num),.d (.i (l.getD i .zero).til)]] [] [] ?_ ?_))))))))))
   · repeat' apply ai
     all_goals first|exact qx|(rw[aNf,hg];rfl)|exact qz
   refine rD [0,3,57] (s2 (xp (fQ _) (ai rfl ?_)))
   refine s2 (y2 (xc (fun h=>(fH _ _ _)) (ai rfl (ai rk ?_))))
   refine y1 (ai pk (s1 (y2 (xc (fun h=>(fH _ _ _)) (ai rfl (ai rk ?_))))))
   refine y1 (ai pk (s1 (y4 (y2 (ai (fun h=>(by have h0:0<i:=(by have h9:=h;simp[gb] at h9;omega);rw[dS h0 (by omega),aNf,bP (by omega),aG];exact⟨⟨by omega,by omega⟩,rfl⟩)) (ai rk (y1 (ai (fun h=>(by have h0:0<i:=(by have h9:=h;simp[gb] at h9;omega);rw[dS h0 (by omega),aNf,bP (by omega)];exact⟨aNg rfl,rfl⟩)) (ai rk (y3 (ai (fun h=>(by have h0:0<i:=(by have h9:=h;simp[gb] at h9;omega);rw[dS h0 (by omega),aNf,bP (by omega),aG];exact⟨⟨by omega,by omega⟩,rfl⟩)) (ai rk (y1 (ai (fun h=>(by have h0:0<i:=(by have h9:=h;simp[gb] at h9;omega);rw[dS h0 (by omega),aNf,bP (by omega)];exact⟨aNg rfl,rfl⟩)) (ai rk (y4 (xc (fun h=>(oM _ _ _ _)) (ai rfl (ai rk ?_)))))))))))))))))))
   refine y1 (ai (fun h=>pk) (ai rk (ai pk (ai (by kernel_rfl) (cd rfl (fun c57=> ?_) fun c57=> ?_)))))
   · refine sq (rT [2] (s1 (rt (aT rfl (aA D.b ?_)))))
     have hs:mY l i=false:=qX ((aJ4 _ _ _ _).trans c57) (fun h0=>by simp only[dS h0 (show i≤1000000 by omega),aNf,bP (show i - 1<l.length by omega)];rfl)
     rw[nG,eC hi2 hs];simp
   refine sk (rT [0,3] (s3 ?_))
   have hs:mY l i=true:=qX ((aJ4 _ _ _ _).trans c57) (fun h0=>by simp only[dS h0 (show i≤1000000 by omega),aNf,bP (show i - 1<l.length by omega)];rfl)
   refine wq [] [] (⟨l.length - (i+1),by omega,i+1,rfl,by omega,fun k h=>by by_cases e:k=i;exact e▸hs;exact hk k (by omega),rfl⟩) ?_
   repeat' apply ai
   all_goals first|exact qx|exact aA D.i (aH (by omega))|exact qz
 have hi3:i=l.length:=by simp[aG] at c11;omega
 refine xt (sq (rT [2] (s1 (rt (aT rfl (aA D.b ?_))))))
 subst hi3
 rw[nG,gC hk];simp[hm]
theorem tY (k:bH) (hb1:k.held.length≤100000∧k.marks.length≤100000∧k.inbox.length≤100000) (hx: ∀x∈k.held,x.text.length≤140737488355328) (hy: ∀x∈k.inbox,x.text.length≤140737488355328):Sp 145 1 [tV 0 k.V] [tB 0 (dG k)]:=by
 refine sb Tryz.func145 rfl (sq (rT [1] (s2 (sq (sq (rT [1,42] (s2 (xp (fQ _) (ai rfl ?_)))))))))
 refine s2 (y2 (xc (fun h=>(fH _ _ _)) (ai rfl (ai rk ?_))))
 refine y1 (ai pk (s1 (y2 (xc (fun h=>(fH _ _ _)) (ai rfl (ai rk ?_))))))
 refine y1 (ai pk (s1 (y2 (xc (fun h=>(xA k.held 6 hx hb1.1)) (ai rfl (ai rk ?_))))))
 refine y1 (ai pk (s1 (y2 (xc (fun h=>(kl k.marks hb1.2.1)) (ai rfl (ai rk ?_))))))
 refine y1 (ai pk (s1 (y2 (xc (fun h=>(xA k.inbox 6 hy hb1.2.2)) (ai rfl (ai rk ?_))))))
 refine y1 (ai pk (cd rfl (fun c42=> ?_) fun c42=> ?_))
 · refine sq (rT [2] (s1 (rt (aT rfl (aA D.b ?_)))))
   refine(mF fun h=> ?_).symm
   obtain⟨⟨h1,h2,h3,h4,h5,h6⟩,⟨h7,h8,h9⟩,h10,h11,h12⟩:=(bW k).1 h
   have h4b: ((k.held.length:Int)≤6):=by omega
   have h6b: ((k.inbox.length:Int)≤6):=by omega
   simp only[gb,mR,h1,h7,h8,h9,h5,h4b,h6b,h2.1,h2.2,h3.1,h3.2,decide_true,Bool.and_true,Bool.not_true,Bool.or_false] at c42
   cases c42
 have hf: (eP k.id=true∧(0≤k.time∧k.time≤999)∧(1≤k.next∧k.next≤100)∧k.held.length≤6∧k.marks.length≤12∧k.inbox.length≤6)∧jA k.held=true∧nG k.marks=true∧jA k.inbox=true:=by
  simp only[gb,mR,Bool.or_eq_false_iff,Bool.not_eq_false,decide_eq_false_iff_not,Bool.not_eq_eq_eq_not,Bool.not_false,aNi,aD] at c42
  obtain⟨⟨⟨⟨⟨q1,q2⟩,q3⟩,q4,q4b⟩,q5,q5b⟩,q6,q6b⟩:=c42
  exact⟨⟨q1,q2,q3,by omega,by omega,by omega⟩,q4b,q5b,q6b⟩
 obtain⟨⟨f1,f2,f3,f4,f5,f6⟩,hg3⟩:=hf
 refine sk (sq (sq (rT [1,3] (s1 (bk (SW.loopW (n:=k.held.length) (fun n q=> ∃i:Nat,n=k.held.length - i∧i≤k.held.length∧(∀j,j<i→vT k j=true)∧q=[tP 1 1,tI 3 (i:Nat),oB 1 44 [.d (.i k.id),.d (.i k.time),.d (.i k.next),.d (.sl (aF k.held)),.d (.sl (aJ k.marks)),.d (.sl (aF k.inbox))]]) ?_ ?_))))))
 · refine wq (σ':=[tP 1 1,tI 3 (0:Nat),oB 1 44 [.d (.i k.id),.d (.i k.time),.d (.i k.next),.d (.sl (aF k.held)),.d (.sl (aJ k.marks)),.d (.sl (aF k.inbox))]]) [] [] (⟨0,rfl,aNj _,fun j h=>absurd h (by omega),rfl⟩) ?_
   repeat' apply ai
   all_goals first|exact qx|(rw[aE];done)|rfl|exact qz
 rintro n s ⟨i,rfl,hi,hk,rfl⟩
 refine sq (sq (rT [1,3,47] (s5 (cd rfl (fun c47=> ?_) fun c47=> ?_))))
 · have hi2:i<k.held.length:=by simpa[aE] using c47
   have hg:=aS (l:=k.held) hi2
   refine sk (sq (bk (sq (rT [1,3,4] (s3 (ai (by rw[aNf,hg];exact⟨⟨by omega,by rw[aE];omega⟩,rfl⟩) (ai (by rw[aNf,hg];exact⟨aNg rfl,rfl⟩) (s2 (sq (wa [tP 1 1,tI 3 (i:Nat),oB 1 44 [.d (.i k.id),.d (.i k.time),.d (.i k.next),.d (.sl (aF k.held)),.d (.sl (aJ k.marks)),.d (.sl (aF k.inbox))],tP 4 4,oB 4 52 [.d (.i (k.held.getD i .zero).frm),.d (.i (k.held.getD i .zero).num),.d (.i (k.held.getD i .zero).to),.d (.i (k.held.getD i .zero).til),.d (.s (k.held.getD i .zero).text)]] [] [] ?_ ?_))))))))))
   · repeat' apply ai
     all_goals first|exact qx|(rw[aNf,hg];rfl)|exact qz
   refine rT [1,3,90] (s6 (y3 (xc (fun h=>(ql (k.held.getD i .zero) k.id)) (ai rfl (ai rk ?_)))))
   refine y1 (ai pk (s1 (y4 (y4 (y3 (ai (fun h=>pk) (ai rk (ai pk (s1 (y4 (y2 (xc (fun h=>(oN k.marks _ _ (by omega))) (ai rfl (ai rk ?_))))))))))))))
   refine y1 (ai pk (cd rfl (fun c90=> ?_) fun c90=> ?_))
   · refine sq (rT [2] (s1 (rt (aT rfl (aA D.b ?_)))))
     refine(mF fun h=> ?_).symm
     obtain⟨⟨h1,h2,h3,h4,h5,h6⟩,⟨h7,h8,h9⟩,h10,h11,h12⟩:=(bW k).1 h
     rw[eC hi2 (vV ((or4 _ _ _ _).trans c90))] at h10
     cases h10
   refine sk (rT [1,3] (s3 ?_))
   have hs:vT k i=true:=vV ((or4 _ _ _ _).trans c90)
   refine wq [] [] (⟨k.held.length - (i+1),by omega,i+1,rfl,by omega,fun j h=>by by_cases e:j=i;exact e▸hs;exact hk j (by omega),rfl⟩) ?_
   repeat' apply ai
   all_goals first|exact qx|exact aA D.i (aH (by omega))|exact qz
 have hiA:i=k.held.length:=by simp[aE] at c47;omega
 have hkA:=hk
 clear hk hi
 refine xt (sq (sq (rT [1,5] (s1 (bk (SW.loopW (n:=k.marks.length) (fun n q=> ∃i:Nat,n=k.marks.length - i∧i≤k.marks.length∧(∀j,j<i→xZ k j=true)∧q=[tP 1 1,tI 5 (i:Nat),oB 1 44 [.d (.i k.id),.d (.i k.time),.d (.i k.next),.d (.sl (aF k.held)),.d (.sl (aJ k.marks)),.d (.sl (aF k.inbox))]]) ?_ ?_))))))
 · refine wq (σ':=[tP 1 1,tI 5 (0:Nat),oB 1 44 [.d (.i k.id),.d (.i k.time),.d (.i k.next),.d (.sl (aF k.held)),.d (.sl (aJ k.marks)),.d (.sl (aF k.inbox))]]) [] [] (⟨0,rfl,aNj _,fun j h=>absurd h (by omega),rfl⟩) ?_
   repeat' apply ai
   all_goals first|exact qx|(rw[aG];done)|rfl|exact qz
 rintro n s ⟨i,rfl,hi,hk,rfl⟩
 refine sq (sq (rT [1,5,95] (s5 (cd rfl (fun c95=> ?_) fun c95=> ?_))))
 · have hi2:i<k.marks.length:=by simpa[aG] using c95
   have hg:=bP (l:=k.marks) hi2
   refine sk (sq (bk (sq (rT [1,5,6] (s3 (ai (by rw[aNf,hg];exact⟨⟨by omega,by rw[aG];omega⟩,rfl⟩) (ai (by rw[aNf,hg];exact⟨aNg rfl,rfl⟩) (s2 (sq (wa [tP 1 1,tI 5 (i:Nat),oB 1 44 [.d (.i k.id),.d (.i k.time),.d (.i k.next),.d (.sl (aF k.held)),.d (.sl (aJ k.marks)),.d (.sl (aF k.inbox))],tP 6 6,oB 6 162 [.d (.i (k.marks.getD i .zero).frm),.d (.i (k.marks.getD i .zero).num),.d (.i (k.marks.getD i .zero).til)]] [] [] ?_ ?_))))))))))
   · repeat' apply ai
     all_goals first|exact qx|(rw[aNf,hg];rfl)|exact qz
   refine rT [1,5,121] (s6 (y4 (y4 (y3 (ai (fun h=>pk) (ai rk (ai pk (cd rfl (fun c121=> ?_) fun c121=> ?_))))))))
   · refine sq (rT [2] (s1 (rt (aT rfl (aA D.b ?_)))))
     refine(mF fun h=> ?_).symm
     obtain⟨⟨h1,h2,h3,h4,h5,h6⟩,⟨h7,h8,h9⟩,h10,h11,h12⟩:=(bW k).1 h
     rw[eC hi2 (vW ((or2 _ _).trans c121))] at h11
     cases h11
   refine sk (rT [1,5] (s3 ?_))
   have hs:xZ k i=true:=vW ((or2 _ _).trans c121)
   refine wq [] [] (⟨k.marks.length - (i+1),by omega,i+1,rfl,by omega,fun j h=>by by_cases e:j=i;exact e▸hs;exact hk j (by omega),rfl⟩) ?_
   repeat' apply ai
   all_goals first|exact qx|exact aA D.i (aH (by omega))|exact qz
 have hiB:i=k.marks.length:=by simp[aG] at c95;omega
 have hkB:=hk
 clear hk hi
 refine xt (sq (sq (rT [1,7] (s1 (bk (SW.loopW (n:=k.inbox.length) (fun n q=> ∃i:Nat,n=k.inbox.length - i∧i≤k.inbox.length∧(∀j,j<i→sW k j=true)∧q=[tP 1 1,tI 7 (i:Nat),oB 1 44 [.d (.i k.id),.d (.i k.time),.d (.i k.next),.d (.sl (aF k.held)),.d (.sl (aJ k.marks)),.d (.sl (aF k.inbox))]]) ?_ ?_))))))
 · refine wq (σ':=[tP 1 1,tI 7 (0:Nat),oB 1 44 [.d (.i k.id),.d (.i k.time),.d (.i k.next),.d (.sl (aF k.held)),.d (.sl (aJ k.marks)),.d (.sl (aF k.inbox))]]) [] [] (⟨0,rfl,aNj _,fun j h=>absurd h (by omega),rfl⟩) ?_
   repeat' apply ai
   all_goals first|exact qx|(rw[aE];done)|rfl|exact qz
 rintro n s ⟨i,rfl,hi,hk,rfl⟩
 refine sq (sq (rT [1,7,126] (s5 (cd rfl (fun c126=> ?_) fun c126=> ?_))))
 · have hi2:i<k.inbox.length:=by simpa[aE] using c126
   have hg:=aS (l:=k.inbox) hi2
   refine sk (sq (bk (sq (rT [1,7,8] (s3 (ai (by rw[aNf,hg];exact⟨⟨by omega,by rw[aE];omega⟩,rfl⟩) (ai (by rw[aNf,hg];exact⟨aNg rfl,rfl⟩) (s2 (sq (wa [tP 1 1,tI 7 (i:Nat),oB 1 44 [.d (.i k.id),.d (.i k.time),.d (.i k.next),.d (.sl (aF k.held)),.d (.sl (aJ k.marks)),.d (.sl (aF k.inbox))],tP 8 8,oB 8 52 [.d (.i (k.inbox.getD i .zero).frm),.d (.i (k.inbox.getD i .zero).num),.d (.i (k.inbox.getD i .zero).to),.d (.i (k.inbox.getD i .zero).til),.d (.s (k.inbox.getD i .zero).text)]] [] [] ?_ ?_))))))))))
   · repeat' apply ai
     all_goals first|exact qx|(rw[aNf,hg];rfl)|exact qz
   refine rT [1,7,169] (s6 (y4 (y4 (y3 (ai (fun h=>pk) (ai rk (ai pk (s1 (y4 (y4 (y4 (xc (fun h=>(oN k.marks _ _ (by omega))) (ai rfl (ai rk ?_))))))))))))))
   refine y1 (ai (fun h=>pk) (ai rk (ai pk (cd rfl (fun c169=> ?_) fun c169=> ?_))))
   · refine sq (rT [2] (s1 (rt (aT rfl (aA D.b ?_)))))
     refine(mF fun h=> ?_).symm
     obtain⟨⟨h1,h2,h3,h4,h5,h6⟩,⟨h7,h8,h9⟩,h10,h11,h12⟩:=(bW k).1 h
     rw[eC hi2 (sY ((or3 _ _ _).trans c169))] at h12
     cases h12
   refine sk (rT [1,7] (s3 ?_))
   have hs:sW k i=true:=sY ((or3 _ _ _).trans c169)
   refine wq [] [] (⟨k.inbox.length - (i+1),by omega,i+1,rfl,by omega,fun j h=>by by_cases e:j=i;exact e▸hs;exact hk j (by omega),rfl⟩) ?_
   repeat' apply ai
   all_goals first|exact qx|exact aA D.i (aH (by omega))|exact qz
 have hiC:i=k.inbox.length:=by simp[aE] at c126;omega
 refine xt (sq (rT [2] (s1 (rt (aT rfl (aA D.b ?_))))))
 refine((bW k).2 ⟨⟨f1,f2,f3,f4,f5,f6⟩,hg3,gC ?_,gC ?_,gC ?_⟩).symm
 · rw[← hiA];exact hkA
 · rw[← hiB];exact hkB
 rw[← hiC];exact hk
theorem rH (n:Nat) (hn:n≤1000000000):Sp 89 1 [tI 0 (n:Nat)] [tD 0 (.s (jF n))]:=by
 induction n using Nat.strongRecOn
 rename_i n ih
 refine sb Tryz.func89 rfl (sq (rT [0] (s1 (sq (sq (rT [0,4] (s2 (cd rfl (fun c4=> ?_) fun c4=> ?_))))))))
 · simp at c4
   omega
 refine sk (sq (sq (rT [0,6] (s2 (cd rfl (fun c6=> ?_) fun c6=> ?_)))))
 · simp at c6
   omega
 refine sk (sq (sq (rT [0,12] (s2 (cd rfl (fun c12=> ?_) fun c12=> ?_)))))
 · have h10:n<10:=by simp at c12;omega
   refine sq (rT [2] (s3 (ai (by exact⟨by simp,aNg rfl⟩) (ai (by exact⟨rfl,aA (fun r=>[r]) (aBd _)⟩) (s1 (rt (aT rfl (aA D.s ?_))))))))
   rw[lA h10,← yh h10]
   rfl
 have h10: ¬n<10:=by simp at c12;omega
 have hq:wrap64 (Int.tdiv (n:Int) 10)=((n / 10:Nat):Int):=by rw[Int.tdiv_eq_ediv_of_nonneg (by omega),aH (by omega)];omega
 have hr:Int.tmod (n:Int) 10=((n % 10:Nat):Int):=by rw[Int.tmod_eq_emod_of_nonneg (by omega)];omega
 have hdl:=aCo (n / 10)
 refine sk (sq (rD [2] (s1 (ai (by omega) (xp (ih (n / 10) (by omega) (by omega)) (ai (by rw[hq];rfl) ?_))))))
 refine s1 (ai (by omega) (s2 (ai (by exact⟨by simp,aNg rfl⟩) (ai (by exact⟨rfl,aA (fun r=>[r]) (aBd _)⟩) (ai (by show _≤9223372036854775807;simp only[nS,List.length_map,aNk,aNl];omega) (s1 (ai (by kernel_rfl) (rt (aT rfl (aA D.s ?_))))))))))
 refine Eq.trans ?_ (qT (by omega)).symm
 rw[hr,← yh (Nat.mod_lt n (by decide))]
 rfl
theorem yO (s:List UInt8) (hl:s.length≤140737488355328):Sp 108 1 [tD 0 (.s s)] [tV 0 (.tup [.c (.d (.i (match hU s with|some n=>(n:Int)|none=>0))),.c (.d (.b (hU s).isSome))])]:=by
 refine sb Tryz.func108 rfl (sq (rT [0] (s2 (sq (sq (rT [0,19] (s2 (xp (eN _ _ _) (ai rfl ?_)))))))))
 refine s2 (y1 (ai (fun h=>(by have h9:=h;simp[gb,mR] at h9;exact⟨by omega,by omega⟩)) (ai rk (y4 (y1 (ai (fun h=>pk) (ai rk (ai pk (cd rfl (fun c19=> ?_) fun c19=> ?_)))))))))
 · refine sq (rT [2,3] (s2 (rt ?_)))
   have hno:hU s=none:=by
    unfold hU
    rw[aB]
    rintro⟨h1,h2,h3⟩
    have h4:mR (s.length:Int) 1 5=true:=by simp only[mR,aNi,aD];omega
    rw[h4] at c19
    simp only[Bool.not_true,Bool.false_or,aNi,beq_iff_eq,aD] at c19
    refine h2 ⟨UInt8.toNat_inj.1 ?_,by omega⟩
    have h5: ((s.getD 0 0).toNat:Int)=48:=c19.1
    have h6: (48:UInt8).toNat=48:=rfl
    omega
   refine bG rfl rfl ?_
   rw[hno]
   rfl
 have hL: (1≤s.length∧s.length≤5)∧ ¬(s.getD 0 0=48∧1<s.length):=by
  by_cases h1:1≤s.length∧s.length≤5
  · refine⟨h1,fun h2=> ?_⟩
    have h3: (((s.getD (Int.toNat 0) 0).toNat:Int)==48)=true:=by rw[show Int.toNat 0=0 from rfl,h2.1];rfl
    have h4:decide ((s.length:Int)>1)=true:=decide_eq_true (by omega)
    rw[h3,h4] at c19
    simp at c19
  · have h3:mR (s.length:Int) 1 5=false:=by
     cases h:mR (s.length:Int) 1 5 with
     |false=>rfl
     |true=>simp only[mR,aNi,aD] at h;omega
    rw[h3] at c19
    simp at c19
 refine sk (sq (rT [0,4] (s1 (sq (sq (rT [0,4,5] (s1 (bk (SW.loopW (n:=s.length) (fun m q=> ∃i:Nat,m=s.length - i∧i≤s.length∧(∀k,k<i→eY (s.getD k 0)=true)∧q=[tD 0 (.s s),tI 4 (nN (s.take (i)):Nat),tI 5 (i:Nat)]) ?_ ?_)))))))))
 · refine wq (σ':=[tD 0 (.s s),tI 4 (nN (s.take (0)):Nat),tI 5 (0:Nat)]) [] [] (⟨0,rfl,aNj _,fun k h=>absurd h (by omega),rfl⟩) ?_
   repeat' apply ai
   all_goals first|exact qx|(simp[nN];done)|exact qz
 rintro n s ⟨i,rfl,hi,hk,rfl⟩
 refine sq (sq (rT [0,4,5,23] (s4 (cd rfl (fun c23=> ?_) fun c23=> ?_))))
 · have hi2:i<s.length:=by simpa using c23
   have hb8:=jm s i
   have hw:wrap64 ((s.getD ((i:Nat):Int).toNat 0).toNat:Int)=wZ s i:=aH (by unfold wZ at hb8;rw[aNf];omega)
   have hvb:=gm hk hi (by omega)
   refine sk (sq (bk (sq (sq (rT [0,4,5,31] (s2 (ai (by exact⟨by omega,by omega⟩) (s1 (xp (eN _ _ _) (ai rfl ?_))))))))))
   refine s1 (cd rfl (fun c31=> ?_) fun c31=> ?_)
   · refine sq (rT [2,3] (s2 (rt ?_)))
     have hno:hU s=none:=by
      unfold hU
      rw[aB]
      rintro⟨h1,h2,h3⟩
      have h9:=c31
      rw[hw,← mn] at h9
      have hs:eY (s.getD i 0)=false:=by simpa using h9
      rw[ml hi2 hs] at h3
      cases h3
     refine bG rfl rfl ?_
     rw[hno]
     rfl
   refine sk (rT [0,4,5] (s4 (ai (by exact⟨by omega,by omega⟩) (s4 (rT [0,4,5] (s3 ?_))))))
   have hs:eY (s.getD i 0)=true:=by
    have h9:=c31
    rw[hw,← mn] at h9
    simpa using h9
   refine wq [] [] (⟨s.length - (i+1),by omega,i+1,rfl,by omega,fun k h=>by by_cases e:k=i;exact e▸hs;exact hk k (by omega),rfl⟩) ?_
   repeat' apply ai
   all_goals first|exact qx|(rw[aNf];exact aA D.i (yi hi2 hs rfl (by omega)).1)|exact aA D.i (aH (by omega))|exact qz
 have hi3:i=s.length:=by simp at c23;omega
 refine xt (sq (rT [2,3] (s3 (rt ?_))))
 have hyes:hU s=some (nN s):=by
  unfold hU
  rw[aC ⟨hL.1,hL.2,tb (hi3▸hk)⟩]
 refine bG rfl rfl ?_
 rw[hyes,hi3,List.take_length]
 rfl
theorem rI (s:List UInt8) (hl:s.length≤140737488355328):Sp 222 1 [tD 0 (.s s)] [tI 0 (eZ s)]:=by
 refine sb Tryz.func222 rfl (sq (rT [0] (s1 (sq (sq (rT [0,12] (s4 (y3 (ai pk (cd rfl (fun c12=> ?_) fun c12=> ?_))))))))))
 · have hL: ¬(1≤s.length∧s.length≤4):=by simp[gb] at c12;omega
   refine sq (rT [2] (s1 (rt (aT rfl (aA D.i ?_)))))
   unfold eZ
   rw[aB]
   rintro⟨h1,h2,h3⟩
   exact hL h1
 have hL:1≤s.length∧s.length≤4:=by
  simp only[Bool.or_eq_false_iff,decide_eq_false_iff_not] at c12
  omega
 refine sk (sq (rT [0,3] (s1 (sq (sq (rT [0,3,4] (s1 (bk (SW.loopW (n:=s.length) (fun m q=> ∃i:Nat,m=s.length - i∧i≤s.length∧(∀k,k<i→eY (s.getD k 0)=true)∧q=[tD 0 (.s s),tI 3 (nN (s.take (i)):Nat),tI 4 (i:Nat)]) ?_ ?_)))))))))
 · refine wq (σ':=[tD 0 (.s s),tI 3 (nN (s.take (0)):Nat),tI 4 (0:Nat)]) [] [] (⟨0,rfl,aNj _,fun k h=>absurd h (by omega),rfl⟩) ?_
   repeat' apply ai
   all_goals first|exact qx|(simp[nN];done)|exact qz
 rintro n s ⟨i,rfl,hi,hk,rfl⟩
 refine sq (sq (rT [0,3,4,16] (s4 (cd rfl (fun c16=> ?_) fun c16=> ?_))))
 · have hi2:i<s.length:=by simpa using c16
   have hvb:=gm hk hi (by omega)
   refine sk (sq (bk (sq (sq (rT [0,3,4,28] (s2 (ai (by exact⟨by omega,by omega⟩) (s2 (y2 (ai (fun h=>(by exact⟨by omega,by omega⟩)) (ai rk (y1 (ai pk (cd rfl (fun c28=> ?_) fun c28=> ?_))))))))))))))
   · refine sq (rT [2] (s1 (rt (aT rfl (aA D.i ?_)))))
     unfold eZ
     rw[aB]
     rintro⟨h1,h2,h3⟩
     have hs:eY (s.getD i 0)=false:=by
      have h9:=c28
      rw[aNf] at h9
      simp[gb] at h9
      simp[eY];omega
     rw[ml hi2 hs] at h2
     cases h2
   refine sk (rT [0,3,4] (s4 (ai (by exact⟨by omega,by omega⟩) (s4 (rT [0,3,4] (s3 ?_))))))
   have hs:eY (s.getD i 0)=true:=by
    have h9:=c28
    rw[aNf] at h9
    simp[gb] at h9
    simp[eY];omega
   refine wq [] [] (⟨s.length - (i+1),by omega,i+1,rfl,by omega,fun k h=>by by_cases e:k=i;exact e▸hs;exact hk k (by omega),rfl⟩) ?_
   repeat' apply ai
   all_goals first|exact qx|(rw[aNf];exact aA D.i (yi hi2 hs rfl (by omega)).2)|exact aA D.i (aH (by omega))|exact qz
 have hi3:i=s.length:=by simp at c16;omega
 have hvb:=gm hk hi (by omega)
 refine xt (sq (sq (rT [3,40] (s1 (xp (rH (nN (s.take i)) (by omega)) (ai rfl ?_))))))
 refine s2 (cd rfl (fun c40=> ?_) fun c40=> ?_)
 · refine sq (rT [2] (s1 (rt (aT rfl (aA D.i ?_)))))
   unfold eZ
   rw[aB]
   rintro⟨h1,h2,h3⟩
   rw[hi3,List.take_length,h3] at c40
   simp at c40
 refine sk (sq (rT [2] (s2 (rt (aT rfl (aA D.i ?_))))))
 rw[hi3,List.take_length] at c40
 unfold eZ
 rw[aC ⟨hL,tb (hi3▸hk),by simpa using c40⟩,hi3,List.take_length]
theorem qm (s:List UInt8) (hl:s.length≤1000000):Sp 183 1 [tD 0 (.s s)] [tV 0 (.tup [.c (.d (.s (aDm s))),.c (.d (.i (vi s:Nat)))])]:=by
 refine sb Tryz.func183 rfl (sq (rT [0] (s2 (sq (sq (rT [0,4] (s1 (bk (SW.loopW (n:=3) (fun m q=> ∃i:Nat,m=3 - i∧(i≤s.length∧i≤3)∧(∀j,j<i→s.getD j 0≠58)∧q=[tD 0 (.s s),tI 4 (i:Nat)]) ?_ ?_)))))))))
 · exact wq (σ':=[tD 0 (.s s),tI 4 (0:Nat)]) [] [] (⟨0,rfl,⟨aNj _,by omega⟩,fun j h=>absurd h (by omega),rfl⟩) qz
 rintro n s ⟨i,rfl,hi,hk,rfl⟩
 refine sq (sq (rT [0,4,13] (s5 (y2 (ai pk (cd rfl (fun c13=> ?_) fun c13=> ?_))))))
 · have hi2:i<s.length∧i<3:=by simp only[aNi,aD] at c13;omega
   refine sk (sq (bk (sq (sq (rT [0,4,19] (s2 (ai (by exact⟨by omega,by omega⟩) (s1 (cd rfl (fun c19=> ?_) fun c19=> ?_)))))))))
   · refine xt (rT [0,4] (s3 ?_))
     have hs:s.getD i 0≠58:=by
      have h9:=c19
      rw[aNf] at h9
      intro e
      rw[e] at h9
      exact absurd h9 (by decide)
     refine wq [] [] (⟨3 - (i+1),by omega,i+1,rfl,⟨by omega,by omega⟩,fun j h=>by by_cases e:j=i;exact e▸hs;exact hk j (by omega),rfl⟩) ?_
     repeat' apply ai
     all_goals first|exact qx|exact aA D.i (aH (by omega))|exact qz
   have hcol:vU s=some i:=by
    refine mq hi2.2 hi2.1 ?_ hk
    have h9:=c19
    rw[aNf] at h9
    have h10: ((s.getD i 0).toNat:Int)=58:=by simpa only[bne_eq_false_iff_eq] using h9
    apply UInt8.toNat_inj.1
    have h6: (58:UInt8).toNat=58:=rfl
    omega
   have hv:=vX (s.take i)
   have hra:=aFz hcol
   refine sk (sq (rT [0,4,5] (s2 (ai (by simp[bnd,iU,kL];omega) (xp (rI (s.take i) (by rw[aNn];omega)) (ai rfl ?_))))))
   refine s1 (sq (sq (rT [0,4,5,47] (s3 (y2 (ai pk (s1 (y4 (y3 (ai pk (s1 (y4 (y1 (ai (fun h=>(by have h9:=h;simp only[gb,aNi,Bool.not_eq_true',Bool.or_eq_false_iff,decide_eq_false_iff_not] at h9;rw[aH (n:=(i:Int)+2) (by omega),aH (n:=(i:Int)+2+eZ (s.take i)) (by omega)] at h9;rw[aH (n:=(i:Int)+1) (by omega),aH (n:=(i:Int)+1+eZ (s.take i)) (by omega)];omega)) (ai rk (y1 (ai pk (cd rfl (fun c47=> ?_) fun c47=> ?_))))))))))))))))))
   · refine sq (rT [2,3] (s2 (rt ?_)))
     have hno:iD s=none:=by
      rw[hra,aB]
      rintro⟨p1,p2,p3,p4⟩
      have h9:=c47
      rw[aH (n:=(i:Int)+2) (by omega),aH (n:=(i:Int)+2+eZ (s.take i)) (by omega),aH (n:=(i:Int)+1) (by omega),aH (n:=(i:Int)+1+eZ (s.take i)) (by omega),show((i:Int)+1+eZ (s.take i)).toNat=i+1+(eZ (s.take i)).toNat by omega,p4] at h9
      simp at h9
      omega
     refine bG rfl rfl ?_
     rw[aDm,vi,hno]
     rfl
   have hok:1≤eZ (s.take i)∧eZ (s.take i)≤60∧i+2+(eZ (s.take i)).toNat≤s.length∧s.getD (i+1+(eZ (s.take i)).toNat) 0=59:=by
    have h9:=c47
    rw[aH (n:=(i:Int)+2) (by omega),aH (n:=(i:Int)+2+eZ (s.take i)) (by omega),aH (n:=(i:Int)+1) (by omega),aH (n:=(i:Int)+1+eZ (s.take i)) (by omega)] at h9
    simp only[Bool.or_eq_false_iff,decide_eq_false_iff_not,bne_eq_false_iff_eq] at h9
    obtain⟨⟨⟨p1,p2⟩,p3⟩,p4⟩:=h9
    rw[show((i:Int)+1+eZ (s.take i)).toNat=i+1+(eZ (s.take i)).toNat by omega] at p4
    refine⟨by omega,by omega,by omega,UInt8.toNat_inj.1 ?_⟩
    have h6: (59:UInt8).toNat=59:=rfl
    omega
   refine sk (sq (rT [2,3] (s7 (ai (by rw[aH (n:=(i:Int)+1) (by omega),aH (n:=(i:Int)+1+eZ (s.take i)) (by omega)];simp[bnd,iU,kL];omega) (s6 (rt ?_))))))
   have hyes:=hra.trans (aC hok)
   refine bG rfl rfl ?_
   rw[aDm,vi,hyes]
   rw[aH (n:=(i:Int)+1) (by omega),aH (n:=(i:Int)+1+eZ (s.take i)) (by omega),aH (n:=(i:Int)+2) (by omega),aH (n:=(i:Int)+2+eZ (s.take i)) (by omega)]
   have e1: ((i:Int)+1).toNat=i+1:=by omega
   have e2: ((i:Int)+1+eZ (s.take i)).toNat=i+1+(eZ (s.take i)).toNat:=by omega
   have e3: (i:Int)+2+eZ (s.take i)=((i+2+(eZ (s.take i)).toNat:Nat):Int):=by omega
   rw[e3]
   show V.tup [.c (.d (.s (List.drop ((i:Int)+1).toNat (List.take ((i:Int)+1+eZ (s.take i)).toNat s)))),_]=_
   rw[e1,e2]
 have hi3:i=3∨i=s.length:=by
  by_cases h3:i<3
  · right;have h4:decide ((i:Int)<3)=true:=decide_eq_true (by omega)
    rw[h4,Bool.and_true,decide_eq_false_iff_not] at c13;omega
  · left;omega
 refine xt (sq (rT [2,3] (s2 (rt ?_))))
 have hno:iD s=none:=by
  exact zU (ct fun j h3 hjl=>hk j (by omega))
 refine bG rfl rfl ?_
 rw[aDm,vi,hno]
 rfl
theorem ia (s:List UInt8) (hl:s.length≤1000000):Sp 132 1 [tD 0 (.s s)] [tV 0 (.tup [.c (.own 0 (bR s).1.length),.c (.d (.i ((bR s).2:Nat)))]),oR 0 9 1 (bT (bR s).1)]:=by
 refine sb Tryz.func132 rfl (sq (rT [0] (s2 (sq (rT [0,4] (s2 (sq (rT [0,4,5] (s1 (sq (bk (SW.loopW (n:=s.length) (fun m q=> ∃(a:Nat) (o:List (List UInt8)),m=s.length - a∧(a≤s.length∧o.length≤a)∧(o++(bR (s.drop a)).1=(bR s).1∧a+(bR (s.drop a)).2=(bR s).2)∧q=[tD 0 (.s s),tO 4 8 (o).length,tI 5 (a:Nat),oR 8 9 1 (bT (o))]) ?_ ?_))))))))))))
 · refine wq (σ':=[tD 0 (.s s),tO 4 8 ([]).length,tI 5 (0:Nat),oR 8 9 1 (bT ([]))]) [] [] (⟨0,[],rfl,⟨aNj _,by simp⟩,⟨rfl,by rw[List.drop_zero,Nat.zero_add]⟩,rfl⟩) ?_
   repeat' apply ai
   all_goals first|exact qx|rfl|exact qz
 rintro n s ⟨a,o,rfl,ha,hr,rfl⟩
 refine sq (sq (rT [0,4,5,12] (s4 (cd rfl (fun c12=> ?_) fun c12=> ?_))))
 · have ha2:a<s.length:=by simpa using c12
   refine sk (bk (sq (rT [0,4,5,6,7] (s2 (ai (by simp[bnd,iU,kL];omega) (xp (qm (s.drop a) (by rw[aNv];omega)) (ai (by show _=dA 0 [Dv (.s (List.drop ((a:Int)).toNat (List.take s.length s)))];rw[aNf,List.take_length];rfl) ?_)))))))
   refine s5 (sq (sq (rT [0,4,5,6,7,21] (s2 (cd rfl (fun c21=> ?_) fun c21=> ?_)))))
   · have hz:iD (s.drop a)=none:=by
      refine tc.1 ?_
      have h9: ((vi (s.drop a):Nat):Int)=0:=by simpa using c21
      omega
     rw[gD hz,List.append_nil,Nat.add_zero] at hr
     refine sq (rT [2,3] (s4 (rt ?_)))
     rw[← hr.1,← hr.2]
     exact fV _ [(0,8)] [] rfl ⟨⟨_,rfl,⟨rfl,rfl,_,_,_,rfl⟩,rfl,trivial⟩,dV rfl rfl trivial⟩ rfl rfl
   obtain⟨r,n,hra⟩: ∃r n,iD (s.drop a)=some (r,n):=by
    cases h:iD (s.drop a) with
    |none=>
     rw[tc.2 h] at c21
     exact absurd c21 (by decide)
    |some p=>exact⟨p.1,p.2,rfl⟩
   have hS:aDm (s.drop a)=r:=by rw[aDm,hra]
   have hN:vi (s.drop a)=n:=by rw[vi,hra]
   have hrs:=pD hra
   rw[aNv] at hrs
   refine sk (sq (rT [0,4,5,7] (s3 (ai (by refine⟨rfl,aL _,by simp,?_⟩;show(_+1)*16≤_;omega) (s1 (rT [0,4,5] (s4 ?_)))))))
   have hstep:=oG hra
   rw[List.drop_drop] at hstep
   rw[hstep] at hr
   refine wq [] [] (⟨s.length - (a+n),by omega,a+n,o++[r],rfl,⟨by omega,by rw[aNh];simp;omega⟩,⟨by rw[← hr.1,List.append_assoc];rfl,by rw[← hr.2];simp only;omega⟩,rfl⟩) ?_
   repeat' apply ai
   all_goals first|exact qx|(rw[aNh];done)|(refine aA D.i ?_;rw[hN,aH (by omega)];omega)|(rw[hS];exact dW _ _)|(simp[aL];done)|exact qz
 have ha3:a=s.length:=by simp at c12;omega
 have hd0:s.drop a=[]:=by rw[ha3];exact List.drop_length
 rw[hd0,gD rL,List.append_nil,Nat.add_zero] at hr
 refine xt (sq (rT [2,3] (s4 (rt ?_))))
 rw[← hr.1,← hr.2]
 exact fV _ [(0,8)] [] rfl ⟨⟨_,rfl,⟨rfl,rfl,_,_,_,rfl⟩,rfl,trivial⟩,dV rfl rfl trivial⟩ rfl rfl
theorem wN (l:List (List UInt8)) (hl:l.length≤1000000):Sp 110 1 [tD 0 (.sl (bT l))] [tO 0 0 l.length,oR 0 9 1 (bT (l))]:=by
 refine sb Tryz.func110 rfl (sq (rT [0] (s1 (sq (sq (rT [0,6] (s3 (cd rfl (fun c6=> ?_) fun c6=> ?_))))))))
 · refine sq (rT [2] (s1 (SW.nilOwn 2 0 9 1 rfl rfl (rt (rq [] [] rfl ?_)))))
   repeat' apply ai
   all_goals try exact qx
   all_goals(simp[aL] at c6;simp[c6,bT])
 refine sk (sq (rT [0,3] (s2 (ai (by refine⟨rfl,by omega,?_⟩;rw[aL];show((16:Nat):Int)*_≤_;omega) (s1 (sq (rT [3] (s2 (ai (by refine⟨trivial,by simp,vS l⟩) (sq (rT [2] (s2 (rt (rq [(0,9)] [] rfl ?_))))))))))))))
 repeat' apply ai
 all_goals try exact qx
 all_goals first|(simp[aL];done)|(simp;done)
theorem pk3 {p:Prop} (h:p:=by constructor<;>intro h<;>first|(simp only[gb,rW];done)|(simpa only[gb,rW] using h)|(simp only[gb,rW] at h ⊢; first|(simp;done)|(simpa using h))|(simpa[gb,rW] using h)):p:=h
theorem ld (o:List (List UInt8)):iC [tO 0 0 o.length,oR 0 9 1 (bT (o))]:=by
 intro p hp
 simp at hp
 rcases hp with rfl|rfl
 · trivial
 intro r hr d hd
 obtain⟨x,_,rfl⟩:=aNr.1 hr
 simp at hd;subst hd;trivial
theorem ib (s:List UInt8) (hl:s.length≤1000000):Sp 49 1 [tD 0 (.s s)] [tV 0 (.tup [.c (.own 0 (bR s).1.length),.c (.d (.i ((bR s).2:Nat)))]),oR 0 9 1 (bT (bR s).1)]:=by
 refine sb Tryz.func49 rfl (sq (rT [0] (s2 (sq (rT [0,4] (s1 (sq (rT [0,4,5] (s1 (sq (bk (SW.nilOwn 4 8 9 1 rfl rfl (SW.loopW (n:=s.length) (fun m q=> ∃(a:Nat) (o:List (List UInt8)),m=s.length - a∧(a≤s.length∧o.length≤a)∧(o++(bR (s.drop a)).1=(bR s).1∧a+(bR (s.drop a)).2=(bR s).2)∧q=[tD 0 (.s s),tO 4 8 (o).length,tI 5 (a:Nat),oR 8 9 1 (bT (o))]) ?_ ?_)))))))))))))
 · refine wq (σ':=[tD 0 (.s s),tO 4 8 ([]).length,tI 5 (0:Nat),oR 8 9 1 (bT ([]))]) [] [] (⟨0,[],rfl,⟨aNj _,by simp⟩,⟨rfl,by rw[List.drop_zero,Nat.zero_add]⟩,rfl⟩) ?_
   repeat' apply ai
   all_goals first|exact qx|rfl|exact qz
 rintro n s ⟨a,o,rfl,ha,hr,rfl⟩
 refine sq (sq (rT [0,4,5,13] (s4 (cd rfl (fun c13=> ?_) fun c13=> ?_))))
 · have ha2:a<s.length:=by simpa using c13
   refine sk (bk (sq (rT [0,4,5,6] (s2 (sq (bk (SW.loopW (n:=3) (fun m q=> ∃c:Nat,m=a+3 - c∧(a≤c∧c≤a+3∧c≤s.length)∧(∀j,a≤j→j<c→s.getD j 0≠58)∧q=[tD 0 (.s s),tO 4 8 (o).length,tI 5 (a:Nat),tI 6 (c:Nat),oR 8 9 1 (bT (o))]) ?_ ?_)))))))
   · exact wq [] [] (⟨a,by omega,by omega,fun j h1 h2=>absurd h1 (by omega),rfl⟩) qz
   rintro n s ⟨c,rfl,hc,hk,rfl⟩
   refine sq (sq (rT [0,4,5,6,30] (s5 (y4 (ai pk (s1 (y2 (ai (fun h=>(by have h9:=h;simp only[gb,aNi,aD] at h9;exact⟨by omega,by omega⟩)) (ai rk (y1 (ai pk (cd rfl (fun c30=> ?_) fun c30=> ?_))))))))))))
   · refine sk (bk (rT [0,4,5,6] (s3 ?_)))
     have hs:s.getD c 0≠58:=by
      have h9:=c30
      simp only[aNi] at h9
      have h10:=h9.2
      rw[aNf] at h10
      intro e
      rw[e] at h10
      exact absurd h10 (by decide)
     have hcl:c<s.length∧c<a+3:=by
      have h9:=c30
      rw[aH (by omega)] at h9
      simp only[aNi,aD] at h9
      omega
     refine wq [] [] (⟨a+3 - (c+1),by omega,c+1,rfl,by omega,fun j h1 h2=>by by_cases e:j=c;exact e▸hs;exact hk j h1 (by omega),rfl⟩) ?_
     repeat' apply ai
     all_goals first|exact qx|exact aA D.i (aH (by omega))|exact qz
   have hstop:s.length≤c∨a+3≤c∨s.getD c 0=58:=by
    have h9:=c30
    rw[aH (by omega),aNf] at h9
    by_cases h1:c<s.length
    · by_cases h2:c<a+3
      · rw[decide_eq_true (show(c:Int)< (s.length:Int) by omega),decide_eq_true (show(c:Int)< (a:Int)+3 by omega)] at h9
        have h10: ((s.getD c 0).toNat:Int)=58:=by simpa only[Bool.true_and,bne_eq_false_iff_eq] using h9
        right;right
        apply UInt8.toNat_inj.1
        have h6: (58:UInt8).toNat=58:=rfl
        omega
      · right;left;omega
    · left;omega
   refine xt (sq (sq (rT [0,4,5,6,42] (s5 (y2 (ai (fun h=>(by have h9:=h;simp only[gb,Bool.not_eq_true',decide_eq_false_iff_not] at h9;exact⟨by omega,by omega⟩)) (ai rk (y1 (ai pk (cd rfl (fun c42=> ?_) fun c42=> ?_))))))))))
   · have hz:iD (s.drop a)=none:=by
      refine uQ hk ?_
      by_cases h1:c<s.length
      · rcases hstop with h|h|h
        · exact .inl h
        · exact .inr h
        · exfalso
          have h9:=c42
          rw[aNf,h,decide_eq_false (show ¬((c:Int)≥(s.length:Int)) by omega)] at h9
          exact absurd h9 (by decide)
      · exact .inl (by omega)
     rw[gD hz,List.append_nil,Nat.add_zero] at hr
     refine xt (sq (rT [2,3] (s1 (dI (robj:=[(8,.row 9 1 (bT o))]) (rl:=[(0,85)]) (bor:=[8]) (wN o (by omega)) rfl rfl rfl rfl ⟨gA rfl rfl rfl (aL _) rfl trivial,rfl⟩ rfl (.inr (ld o)) (aV ⟨rfl,trivial⟩) (fun j hj=>by(obtain rfl:j=0:=by simpa[eJ,bO,gW] using hj);rfl) (s3 (rt ?_))))))
     rw[← hr.1,← hr.2]
     exact fV _ [(0,85)] [] rfl ⟨⟨_,rfl,⟨rfl,rfl,_,_,_,rfl⟩,rfl,trivial⟩,dV rfl rfl trivial⟩ rfl rfl
   have hcl:c<s.length:=by
    have h9:=c42
    simp only[Bool.or_eq_false_iff,decide_eq_false_iff_not] at h9
    omega
   have h58:s.getD c 0=58:=by
    have h9:=c42
    simp only[Bool.or_eq_false_iff,decide_eq_false_iff_not] at h9
    have h10:=h9.2
    rw[aNf] at h10
    have h11: ((s.getD c 0).toNat:Int)=58:=by simpa only[bne_eq_false_iff_eq] using h10
    apply UInt8.toNat_inj.1
    have h6: (58:UInt8).toNat=58:=rfl
    omega
   obtain⟨himp1,himp2⟩:=aF1 hc.1 hk hc.2.1 hcl h58
   have hN:=aBg ((s.take c).drop a)
   have hw1:wrap64 ((c:Int)+1)=((c+1:Nat):Int):=by rw[aH (by omega)];omega
   have hw2:wrap64 (((c+1:Nat):Int)+gX ((s.take c).drop a))=((c+1+(gX ((s.take c).drop a)).toNat:Nat):Int):=by rw[aH (by omega)];omega
   refine sk (sq (rT [0,4,5,6,7,8] (s3 (ai (by simp[bnd,iU,kL];omega) (xp (yO ((s.take c).drop a) (by rw[aNv,aNn];omega)) (ai rfl ?_))))))
   refine s5 (sq (rT [0,4,5,6,7,8,9] (s5 (sq (sq (SW.wk (J:=fun q=>q=[tD 0 (.s s),tO 4 8 (o).length,tI 5 (a:Nat),tI 6 (c:Nat),tI 7 (gX ((s.take c).drop a)),tB 8 (hU ((s.take c).drop a)).isSome,tI 9 (c+1+(gX ((s.take c).drop a)).toNat:Nat),oR 8 9 1 (bT (o))]) ?_ ?_))))))
   · refine wq [] [] (rfl) ?_
     repeat' apply ai
     all_goals first|exact qx|(rw[hw1];exact aA D.i hw2)|(unfold gX;rfl)|exact qz
   rintro q rfl
   refine rT [0,4,5,6,9,73] (s3 (y1 (xc (fun h=>(eN _ _ _)) (ai rfl (ai rk ?_)))))
   refine y1 (ai pk3 (s1 (y4 (ai pk3 (s1 (y2 (ai (fun h=>(by have h9:=h;simp only[gb,Bool.not_eq_true',Bool.or_eq_false_iff,decide_eq_false_iff_not] at h9;exact⟨by omega,by omega⟩)) (ai rk (y1 (ai pk3 (cd rfl (fun c73=> ?_) fun c73=> ?_)))))))))))
   · have hz:iD (s.drop a)=none:=by
      refine himp1 ?_
      rintro⟨n,h1,h2,h3,h4,h5⟩
      have hNn:gX ((s.take c).drop a)=n:=by rw[gX,h1]
      have h9:=c73
      rw[hNn,h1,aNf,aNf,h5] at h9
      simp only[mR,decide_eq_true (show(1:Int)≤(n:Int) by omega),decide_eq_true (show(n:Int)≤60 by omega),decide_eq_false (show ¬(((c+1+n:Nat):Int)≥(s.length:Int)) by omega)] at h9
      simp at h9
     rw[gD hz,List.append_nil,Nat.add_zero] at hr
     refine xt (sq (rT [2,3] (s1 (dI (robj:=[(8,.row 9 1 (bT o))]) (rl:=[(0,85)]) (bor:=[8]) (wN o (by omega)) rfl rfl rfl rfl ⟨gA rfl rfl rfl (aL _) rfl trivial,rfl⟩ rfl (.inr (ld o)) (aV ⟨rfl,trivial⟩) (fun j hj=>by(obtain rfl:j=0:=by simpa[eJ,bO,gW] using hj);rfl) (s3 (rt ?_))))))
     rw[← hr.1,← hr.2]
     exact fV _ [(0,85)] [] rfl ⟨⟨_,rfl,⟨rfl,rfl,_,_,_,rfl⟩,rfl,trivial⟩,dV rfl rfl trivial⟩ rfl rfl
   have h9:=c73
   simp only[Bool.or_eq_false_iff,decide_eq_false_iff_not,Bool.not_eq_false,Bool.not_eq_eq_eq_not,Bool.not_false] at h9
   obtain⟨⟨⟨g1,g2⟩,g3⟩,g4⟩:=h9
   obtain⟨n,hn⟩:=Option.isSome_iff_exists.1 g1
   have hNn:gX ((s.take c).drop a)=n:=by rw[gX,hn]
   rw[hNn] at g2 g3 g4
   rw[aNf] at g3 g4
   simp only[mR,aNi,aD] at g2
   have h59:s.getD (c+1+n) 0=59:=by
    rw[aNf] at g4
    have h11: ((s.getD (c+1+n) 0).toNat:Int)=59:=by simpa only[bne_eq_false_iff_eq] using g4
    apply UInt8.toNat_inj.1
    have h6: (59:UInt8).toNat=59:=rfl
    omega
   have hra:=himp2 n hn (by omega) (by omega) (by omega) h59
   refine sk (sq (rT [0,4,9] (s5 (ai (by rw[hw1,hNn,aNf];simp[bnd,iU,kL];omega) (ai (by exact⟨by simp,aNg rfl⟩) (ai (by refine⟨rfl,aL _,by simp,?_⟩;show(_+1)*16≤_;omega) (s1 (rT [0,4,5] (s3 ?_)))))))))
   have hstep:=oG hra
   rw[List.drop_drop,show a+(c+2+n - a)=c+2+n by omega] at hstep
   rw[hstep] at hr
   refine wq [] [] (⟨s.length - (c+2+n),by omega,c+2+n,o++[(s.take (c+1+n)).drop (c+1)],rfl,⟨by omega,by rw[aNh];simp;omega⟩,⟨by rw[← hr.1,List.append_assoc];rfl,by rw[← hr.2];simp only;omega⟩,rfl⟩) ?_
   repeat' apply ai
   all_goals first|exact qx|(rw[aNh];done)|(refine aA D.i ?_;rw[hNn,aH (by omega)];omega)|(rw[hw1,hNn];exact dW _ _)|(simp[aL];done)|exact qz
 have ha3:a=s.length:=by simp at c13;omega
 have hd0:s.drop a=[]:=by rw[ha3];exact List.drop_length
 rw[hd0,gD rL,List.append_nil,Nat.add_zero] at hr
 refine xt (sq (rT [2,3] (s1 (dI (robj:=[(8,.row 9 1 (bT o))]) (rl:=[(0,85)]) (bor:=[8]) (wN o (by omega)) rfl rfl rfl rfl ⟨gA rfl rfl rfl (aL _) rfl trivial,rfl⟩ rfl (.inr (ld o)) (aV ⟨rfl,trivial⟩) (fun j hj=>by(obtain rfl:j=0:=by simpa[eJ,bO,gW] using hj);rfl) (s3 (rt ?_))))))
 rw[← hr.1,← hr.2]
 exact fV _ [(0,85)] [] rfl ⟨⟨_,rfl,⟨rfl,rfl,_,_,_,rfl⟩,rfl,trivial⟩,dV rfl rfl trivial⟩ rfl rfl
end Go.Proofs.YtmabaopgkimfmaaGreatDoor
namespace Go.Proofs
open Int renaming toNat_natCast→aNf
open Nat renaming le_of_ble_eq_true→aNg,zero_le→aNj,le_refl→aNp
open List renaming length_append→aNh,length_cons→aNk,length_nil→aNl,getD_eq_getElem?_getD→aNm,length_take→aNn,getElem?_eq_getElem→aNo,getElem?_eq_some_iff→aNq,mem_map→aNr,mem_cons→aNs,all_eq_true→aNt,range→aNu,length_drop→aNv
open Bool renaming and_eq_true→aNi
open Go.Shelf
def Tryz.laysM171_ren:Go.Shelf.Ren:=⟨fun|171=>91|243=>151|246=>196|283=>237|284=>238|285=>239|286=>240|129=>254|317=>253|318=>255|319=>256|320=>257|337=>264|338=>265|n=>n,fun|3=>3|9=>9|2=>2|4=>4|171=>237|0=>0|53=>238|37=>68|5=>5|173=>241|212=>251|51=>252|20=>20|213=>253|46=>254|232=>266|233=>267|n=>n,fun|17=>0|18=>2|19=>3|n=>n⟩
theorem Tryz.laysM171:Go.Proofs.LaysM.n171 Tryz.prog Tryz.laysM171_ren:={
 mixed:=by kernel_rfl
 f129:=Tryz.func254.trans (aA some (by kernel_rfl))
 f171:=Tryz.func91.trans (aA some (by kernel_rfl))
 f243:=Tryz.func151.trans (aA some (by kernel_rfl))
 f246:=Tryz.func196.trans (aA some (by kernel_rfl))
 f283:=Tryz.func237.trans (aA some (by kernel_rfl))
 f284:=Tryz.func238.trans (aA some (by kernel_rfl))
 f285:=Tryz.func239.trans (aA some (by kernel_rfl))
 f286:=Tryz.func240.trans (aA some (by kernel_rfl))
 f317:=Tryz.func253.trans (aA some (by kernel_rfl))
 f318:=Tryz.func255.trans (aA some (by kernel_rfl))
 f319:=Tryz.func256.trans (aA some (by kernel_rfl))
 f320:=Tryz.func257.trans (aA some (by kernel_rfl))
 f337:=Tryz.func264.trans (aA some (by kernel_rfl))
 f338:=Tryz.func265.trans (aA some (by kernel_rfl))
 t0:=Tryz.underlying0
 a0:=Tryz.isAgg0
 z0:=Tryz.sizeOf0
 v0:=Tryz.zeroValue0
 t2:=Tryz.underlying2
 a2:=Tryz.isAgg2
 z2:=Tryz.sizeOf2
 v2:=Tryz.zeroValue2
 t3:=Tryz.underlying3
 a3:=Tryz.isAgg3
 z3:=Tryz.sizeOf3
 v3:=Tryz.zeroValue3
 t4:=Tryz.underlying4
 a4:=Tryz.isAgg4
 z4:=Tryz.sizeOf4
 v4:=Tryz.zeroValue4
 t5:=Tryz.underlying5
 a5:=Tryz.isAgg5
 z5:=Tryz.sizeOf5
 v5:=Tryz.zeroValue5
 t9:=Tryz.underlying9
 a9:=Tryz.isAgg9
 z9:=Tryz.sizeOf9
 v9:=Tryz.zeroValue9
 t20:=Tryz.underlying20
 a20:=Tryz.isAgg20
 z20:=Tryz.sizeOf20
 v20:=Tryz.zeroValue20
 t37:=Tryz.underlying68
 a37:=Tryz.isAgg68
 z37:=Tryz.sizeOf68
 v37:=Tryz.zeroValue68
 t46:=Tryz.underlying254
 a46:=Tryz.isAgg254
 z46:=Tryz.sizeOf254
 v46:=Tryz.zeroValue254
 t51:=Tryz.underlying252
 a51:=Tryz.isAgg252
 z51:=Tryz.sizeOf252
 v51:=Tryz.zeroValue252
 t53:=Tryz.underlying238
 a53:=Tryz.isAgg238
 z53:=Tryz.sizeOf238
 v53:=Tryz.zeroValue238
 t171:=Tryz.underlying237
 a171:=Tryz.isAgg237
 z171:=Tryz.sizeOf237
 v171:=Tryz.zeroValue237
 t173:=Tryz.underlying241
 a173:=Tryz.isAgg241
 z173:=Tryz.sizeOf241
 v173:=Tryz.zeroValue241
 t212:=Tryz.underlying251
 a212:=Tryz.isAgg251
 z212:=Tryz.sizeOf251
 v212:=Tryz.zeroValue251
 t213:=Tryz.underlying253
 a213:=Tryz.isAgg253
 z213:=Tryz.sizeOf253
 t232:=Tryz.underlying266
 a232:=Tryz.isAgg266
 z232:=Tryz.sizeOf266
 v232:=Tryz.zeroValue266
 t233:=Tryz.underlying267
 a233:=Tryz.isAgg267
 z233:=Tryz.sizeOf267
 v233:=Tryz.zeroValue267
 g17:=by kernel_rfl
 g18:=by kernel_rfl
 g19:=by kernel_rfl
 i0:=by kernel_rfl
 i2:=by kernel_rfl
 i3:=by kernel_rfl
 i4:=by kernel_rfl
 i5:=by kernel_rfl
 i9:=by kernel_rfl
 i20:=by kernel_rfl
 i37:=by kernel_rfl
 i46:=by kernel_rfl
 i51:=by kernel_rfl
 i53:=by kernel_rfl
 i171:=by kernel_rfl
 i173:=by kernel_rfl
 i212:=by kernel_rfl
 i232:=by kernel_rfl
 i233:=by kernel_rfl
 m17:=by kernel_rfl
 m18:=by kernel_rfl
 m19:=by kernel_rfl}
open Go.RowKit Go.Sort Go.Lib in
theorem Tryz.strconv_Itoa (n:Int) (h0: -9223372036854775808≤n) (h1:n≤9223372036854775807) (w:World) (htab:Lib.TabIs Tryz.prog w "internal/strconv.uint64pow10" .u64 Lib.pow10Tab):
 Calls Tryz.prog 91 #[.int .i64 n] w fun e w'=>e= .returned (.string ⟨(Lib.itoa n).toArray⟩)∧ ∃k os,w'=grow (w.drewN k) os:=Any.strconv_Itoa Tryz.laysM171 n h0 h1 w htab
def Tryz.lays145_ren:Go.Shelf.Ren:=⟨fun|145=>204|220=>243|219=>260|217=>270|225=>271|224=>272|267=>273|266=>278|314=>279|n=>n,fun|9=>9|4=>4|59=>206|3=>3|5=>5|46=>254|146=>269|51=>252|n=>n,fun|1=>1|n=>n⟩
theorem Tryz.lays145:Go.Proofs.Lays.n145 Tryz.prog Tryz.lays145_ren:={
 mixed:=by kernel_rfl
 f145:=Tryz.func204.trans (aA some (by kernel_rfl))
 f217:=Tryz.func270.trans (aA some (by kernel_rfl))
 f219:=Tryz.func260.trans (aA some (by kernel_rfl))
 f220:=Tryz.func243.trans (aA some (by kernel_rfl))
 f224:=Tryz.func272.trans (aA some (by kernel_rfl))
 f225:=Tryz.func271.trans (aA some (by kernel_rfl))
 f266:=Tryz.func278.trans (aA some (by kernel_rfl))
 f267:=Tryz.func273.trans (aA some (by kernel_rfl))
 f314:=Tryz.func279.trans (aA some (by kernel_rfl))
 t3:=Tryz.underlying3
 a3:=Tryz.isAgg3
 z3:=Tryz.sizeOf3
 v3:=Tryz.zeroValue3
 t4:=Tryz.underlying4
 a4:=Tryz.isAgg4
 z4:=Tryz.sizeOf4
 v4:=Tryz.zeroValue4
 t5:=Tryz.underlying5
 a5:=Tryz.isAgg5
 z5:=Tryz.sizeOf5
 v5:=Tryz.zeroValue5
 t9:=Tryz.underlying9
 a9:=Tryz.isAgg9
 z9:=Tryz.sizeOf9
 v9:=Tryz.zeroValue9
 t46:=Tryz.underlying254
 a46:=Tryz.isAgg254
 z46:=Tryz.sizeOf254
 v46:=Tryz.zeroValue254
 t51:=Tryz.underlying252
 a51:=Tryz.isAgg252
 z51:=Tryz.sizeOf252
 v51:=Tryz.zeroValue252
 t59:=Tryz.underlying206
 a59:=Tryz.isAgg206
 z59:=Tryz.sizeOf206
 v59:=Tryz.zeroValue206
 t146:=Tryz.underlying269
 a146:=Tryz.isAgg269
 z146:=Tryz.sizeOf269
 v146:=Tryz.zeroValue269
 g1:=by kernel_rfl}
open Go.RowKit Go.Lib in
theorem Tryz.strings_Cut (s sep:ByteArray) (m:Int) (w:World) (hs:s.size<4294967281) (hm:w.cell? ⟨1,0,none⟩=some (.int .i64 m)):
 Calls Tryz.prog 204 #[.string s,.string sep] w fun e w'=>e= .returned (.tuple #[.string ⟨(Lib.cut s.data.toList sep.data.toList).1.toArray⟩,.string ⟨(Lib.cut s.data.toList sep.data.toList).2.1.toArray⟩,.bool (Lib.cut s.data.toList sep.data.toList).2.2])∧ ∃n,w'=w.drewN n:=Any.strings_Cut Tryz.lays145 s sep m w hs hm
def Tryz.lays146_ren:Go.Shelf.Ren:=⟨fun|146=>209|221=>248|268=>261|138=>262|143=>263|195=>274|197=>275|218=>276|219=>260|260=>280|217=>270|225=>271|224=>272|267=>273|266=>278|314=>279|n=>n,fun|9=>9|31=>71|3=>3|4=>4|0=>0|105=>264|21=>21|5=>5|46=>254|119=>273|139=>276|138=>275|146=>269|51=>252|n=>n,fun|1=>1|3=>4|4=>5|n=>n⟩
theorem Tryz.lays146:Go.Proofs.Lays.n146 Tryz.prog Tryz.lays146_ren:={
 mixed:=by kernel_rfl
 f138:=Tryz.func262.trans (aA some (by kernel_rfl))
 f143:=Tryz.func263.trans (aA some (by kernel_rfl))
 f146:=Tryz.func209.trans (aA some (by kernel_rfl))
 f195:=Tryz.func274.trans (aA some (by kernel_rfl))
 f197:=Tryz.func275.trans (aA some (by kernel_rfl))
 f217:=Tryz.func270.trans (aA some (by kernel_rfl))
 f218:=Tryz.func276.trans (aA some (by kernel_rfl))
 f219:=Tryz.func260.trans (aA some (by kernel_rfl))
 f221:=Tryz.func248.trans (aA some (by kernel_rfl))
 f224:=Tryz.func272.trans (aA some (by kernel_rfl))
 f225:=Tryz.func271.trans (aA some (by kernel_rfl))
 f260:=Tryz.func280.trans (aA some (by kernel_rfl))
 f266:=Tryz.func278.trans (aA some (by kernel_rfl))
 f267:=Tryz.func273.trans (aA some (by kernel_rfl))
 f268:=Tryz.func261.trans (aA some (by kernel_rfl))
 f314:=Tryz.func279.trans (aA some (by kernel_rfl))
 t0:=Tryz.underlying0
 a0:=Tryz.isAgg0
 z0:=Tryz.sizeOf0
 v0:=Tryz.zeroValue0
 t3:=Tryz.underlying3
 a3:=Tryz.isAgg3
 z3:=Tryz.sizeOf3
 v3:=Tryz.zeroValue3
 t4:=Tryz.underlying4
 a4:=Tryz.isAgg4
 z4:=Tryz.sizeOf4
 v4:=Tryz.zeroValue4
 t5:=Tryz.underlying5
 a5:=Tryz.isAgg5
 z5:=Tryz.sizeOf5
 v5:=Tryz.zeroValue5
 t9:=Tryz.underlying9
 a9:=Tryz.isAgg9
 z9:=Tryz.sizeOf9
 v9:=Tryz.zeroValue9
 t21:=Tryz.underlying21
 a21:=Tryz.isAgg21
 z21:=Tryz.sizeOf21
 v21:=Tryz.zeroValue21
 t31:=Tryz.underlying71
 a31:=Tryz.isAgg71
 z31:=Tryz.sizeOf71
 v31:=Tryz.zeroValue71
 t46:=Tryz.underlying254
 a46:=Tryz.isAgg254
 z46:=Tryz.sizeOf254
 v46:=Tryz.zeroValue254
 t51:=Tryz.underlying252
 a51:=Tryz.isAgg252
 z51:=Tryz.sizeOf252
 v51:=Tryz.zeroValue252
 t105:=Tryz.underlying264
 a105:=Tryz.isAgg264
 z105:=Tryz.sizeOf264
 v105:=Tryz.zeroValue264
 t119:=Tryz.underlying273
 a119:=Tryz.isAgg273
 z119:=Tryz.sizeOf273
 t138:=Tryz.underlying275
 a138:=Tryz.isAgg275
 z138:=Tryz.sizeOf275
 v138:=Tryz.zeroValue275
 t139:=Tryz.underlying276
 a139:=Tryz.isAgg276
 z139:=Tryz.sizeOf276
 v139:=Tryz.zeroValue276
 t146:=Tryz.underlying269
 a146:=Tryz.isAgg269
 z146:=Tryz.sizeOf269
 v146:=Tryz.zeroValue269
 g1:=by kernel_rfl
 g3:=by kernel_rfl
 g4:=by kernel_rfl}
open Go.RowKit Go.Lib in
theorem Tryz.strings_Split (s sep:ByteArray) (m:Int) (w:World) (hs:s.size<4294967281) (hm:w.cell? ⟨1,0,none⟩=some (.int .i64 m)) (h1:1≤sep.size):
 Calls Tryz.prog 209 #[.string s,.string sep] w fun e w'=>
  e= .returned (.slice (some ⟨w.heap.size,0,none⟩) (Lib.countB s sep+1) (Lib.countB s sep+1))∧w'=w.alloc (.cells ((Lib.splitB sep 0 (Lib.countB s sep) s).map Value.string).toArray 9):=Any.strings_Split Tryz.lays146 (by kernel_rfl) s sep m w hs hm h1
def Tryz.lays147_ren:Go.Shelf.Ren:=⟨fun|147=>245|221=>248|268=>261|138=>262|143=>263|195=>274|197=>275|218=>276|219=>260|260=>280|217=>270|225=>271|224=>272|267=>273|266=>278|314=>279|n=>n,fun|9=>9|3=>3|31=>71|4=>4|0=>0|105=>264|21=>21|5=>5|46=>254|119=>273|139=>276|138=>275|146=>269|51=>252|n=>n,fun|1=>1|3=>4|4=>5|n=>n⟩
theorem Tryz.lays147:Go.Proofs.Lays.n147 Tryz.prog Tryz.lays147_ren:={
 mixed:=by kernel_rfl
 f138:=Tryz.func262.trans (aA some (by kernel_rfl))
 f143:=Tryz.func263.trans (aA some (by kernel_rfl))
 f147:=Tryz.func245.trans (aA some (by kernel_rfl))
 f195:=Tryz.func274.trans (aA some (by kernel_rfl))
 f197:=Tryz.func275.trans (aA some (by kernel_rfl))
 f217:=Tryz.func270.trans (aA some (by kernel_rfl))
 f218:=Tryz.func276.trans (aA some (by kernel_rfl))
 f219:=Tryz.func260.trans (aA some (by kernel_rfl))
 f221:=Tryz.func248.trans (aA some (by kernel_rfl))
 f224:=Tryz.func272.trans (aA some (by kernel_rfl))
 f225:=Tryz.func271.trans (aA some (by kernel_rfl))
 f260:=Tryz.func280.trans (aA some (by kernel_rfl))
 f266:=Tryz.func278.trans (aA some (by kernel_rfl))
 f267:=Tryz.func273.trans (aA some (by kernel_rfl))
 f268:=Tryz.func261.trans (aA some (by kernel_rfl))
 f314:=Tryz.func279.trans (aA some (by kernel_rfl))
 t0:=Tryz.underlying0
 a0:=Tryz.isAgg0
 z0:=Tryz.sizeOf0
 v0:=Tryz.zeroValue0
 t3:=Tryz.underlying3
 a3:=Tryz.isAgg3
 z3:=Tryz.sizeOf3
 v3:=Tryz.zeroValue3
 t4:=Tryz.underlying4
 a4:=Tryz.isAgg4
 z4:=Tryz.sizeOf4
 v4:=Tryz.zeroValue4
 t5:=Tryz.underlying5
 a5:=Tryz.isAgg5
 z5:=Tryz.sizeOf5
 v5:=Tryz.zeroValue5
 t9:=Tryz.underlying9
 a9:=Tryz.isAgg9
 z9:=Tryz.sizeOf9
 v9:=Tryz.zeroValue9
 t21:=Tryz.underlying21
 a21:=Tryz.isAgg21
 z21:=Tryz.sizeOf21
 v21:=Tryz.zeroValue21
 t31:=Tryz.underlying71
 a31:=Tryz.isAgg71
 z31:=Tryz.sizeOf71
 v31:=Tryz.zeroValue71
 t46:=Tryz.underlying254
 a46:=Tryz.isAgg254
 z46:=Tryz.sizeOf254
 v46:=Tryz.zeroValue254
 t51:=Tryz.underlying252
 a51:=Tryz.isAgg252
 z51:=Tryz.sizeOf252
 v51:=Tryz.zeroValue252
 t105:=Tryz.underlying264
 a105:=Tryz.isAgg264
 z105:=Tryz.sizeOf264
 v105:=Tryz.zeroValue264
 t119:=Tryz.underlying273
 a119:=Tryz.isAgg273
 z119:=Tryz.sizeOf273
 t138:=Tryz.underlying275
 a138:=Tryz.isAgg275
 z138:=Tryz.sizeOf275
 v138:=Tryz.zeroValue275
 t139:=Tryz.underlying276
 a139:=Tryz.isAgg276
 z139:=Tryz.sizeOf276
 v139:=Tryz.zeroValue276
 t146:=Tryz.underlying269
 a146:=Tryz.isAgg269
 z146:=Tryz.sizeOf269
 v146:=Tryz.zeroValue269
 g1:=by kernel_rfl
 g3:=by kernel_rfl
 g4:=by kernel_rfl}
open Go.RowKit Go.Lib in
theorem Tryz.strings_SplitN (s sep:ByteArray) (n:Nat) (m:Int) (w:World) (hs:s.size<4294967281) (hm:w.cell? ⟨1,0,none⟩=some (.int .i64 m)) (h1:1≤sep.size) (hn:1≤n) (hn63:n≤9223372036854775807):
 Calls Tryz.prog 245 #[.string s,.string sep,.int .i64 n] w fun e w'=>
  e= .returned (.slice (some ⟨w.heap.size,0,none⟩) (Lib.splitB sep 0 (min n (s.size+1) - 1) s).length (min n (s.size+1)))∧w'=w.alloc (.cells (Lib.cellsOf (Lib.splitB sep 0 (min n (s.size+1) - 1) s) (min n (s.size+1))) 9):=Any.strings_SplitN Tryz.lays147 (by kernel_rfl) s sep n m w hs hm h1 hn hn63
end Go.Proofs
namespace Go.Proofs.YtmabaopgkimfmaaGreatDoor
open Int renaming toNat_natCast→aNf
open Nat renaming le_of_ble_eq_true→aNg,zero_le→aNj,le_refl→aNp
open List renaming length_append→aNh,length_cons→aNk,length_nil→aNl,getD_eq_getElem?_getD→aNm,length_take→aNn,getElem?_eq_getElem→aNo,getElem?_eq_some_iff→aNq,mem_map→aNr,mem_cons→aNs,all_eq_true→aNt,range→aNu,length_drop→aNv
open Bool renaming and_eq_true→aNi
open Go Go.Ab Go.RowKit
set_option linter.unusedVariables false
set_option linter.unusedSimpArgs false
set_option maxRecDepth 9000
theorem yP (n:Nat) (hn:n≤1000000):Ab.Spec Tryz.prog 91 1 [(.t 0,.v (I n))] [(.t 0,.v (Dv (.s (jF n))))]:=aDo ⟨Tryz.f91,Tryz.func91,by kernel_rfl,by kernel_rfl⟩ n hn fun w ht=>Tryz.strconv_Itoa n (by omega) (by omega) w ht
theorem qn (s:List UInt8) (hs:s.length≤1000000):Sp 204 2 [tD 0 (.s s),tD 1 (.s [32])] [tV 0 (.tup [.c (.d (.s (bD s))),.c (.d (.s (aM s))),.c (.d (.b (eE s)))])]:=by
 refine aF2 ⟨Tryz.f204,Tryz.func204,by kernel_rfl,by kernel_rfl⟩ s hs fun w hg=> ?_
 obtain⟨m,hm⟩:=gn hg (g:=1) (by kernel_rfl)
 exact Tryz.strings_Cut ⟨s.toArray⟩ ⟨#[32]⟩ m w (show s.toArray.size<4294967281 by simp;omega) hm
theorem km (s:List UInt8) (hs:s.length≤1000000):Sp 209 2 [tD 0 (.s s),tD 1 (.s [32])] [tD 0 (.sl (bT (cQ s)))]:=by
 refine aBi (e:=9) ⟨Tryz.f209,Tryz.func209,by kernel_rfl,by kernel_rfl⟩ s hs fun w hg=> ?_
 obtain⟨m,hm⟩:=gn hg (g:=1) (by kernel_rfl)
 exact Tryz.strings_Split ⟨s.toArray⟩ ⟨#[32]⟩ m w (show s.toArray.size<4294967281 by simp;omega) hm (show 1≤1 by omega)
theorem ic (s:List UInt8) (hs:s.length≤1000000):Sp 245 3 [tD 0 (.s s),tD 1 (.s [32]),tI 2 5] [tD 0 (.sl (bT (gL 4 s)))]:=by
 refine yk (e:=9) ⟨Tryz.f245,Tryz.func245,by kernel_rfl,by kernel_rfl⟩ 4 s hs (by omega) fun w hg=> ?_
 obtain⟨m,hm⟩:=gn hg (g:=1) (by kernel_rfl)
 exact Tryz.strings_SplitN ⟨s.toArray⟩ ⟨#[32]⟩ 5 m w (show s.toArray.size<4294967281 by simp;omega) hm (show 1≤1 by omega) (by omega) (by omega)
theorem ub (s:List UInt8) (hl:s.length≤140737488355328):Ab.Spec Tryz.prog 108 1 [(.t 0,.v (Dv (.s s)))] [(.t 0,.v (.tup [.c (.d (.i (gX s))),.c (.d (.b (hU s).isSome))]))]:=yO s hl
theorem oO (n:Int) (h:0≤n∧n≤1000000):Sp 91 1 [tI 0 n] [tD 0 (.s (jF n.toNat))]:=by
 obtain⟨m,rfl⟩:=Int.eq_ofNat_of_zero_le h.1
 exact yP m (by omega)
theorem jR (n:Int) (h:0≤n∧n≤1000000):Sp 89 1 [tI 0 n] [tD 0 (.s (jF n.toNat))]:=by
 obtain⟨m,rfl⟩:=Int.eq_ofNat_of_zero_le h.1
 exact rH m (by omega)
theorem xB (l:List (List UInt8)) (hl:l.length≤1000000) (hx: ∀x∈l,x.length≤1000000):Sp 208 1 [tD 0 (.sl (bT l))] [tV 0 (.tup [.c (.d (.sl (eK (jG l)))),.c (.d (.b (gE l)))])]:=by
 refine sb Tryz.func208 rfl (sq (rT [0] (s2 (sq (rT [0,4] (s1 (sq (sq (rT [4,9,10,11] (s3 (bk (SW.nilOwn 4 8 3 1 rfl rfl (SW.loopW (n:=l.length) (fun m q=> ∃i:Nat,m=l.length - i∧i≤l.length∧(∀j,j<i→(hU (l.getD j [])).isSome=true)∧q=[tO 4 8 (i),tD 9 (.sl (bT l)),tI 10 (l.length:Nat),tI 11 (i:Nat),oR 8 3 1 (eK ((l.take (i)).map gX))]) ?_ ?_)))))))))))))
 · refine wq (σ':=[tO 4 8 (0),tD 9 (.sl (bT l)),tI 10 (l.length:Nat),tI 11 (0:Nat),oR 8 3 1 (eK ((l.take (0)).map gX))]) [] [] (⟨0,rfl,aNj _,fun j h=>absurd h (by omega),rfl⟩) ?_
   repeat' apply ai
   all_goals first|exact qx|rfl|(rw[aL];done)|(simp[aL];done)|exact qz
 rintro n s ⟨i,rfl,hi,hk,rfl⟩
 refine sq (rT [4,9,10,11,12] (s1 (sq (cd rfl (fun c12=> ?_) fun c12=> ?_))))
 · have hi2:i<l.length:=by simpa using c12
   have hg:=gB (l:=l) hi2
   refine sk (sq (bk (sq (rT [4,6,9,10,11] (ai (by rw[aNf,hg];exact⟨⟨by omega,by rw[aL];omega⟩,rfl⟩) (ai (by rw[aNf,hg];exact⟨aNg rfl,rfl⟩) (s1 (sq (wa [tO 4 8 (i),tD 6 (.s (l.getD i [])),tD 9 (.sl (bT l)),tI 10 (l.length:Nat),tI 11 (i:Nat),oR 8 3 1 (eK ((l.take (i)).map gX))] [] [] ?_ ?_)))))))))
   · repeat' apply ai
     all_goals first|exact qx|(rw[aNf,hg];rfl)|exact qz
   refine rT [4,7,8,9,10,11] (s1 (xp (ub (l.getD i []) (by have:=hx _ (dO (z:=[]) hi2);omega)) (ai rfl ?_)))
   refine s5 (sq (sq (rT [4,7,9,10,11,21] (s2 (cd rfl (fun c21=> ?_) fun c21=> ?_)))))
   · refine sq (rT [2,3] (s2 (rt ?_)))
     have hno:=aDs hi2 (by simpa using c21)
     exact fV _ [] [] rfl ⟨⟨_,rfl,aA D.sl (show eK (jG l)=[] by rw[jG,hno];rfl),aA D.b hno.symm,trivial⟩,trivial⟩ rfl rfl
   refine sk (rT [4,9,10,11] (s2 (ai (by exact⟨by simp,aNg rfl⟩) (ai (by refine⟨rfl,by rw[hG,List.length_map,aNn];omega,by simp,?_⟩;show(_+1)*8≤_;omega) (s1 (rT [4,9,10,11] (s2 ?_)))))))
   have hs: (hU (l.getD i [])).isSome=true:=by simpa using c21
   refine wq [] [] (⟨l.length - (i+1),by omega,i+1,rfl,by omega,fun j h=>by by_cases e:j=i;exact e▸hs;exact hk j (by omega),rfl⟩) ?_
   repeat' apply ai
   all_goals first|exact qx|rfl|(rw[qe hi2];exact cq _ _)|(exact aA D.i (by rw[aH (by omega)];omega))|(simp[hG,aNn];omega)|exact qz
 have hi3:i=l.length:=by simp at c12;omega
 refine xt (sq (rT [2,3] (s3 (rt ?_))))
 have hyes:=aBk (hi3▸hk)
 exact fV _ [] [8] rfl ⟨⟨_,rfl,⟨by simp,_,_,_,rfl,by rw[hG,List.length_map,aNn];omega,.inl (aA D.sl (by rw[jG,aC hyes,hi3,List.take_length]))⟩,aA D.b hyes.symm,trivial⟩,trivial⟩ rfl rfl
theorem ag (s:List UInt8) (hl:s.length≤1000000):Sp 228 1 [tD 0 (.s s)] [tV 0 (.tup [.c (.d (.s (bD s))),.c (.d (.s (aM s)))])]:=by
 refine sb Tryz.func228 rfl (sq (rT [0] (s2 (sq (sq (rT [0,4] (s1 (bk (SW.loopW (n:=s.length) (fun m q=> ∃i:Nat,m=s.length - i∧i≤s.length∧(∀j,j<i→s.getD j 0≠32)∧q=[tD 0 (.s s),tI 4 (i:Nat)]) ?_ ?_)))))))))
 · exact wq (σ':=[tD 0 (.s s),tI 4 (0:Nat)]) [] [] (⟨0,rfl,aNj _,fun j h=>absurd h (by omega),rfl⟩) qz
 rintro n s ⟨i,rfl,hi,hk,rfl⟩
 refine sq (sq (rT [0,4,8] (s4 (cd rfl (fun c8=> ?_) fun c8=> ?_))))
 · have hi2:i<s.length:=by simpa using c8
   refine sk (sq (bk (sq (rT [0,4,14] (s2 (ai (by exact⟨by omega,by omega⟩) (s1 (cd rfl (fun c14=> ?_) fun c14=> ?_))))))))
   · have h32:s.getD i 0=32:=by
      have h9:=c14
      rw[aNf] at h9
      have h10: ((s.getD i 0).toNat:Int)=32:=by simpa only[beq_iff_eq] using h9
      apply UInt8.toNat_inj.1
      have h6: (32:UInt8).toNat=32:=rfl
      omega
     obtain⟨e1,e2,e3⟩:=aF4 hk hi2 h32
     refine sq (rD [2,3] (s2 (ai (by simp[bnd,iU,kL];omega) (s3 (ai (by rw[aH (by omega)];simp[bnd,iU,kL];omega) (s2 (ai (by kernel_rfl) (rt (bG rfl rfl ?_)))))))))
     rw[e1,e2,aH (by omega)]
     simp[iU,kL]
   refine sk (rT [0,4] (s3 ?_))
   have hs:s.getD i 0≠32:=by
    have h9:=c14
    rw[aNf] at h9
    intro e
    rw[e] at h9
    exact absurd h9 (by decide)
   refine wq [] [] (⟨s.length - (i+1),by omega,i+1,rfl,by omega,fun j h=>by by_cases e:j=i;exact e▸hs;exact hk j (by omega),rfl⟩) ?_
   repeat' apply ai
   all_goals first|exact qx|exact aA D.i (aH (by omega))|exact qz
 have hi3:i=s.length:=by simp at c8;omega
 refine xt (sq (rT [2,3] (s3 (rt ?_))))
 obtain⟨e1,e2,e3⟩:=aDr (hi3▸hk)
 refine bG rfl rfl ?_
 rw[e1,e2]
 rfl
theorem ah (s:List UInt8) (n:Nat) (hl:s.length≤1000000) (hn:n≤100):Sp 233 2 [tD 0 (.s s),tI 1 (n:Nat)] [tV 0 (.tup [.c (.d (.sl (eK (dN n s)))),.c (.d (.s (kV n s)))])]:=by
 refine sb Tryz.func233 rfl (sq (rT [0,1] (s2 (sq (rT [0,1,6] (ai (by exact⟨by simp,aNg rfl⟩) (s1 (sq (sq (rT [0,1,6,7] (s1 (bk (SW.loopW (n:=n) (fun m q=> ∃i:Nat,m=n - i∧i≤n∧q=[tD 0 (.s (kV (i) s)),tI 1 (n:Nat),tO 6 10 (i),tI 7 (i:Nat),oR 10 3 1 (eK (dN (i) s))]) ?_ ?_)))))))))))))
 · refine wq (σ':=[tD 0 (.s (kV (0) s)),tI 1 (n:Nat),tO 6 10 (0),tI 7 (0:Nat),oR 10 3 1 (eK (dN (0) s))]) [] [] (⟨0,rfl,aNj _,rfl⟩) ?_
   repeat' apply ai
   all_goals first|exact qx|rfl|exact qz
 rintro n s ⟨i,rfl,hi,rfl⟩
 refine sq (sq (rT [0,1,6,7,13] (s3 (cd rfl (fun c13=> ?_) fun c13=> ?_))))
 · have hi2:i<n:=by simpa using c13
   have hr:=mu i s
   have hr2:=zK (kV i s)
   refine sk (sq (bk (sq (rT [1,6,7,8,9] (s1 (xp (ag (kV i s) (by omega)) (ai rfl ?_)))))))
   refine s5 (sq (rT [1,6,7,9] (s2 (xp (rI (bD (kV i s)) (by omega)) (ai rfl ?_)))))
   refine ai (by exact⟨by simp,aNg rfl⟩) (ai (by refine⟨rfl,by rw[hG,bJ],by simp,?_⟩;show(_+1)*8≤_;omega) (s1 (rT [0,1,6,7] (s2 (rT [0,1,6,7] (s3 (wq [] [] (⟨n - (i+1),by omega,i+1,rfl,by omega,rfl⟩) ?_)))))))
   repeat' apply ai
   all_goals first|exact qx|rfl|(rw[aBj];exact cq _ _)|(exact aA D.i (by rw[aH (by omega)];omega))|(simp[hG,bJ];done)|exact qz
 have hi3:i=n:=by simp at c13;omega
 refine xt (sq (rT [4,5] (s4 (rt ?_))))
 subst hi3
 exact fV _ [] [10] rfl ⟨⟨_,rfl,⟨by simp,_,_,_,rfl,by rw[hG,bJ],.inl rfl⟩,rfl,trivial⟩,trivial⟩ rfl rfl
theorem kD (n:bF) (hl:n.text.length≤140737488355328):Sp 93 1 [tV 0 n.V] [tD 0 (.s (kO n))]:=by
 refine sb Tryz.func93 rfl (sq (rT [1] (s2 (sq (sq (rT [1,5] (s1 (xp (pN _ vc) (ai rfl ?_)))))))))
 refine s1 (cd rfl (fun c5=> ?_) fun c5=> ?_)
 · refine sq (rT [2] (s1 (rt (aT rfl (aA D.s ?_)))))
   have hno:eM n=false:=by simpa using c5
   rw[kO,hno];rfl
 have hok:eM n=true:=by simpa using c5
 obtain⟨p1,p2,p3,p4,p5⟩:=mG hok
 have q1:=bU (k:=3) (n:=n.frm.toNat) (by simp;omega)
 have q2:=bU (k:=3) (n:=n.num.toNat) (by simp;omega)
 have q3:=bU (k:=3) (n:=n.to.toNat) (by simp;omega)
 have q4:=bU (k:=3) (n:=n.til.toNat) (by simp;omega)
 refine sk (sq (rD [2] (s2 (xp (oO n.frm (by omega)) (ai rfl ?_)))))
 refine ai (by show _≤9223372036854775807;simp only[aNh,aNk,aNl];omega) (s2 (xp (oO n.num (by omega)) (ai rfl ?_)))
 refine ai (by show _≤9223372036854775807;simp only[aNh,aNk,aNl];omega) (ai (by show _≤9223372036854775807;simp only[aNh,aNk,aNl];omega) (s2 (xp (oO n.to (by omega)) (ai rfl ?_))))
 refine ai (by show _≤9223372036854775807;simp only[aNh,aNk,aNl];omega) (ai (by show _≤9223372036854775807;simp only[aNh,aNk,aNl];omega) (s2 (xp (oO n.til (by omega)) (ai rfl ?_))))
 refine ai (by show _≤9223372036854775807;simp only[aNh,aNk,aNl];omega) (ai (by show _≤9223372036854775807;simp only[aNh,aNk,aNl];omega) (s2 (ai (by show _≤9223372036854775807;simp only[aNh,aNk,aNl];omega) (s1 (ai (by kernel_rfl) (rt (aT rfl (aA D.s ?_))))))))
 rw[kO,aC hok];rfl
theorem mJ (n:bF) (hl:n.text.length≤140737488355328):Sp 92 1 [tV 0 n.V] [tD 0 (.s (kO n))]:=by
 refine sb Tryz.func92 rfl (sq (rT [1] (s2 (sq (sq (rT [1,5] (s1 (xp (tX _ vc) (ai rfl ?_)))))))))
 refine s1 (cd rfl (fun c5=> ?_) fun c5=> ?_)
 · refine sq (rT [2] (s1 (rt (aT rfl (aA D.s ?_)))))
   have hno:eM n=false:=by simpa using c5
   rw[kO,hno];rfl
 have hok:eM n=true:=by simpa using c5
 obtain⟨p1,p2,p3,p4,p5⟩:=mG hok
 have q1:=bU (k:=3) (n:=n.frm.toNat) (by simp;omega)
 have q2:=bU (k:=3) (n:=n.num.toNat) (by simp;omega)
 have q3:=bU (k:=3) (n:=n.to.toNat) (by simp;omega)
 have q4:=bU (k:=3) (n:=n.til.toNat) (by simp;omega)
 refine sk (sq (rD [2] (s2 (xp (jR n.frm (by omega)) (ai rfl ?_)))))
 refine ai (by show _≤9223372036854775807;simp only[aNh,aNk,aNl];omega) (s2 (xp (jR n.num (by omega)) (ai rfl ?_)))
 refine ai (by show _≤9223372036854775807;simp only[aNh,aNk,aNl];omega) (ai (by show _≤9223372036854775807;simp only[aNh,aNk,aNl];omega) (s2 (xp (jR n.to (by omega)) (ai rfl ?_))))
 refine ai (by show _≤9223372036854775807;simp only[aNh,aNk,aNl];omega) (ai (by show _≤9223372036854775807;simp only[aNh,aNk,aNl];omega) (s2 (xp (jR n.til (by omega)) (ai rfl ?_))))
 refine ai (by show _≤9223372036854775807;simp only[aNh,aNk,aNl];omega) (ai (by show _≤9223372036854775807;simp only[aNh,aNk,aNl];omega) (s2 (ai (by show _≤9223372036854775807;simp only[aNh,aNk,aNl];omega) (s1 (ai (by kernel_rfl) (rt (aT rfl (aA D.s ?_))))))))
 rw[kO,aC hok];rfl
theorem ko (s:List UInt8) (hl:s.length≤1000000):Sp 206 1 [tD 0 (.s s)] [tV 0 (.tup [.agg [.d (.i ((dB s).1).frm),.d (.i ((dB s).1).num),.d (.i ((dB s).1).to),.d (.i ((dB s).1).til),.d (.s ((dB s).1).text)],.c (.d (.b (dB s).2))])]:=by
 refine sb Tryz.func206 rfl (sq (rT [0,2] (s2 (sq (rT [0,2,4] (s1 (xp (ic s hl) (ai rfl ?_))))))))
 refine s1 (sq (sq (rT [0,2,4,12] (s3 (cd rfl (fun c12=> ?_) fun c12=> ?_)))))
 · refine sq (rT [2,3] (s3 (rt (bG rfl rfl ?_))))
   rw[mv (.inl (by simp[aL] at c12;omega))]
   rfl
 have h5: (gL 4 s).length=5:=by simp[aL] at c12;omega
 refine sk (sq (rT [0,2,4,5,6] (s1 (ai (by refine⟨?_,vS _⟩;rw[aL,h5];simp[bnd,iU,kL]) (xp (xB ((gL 4 s).take 4) (by rw[aNn];omega) (fun x hx=>by have:=cw 4 s x (List.mem_of_mem_take hx);omega)) (ai (by show _=dA 0 [Dv (.sl (List.drop 0 (List.take 4 (bT (gL 4 s)))))];rw[List.drop_zero,vk];rfl) ?_))))))
 refine s5 (sq (sq (rT [0,2,4,5,21] (s2 (cd rfl (fun c21=> ?_) fun c21=> ?_)))))
 · refine sq (rT [2,3] (s3 (rt (bG rfl rfl ?_))))
   rw[mv (.inr (.inl (by simpa using c21)))]
   rfl
 have hok:gE ((gL 4 s).take 4)=true:=by simpa using c21
 refine sk (sq (rD [0,2,7] (s1 (ai (by exact cp (l:=jG ((gL 4 s).take 4)) (by omega) (by rw[fW hok,aNn];omega)) (ai (by have:=gF (l:=jG ((gL 4 s).take 4)) (i:=0) (by rw[fW hok,aNn];omega);first|(rw[show((0:Int)).toNat=((0:Nat):Int).toNat from rfl,this];exact⟨aNg rfl,rfl⟩)) (s1 (ai (by exact cp (l:=jG ((gL 4 s).take 4)) (by omega) (by rw[fW hok,aNn];omega)) (ai (by have:=gF (l:=jG ((gL 4 s).take 4)) (i:=1) (by rw[fW hok,aNn];omega);first|(rw[show((1:Int)).toNat=((1:Nat):Int).toNat from rfl,this];exact⟨aNg rfl,rfl⟩)) (s1 (ai (by exact cp (l:=jG ((gL 4 s).take 4)) (by omega) (by rw[fW hok,aNn];omega)) (ai (by have:=gF (l:=jG ((gL 4 s).take 4)) (i:=2) (by rw[fW hok,aNn];omega);first|(rw[show((2:Int)).toNat=((2:Nat):Int).toNat from rfl,this];exact⟨aNg rfl,rfl⟩)) (s1 (ai (by exact cp (l:=jG ((gL 4 s).take 4)) (by omega) (by rw[fW hok,aNn];omega)) (ai (by have:=gF (l:=jG ((gL 4 s).take 4)) (i:=3) (by rw[fW hok,aNn];omega);first|(rw[show((3:Int)).toNat=((3:Nat):Int).toNat from rfl,this];exact⟨aNg rfl,rfl⟩)) (s1 (ai (by exact ixS (l:=gL 4 s) (by omega) (by omega)) (ai (by exact ldS (l:=gL 4 s) (by omega) (by omega)) (s3 (ai (by kernel_rfl) (sq (sq (SW.wk (J:=fun q=>q=[tD 0 (.s s),tP 2 2,tP 7 7,oB 2 52 [.d (.i 0),.d (.i 0),.d (.i 0),.d (.i 0),.d (.s [])],oB 7 52 [.d (.i (mZ s).frm),.d (.i (mZ s).num),.d (.i (mZ s).to),.d (.i (mZ s).til),.d (.s (mZ s).text)]]) ?_ ?_))))))))))))))))))))))
 · refine wq [] [] (rfl) ?_
   repeat' apply ai
   all_goals first|exact qx|exact aA D.i (vl hok h5 (i:=0) (by omega))|exact aA D.i (vl hok h5 (i:=1) (by omega))|exact aA D.i (vl hok h5 (i:=2) (by omega))|exact aA D.i (vl hok h5 (i:=3) (by omega))|exact aA D.s (valS (l:=gL 4 s) (j:=4) (by omega) (by omega))|exact qz
 rintro q rfl
 refine rT [2,7,47] (s1 (xp (pN (mZ s) (by have:=cw 4 s _ (dO (z:=[]) (show 4< (gL 4 s).length by omega));show((gL 4 s).getD 4 []).length≤_;omega)) (ai rfl ?_)))
 refine s2 (y1 (xc (fun h=>(kD (mZ s) (by have:=cw 4 s _ (dO (z:=[]) (show 4< (gL 4 s).length by omega));show((gL 4 s).getD 4 []).length≤_;omega))) (ai rfl (ai rk ?_))))
 refine y2 (ai pk (cd rfl (fun c47=> ?_) fun c47=> ?_))
 · refine sq (rT [2,3] (s3 (rt (bG rfl rfl ?_))))
   rw[mv (.inr (.inr (by cases h:eM (mZ s) with|false=>exact .inl rfl|true=>rw[h] at c47;exact .inr (by simpa using c47))))]
   rfl
 refine sk (sq (rT [2,3] (s3 (rt ?_))))
 have h6:eM (mZ s)=true∧kO (mZ s)=s:=by simpa using c47
 refine bG rfl rfl ?_
 rw[aDt h5 hok h6.1 h6.2]
 rfl
theorem qI (s:List UInt8) (hl:s.length≤1000000):Sp 230 1 [tD 0 (.s s)] [tV 0 (.tup [.agg [.d (.i ((dB s).1).frm),.d (.i ((dB s).1).num),.d (.i ((dB s).1).to),.d (.i ((dB s).1).til),.d (.s ((dB s).1).text)],.c (.d (.b (dB s).2))])]:=by
 refine sb Tryz.func230 rfl (sq (rT [0,2] (s2 (sq (rT [0,2,4,5] (s1 (xp (ah s 4 hl (by omega)) (ai rfl ?_))))))))
 refine s5 (sq (rD [0,2,6] (s1 (ai (by exact cp (l:=dN 4 s) (by omega) (by rw[bJ];omega)) (ai (by have:=gF (l:=dN 4 s) (i:=0) (by rw[bJ];omega);first|(rw[show((0:Int)).toNat=((0:Nat):Int).toNat from rfl,this];exact⟨aNg rfl,rfl⟩)) (s1 (ai (by exact cp (l:=dN 4 s) (by omega) (by rw[bJ];omega)) (ai (by have:=gF (l:=dN 4 s) (i:=1) (by rw[bJ];omega);first|(rw[show((1:Int)).toNat=((1:Nat):Int).toNat from rfl,this];exact⟨aNg rfl,rfl⟩)) (s1 (ai (by exact cp (l:=dN 4 s) (by omega) (by rw[bJ];omega)) (ai (by have:=gF (l:=dN 4 s) (i:=2) (by rw[bJ];omega);first|(rw[show((2:Int)).toNat=((2:Nat):Int).toNat from rfl,this];exact⟨aNg rfl,rfl⟩)) (s1 (ai (by exact cp (l:=dN 4 s) (by omega) (by rw[bJ];omega)) (ai (by have:=gF (l:=dN 4 s) (i:=3) (by rw[bJ];omega);first|(rw[show((3:Int)).toNat=((3:Nat):Int).toNat from rfl,this];exact⟨aNg rfl,rfl⟩)) (s4 (ai (by kernel_rfl) (sq (sq (SW.wk (J:=fun q=>q=[tD 0 (.s s),tP 2 2,tP 6 6,oB 2 52 [.d (.i 0),.d (.i 0),.d (.i 0),.d (.i 0),.d (.s [])],oB 6 52 [.d (.i (yD s).frm),.d (.i (yD s).num),.d (.i (yD s).to),.d (.i (yD s).til),.d (.s (yD s).text)]]) ?_ ?_)))))))))))))))))))
 · refine wq [] [] (rfl) ?_
   repeat' apply ai
   all_goals first|exact qx|exact aA D.i (lc (i:=0) (by omega))|exact aA D.i (lc (i:=1) (by omega))|exact aA D.i (lc (i:=2) (by omega))|exact aA D.i (lc (i:=3) (by omega))|rfl|exact qz
 rintro q rfl
 refine rT [2,6,33] (s3 (y1 (xc (fun h=>(mJ (yD s) (by have:=mu 4 s;show(kV 4 s).length≤_;omega))) (ai rfl (ai rk ?_)))))
 refine y2 (ai pk (cd rfl (fun c33=> ?_) fun c33=> ?_))
 · refine sq (rT [2,3] (s3 (rt (bG rfl rfl ?_))))
   have hno:dB s=(.zero,false):=by
    rw[dB,aC]
    by_cases h:s=[]
    · exact .inl h
    · rw[show(s==[])=false by simpa using h] at c33;exact .inr (by simpa using c33)
   rw[hno]
   rfl
 refine sk (sq (rT [2,3] (s3 (rt (bG rfl rfl ?_)))))
 have hyes:dB s=(yD s,true):=by
  rw[dB,aB]
  rintro(h|h)
  · subst h;simp at c33
  · by_cases h2:s=[]
    · subst h2;simp at c33
    · rw[show(s==[])=false by simpa using h2] at c33;exact h (by simpa using c33)
 rw[hyes]
 rfl
theorem yQ (l:List bF) (hl:l.length≤1000000):Sp 211 1 [tD 0 (.sl (aF l))] [tD 0 (.sl (aF l))]:=by
 refine sb Tryz.func211 rfl (sq (rT [0] (s1 (sq (sq (rT [0,6] (s3 (cd rfl (fun c6=> ?_) fun c6=> ?_))))))))
 · refine sq (rT [2] (s1 (rt (fV _ [] [] rfl (cl rfl (aA D.sl ?_) trivial) rfl rfl))))
   simp[aE] at c6;simp[c6,aF]
 refine sk (sq (rT [0,3] (s2 (ai (by refine⟨rfl,by omega,?_⟩;rw[aE];show((48:Nat):Int)*_≤_;omega) (s1 (sq (rT [3] (s2 (ai (by refine⟨trivial,by simp,dY l⟩) (sq (rT [2] (s2 (rt (fV _ [] [9] rfl (gA rfl rfl rfl ?_ (aA D.sl ?_) trivial) rfl rfl))))))))))))))
 · simp
 simp
theorem oj (l:List bZ) (hl:l.length≤1000000):Sp 212 1 [tD 0 (.sl (aJ l))] [tD 0 (.sl (aJ l))]:=by
 refine sb Tryz.func212 rfl (sq (rT [0] (s1 (sq (sq (rT [0,6] (s3 (cd rfl (fun c6=> ?_) fun c6=> ?_))))))))
 · refine sq (rT [2] (s1 (rt (fV _ [] [] rfl (cl rfl (aA D.sl ?_) trivial) rfl rfl))))
   simp[aG] at c6;simp[c6,aJ]
 refine sk (sq (rT [0,3] (s2 (ai (by refine⟨rfl,by omega,?_⟩;rw[aG];show((24:Nat):Int)*_≤_;omega) (s1 (sq (rT [3] (s2 (ai (by refine⟨trivial,by simp,iN l⟩) (sq (rT [2] (s2 (rt (fV _ [] [9] rfl (gA rfl rfl rfl ?_ (aA D.sl ?_) trivial) rfl rfl))))))))))))))
 · simp
 simp
theorem nJ (k:bH) (hb:k.held.length≤1000000∧k.marks.length≤1000000∧k.inbox.length≤1000000):Sp 171 1 [tV 0 k.V] [tV 0 k.V]:=by
 refine sb Tryz.func171 rfl (sq (rT [1,2] (s2 (sq (rT [1,2,3] (s3 (sq (rT [1,2,3] (s2 (xp (yQ k.held hb.1) (ai rfl ?_)))))))))))
 refine s2 (sq (rT [1,2,3] (s2 (xp (oj k.marks hb.2.1) (ai rfl ?_)))))
 refine s2 (sq (rT [2,3] (s2 (xp (yQ k.inbox hb.2.2) (ai rfl ?_)))))
 exact s2 (sq (rT [2] (s2 (rt (bG rfl rfl rfl)))))
theorem sM (k:bH) (hb:k.held.length≤1000000∧k.marks.length≤1000000∧k.inbox.length≤1000000):Sp 195 1 [tV 0 k.V] [tV 0 k.V]:=by
 refine sb Tryz.func195 rfl (sq (rT [1,2] (s2 (sq (rT [1,2] (ai (by simp) (s2 (ai (by refine⟨trivial,rfl,?_,?_⟩<;>first|exact dY _|exact iN _|(simp only[aE,aG,aNl,Nat.zero_add];show _*48≤_;omega)) (s2 (sq (rT [1,2] (ai (by simp) (s2 (ai (by refine⟨trivial,rfl,?_,?_⟩<;>first|exact dY _|exact iN _|(simp only[aE,aG,aNl,Nat.zero_add];show _*24≤_;omega)) (s2 (sq (rT [1,2] (ai (by simp) (s2 (ai (by refine⟨trivial,rfl,?_,?_⟩<;>first|exact dY _|exact iN _|(simp only[aE,aG,aNl,Nat.zero_add];show _*48≤_;omega)) (s2 (sq (rT [2] (s2 (rt (rq [] [3,8,13] rfl ?_))))))))))))))))))))))))))
 repeat' apply ai
 all_goals try exact qx
 all_goals(first|with_reducible rfl|(simp;done))
theorem pP (l:List bF) (n:bF) (hl:l.length≤100000):Sp 247 2 [tD 0 (.sl (aF l)),tV 1 n.V] [tD 0 (.sl (aF (lD l n)))]:=by
 refine sb Tryz.func247 rfl (sq (rT [0,3] (s2 (sq (rT [0,3,5] (s1 (sq (bk (SW.loopW (n:=l.length) (fun m q=> ∃i:Nat,m=l.length - i∧i≤l.length∧(∀j,j<i→cD (l.getD j .zero).frm (l.getD j .zero).num n.frm n.num=true)∧q=[tD 0 (.sl (aF l)),tP 3 3,tI 5 (i:Nat),oB 3 52 [.d (.i (n).frm),.d (.i (n).num),.d (.i (n).to),.d (.i (n).til),.d (.s (n).text)]]) ?_ ?_)))))))))
 · exact wq (σ':=[tD 0 (.sl (aF l)),tP 3 3,tI 5 (0:Nat),oB 3 52 [.d (.i (n).frm),.d (.i (n).num),.d (.i (n).to),.d (.i (n).til),.d (.s (n).text)]]) [] [] (⟨0,rfl,aNj _,fun j h=>absurd h (by omega),rfl⟩) qz
 rintro n s ⟨i,rfl,hi,hk,rfl⟩
 refine sq (sq (rD [0,3,5,26] (s5 (y2 (ai (fun h=>(by have h8:=h;simp[gb,aE] at h8;have h9:i<l.length:=(by omega);rw[aNf,aS h9];exact⟨⟨by omega,by rw[aE];omega⟩,rfl⟩)) (ai rk (y1 (ai (fun h=>(by have h8:=h;simp[gb,aE] at h8;have h9:i<l.length:=(by omega);rw[aNf,aS h9];exact⟨aNg rfl,rfl⟩)) (ai rk (y2 (ai (fun h=>(by have h8:=h;simp[gb,aE] at h8;have h9:i<l.length:=(by omega);rw[aNf,aS h9];exact⟨⟨by omega,by rw[aE];omega⟩,rfl⟩)) (ai rk (y1 (ai (fun h=>(by have h8:=h;simp[gb,aE] at h8;have h9:i<l.length:=(by omega);rw[aNf,aS h9];exact⟨aNg rfl,rfl⟩)) (ai rk (y4 (xc (fun h=>(pM _ _ _ _)) (ai rfl (ai rk ?_)))))))))))))))))))
 refine ai pk (ai (by kernel_rfl) (cd rfl (fun c26=> ?_) fun c26=> ?_))
 · have h9:=c26
   simp only[aNi,aD,aE] at h9
   have hi2:i<l.length:=by omega
   have hb:cD (l.getD i .zero).frm (l.getD i .zero).num n.frm n.num=true:=by
    have h10:=h9.2
    rw[aNf,aS hi2] at h10
    exact h10
   refine sk (bk (rT [0,3,5] (s3 (wq [] [] (⟨l.length - (i+1),by omega,i+1,rfl,by omega,fun j h=>by by_cases e:j=i;exact e▸hb;exact hk j (by omega),rfl⟩) ?_))))
   repeat' apply ai
   all_goals first|exact qx|exact aA D.i (aH (by omega))|exact qz
 have hend:i=l.length∨cD (l.getD i .zero).frm (l.getD i .zero).num n.frm n.num=false:=by
  by_cases h:i<l.length
  · right
    have h9:=c26
    rw[decide_eq_true (show((i:Nat):Int)< ((aF l).length:Int) by rw[aE];omega),Bool.true_and,aNf,aS h] at h9
    exact h9
  · left;omega
 have hins:lD l n=_:=aCr (z:=bF.zero) (p:=fun x=>cD x.frm x.num n.frm n.num) (n:=n) hi hk hend
 refine xt (sq (rD [4] (ai (by simp) (s2 (ai (by exact⟨by rw[aE];exact⟨by first|(simp;done)|(simp;omega),by first|(simp;done)|(simp;omega),by first|(simp;done)|(simp;omega)⟩,dY _⟩) (ai (by exact⟨by first|trivial|rfl|(simp;done),by first|rfl|(simp[aE];done),by first|exact iI l _ _|(simp;done),by(try simp only[aNh,aNk,aNl,aNn,aNv,aE,jK,jL,jM,jN]);show _*48≤_;omega⟩) (s1 (ai (by exact⟨by simp,aNg rfl⟩) (ai (by exact⟨by first|trivial|rfl|(simp;done),by first|rfl|(simp[aE];done),by first|exact iI l _ _|(simp;done),by(try simp only[aNh,aNk,aNl,aNn,aNv,aE,jK,jL,jM,jN]);show _*48≤_;omega⟩) (s2 (ai (by exact⟨by rw[aE];exact⟨by first|(simp;done)|(simp;omega),by first|(simp;done)|(simp;omega),by first|(simp;done)|(simp;omega)⟩,dY _⟩) (ai (by exact⟨by first|trivial|rfl|(simp;done),by first|rfl|(simp[aE];done),by first|exact iI l _ _|(simp;done),by(try simp only[aNh,aNk,aNl,aNn,aNv,aE,jK,jL,jM,jN]);show _*48≤_;omega⟩) (s1 (ai (by kernel_rfl) (rt (fV _ [] [29] rfl (gA rfl rfl rfl ?_ (aA D.sl ?_) trivial) rfl rfl))))))))))))))))
 · rfl
 rw[hins,yE,bc];simp[aF,List.map_take,List.map_drop,bF.row]
theorem yR (l:List bF) (a:Int) (ha:0≤a∧a<l.length) (hl:l.length≤100000):Sp 249 2 [tD 0 (.sl (aF l)),tI 1 a] [tD 0 (.sl (aF (uR l a.toNat)))]:=by
 obtain⟨i,rfl⟩:=Int.eq_ofNat_of_zero_le ha.1
 have hw:wrap64 ((i:Int)+1)=((i+1:Nat):Int):=by rw[aH (by omega)];omega
 refine sb Tryz.func249 rfl (sq (rT [0,1] (s1 (sq (rD [4] (ai (by simp) (s2 (ai (by exact⟨by rw[aE];exact⟨by first|(simp;done)|(simp;omega),by first|(simp;done)|(simp;omega),by first|(simp;done)|(simp;omega)⟩,dY _⟩) (ai (by exact⟨by first|trivial|rfl|(simp;done),by first|rfl|(simp[aE];done),by first|exact iI l _ _|(simp;done),by(try simp only[aNh,aNk,aNl,aNn,aNv,aE,jK,jL,jM,jN]);show _*48≤_;omega⟩) (s3 (ai (by rw[hw];exact⟨by rw[aE];exact⟨by first|(simp;done)|(simp;omega),by first|(simp;done)|(simp;omega),by first|(simp;done)|(simp;omega)⟩,dY _⟩) (ai (by exact⟨by first|trivial|rfl|(simp;done),by first|rfl|(simp[aE];done),by first|exact iI l _ _|(simp;done),by(try simp only[hw]);(try simp only[aNh,aNk,aNl,aNn,aNv,aE,jK,jL,jM,jN]);show _*48≤_;omega⟩) (s1 (ai (by kernel_rfl) (rt (fV _ [] [5] rfl (gA rfl rfl rfl ?_ (aA D.sl ?_) trivial) rfl rfl))))))))))))))))
 · rfl
 rw[hw,yE,bc];simp[aF,uR,List.map_take,List.map_drop]
theorem wO {l:List bF} {i:Nat} {n:bF}: (aF (midW (fun x:bF=>cD n.frm n.num x.frm x.num) n (l.take i))).length≤l.length+1:=by
 rw[aE,midW]
 split
 · rw[eB,aNn];omega
 rw[aNn];omega
theorem lI (l:List bF) (n:bF) (hl:l.length≤100000):Sp 232 2 [tD 0 (.sl (aF l)),tV 1 n.V] [tD 0 (.sl (aF (iH l n)))]:=by
 refine sb Tryz.func232 rfl (sq (rT [0,3] (s2 (sq (rT [0,3,5] (ai (by simp) (s1 (sq (rT [0,3,5,6] (s1 (sq (sq (rT [0,3,5,6,7] (s1 (bk (SW.loopW (n:=l.length) (fun m q=> ∃i:Nat,m=l.length - i∧i≤l.length∧q=[tD 0 (.sl (aF l)),tP 3 3,tO 5 8 (aF (midW (fun x:bF=>cD n.frm n.num x.frm x.num) n (l.take i))).length,tB 6 ((l.take i).any (fun x:bF=>cD n.frm n.num x.frm x.num)),tI 7 (i:Nat),oB 3 52 [.d (.i (n).frm),.d (.i (n).num),.d (.i (n).to),.d (.i (n).til),.d (.s (n).text)],oR 8 52 5 (aF (midW (fun x:bF=>cD n.frm n.num x.frm x.num) n (l.take i)))]) ?_ ?_))))))))))))))))
 · refine wq (σ':=[tD 0 (.sl (aF l)),tP 3 3,tO 5 8 (aF (midW (fun x:bF=>cD n.frm n.num x.frm x.num) n (l.take 0))).length,tB 6 ((l.take 0).any (fun x:bF=>cD n.frm n.num x.frm x.num)),tI 7 (0:Nat),oB 3 52 [.d (.i (n).frm),.d (.i (n).num),.d (.i (n).to),.d (.i (n).til),.d (.s (n).text)],oR 8 52 5 (aF (midW (fun x:bF=>cD n.frm n.num x.frm x.num) n (l.take 0)))]) [] [] (⟨0,rfl,aNj _,rfl⟩) ?_
   repeat' apply ai
   all_goals first|exact qx|rfl|(simp[midW];done)|exact qz
 rintro n s ⟨i,rfl,hi,rfl⟩
 refine sq (sq (rT [0,3,5,6,7,12] (s4 (cd rfl (fun c12=> ?_) fun c12=> ?_))))
 · have hi2:i<l.length:=by simpa[aE] using c12
   have hg:=aS (l:=l) hi2
   refine sk (sq (bk (sq (sq (rD [0,3,5,6,7,33] (s3 (y4 (y2 (ai (fun h=>(by have h9:=hi2;rw[aNf,aS h9];exact⟨⟨by omega,by rw[aE];omega⟩,rfl⟩)) (ai rk (y1 (ai (fun h=>(by have h9:=hi2;rw[aNf,aS h9];exact⟨aNg rfl,rfl⟩)) (ai rk (y2 (ai (fun h=>(by have h9:=hi2;rw[aNf,aS h9];exact⟨⟨by omega,by rw[aE];omega⟩,rfl⟩)) (ai rk (y1 (ai (fun h=>(by have h9:=hi2;rw[aNf,aS h9];exact⟨aNg rfl,rfl⟩)) (ai rk (xc (fun h=>(oM _ _ _ _)) (ai rfl (ai rk ?_))))))))))))))))))))))
   refine ai pk (ai (by kernel_rfl) (cd rfl (fun c33=> ?_) fun c33=> ?_))
   · have h9:=c33
     rw[aNf,hg] at h9
     rw[aNi] at h9
     have hq: (l.take i).any (fun x:bF=>cD n.frm n.num x.frm x.num)=false∧cD n.frm n.num (l.getD i .zero).frm (l.getD i .zero).num=true:=⟨by simpa only[Bool.not_eq_true'] using h9.1,h9.2⟩
     have hm:=yp (q:=(fun x:bF=>cD n.frm n.num x.frm x.num)) (n:=n) (x:=l.getD i .zero) hq.1 hq.2
     rw[← gK hi2] at hm
     have ha: (l.take (i+1)).any (fun x:bF=>cD n.frm n.num x.frm x.num)=true:=by rw[gK (z:=bF.zero) hi2,db,hq.1];exact hq.2
     refine sq (rT [0,3,5,7] (s2 (ai (by exact⟨by simp,aNg rfl⟩) (ai (by exact⟨by first|trivial|rfl|(simp;done),by first|rfl|(simp;done),by first|(simp;done)|(intro r hr;rw[List.mem_singleton.1 hr];rfl),by(try simp only[aNh,aNk,aNl]);have hm:=wO (l:=l) (i:=i) (n:=n);show _*48≤_;omega⟩) (s1 (rT [0,3,5,6,7] (s1 (rT [0,3,5,6,7] (s3 (ai (by have h9:=hi2;rw[aNf,aS h9];exact⟨⟨by omega,by rw[aE];omega⟩,rfl⟩) (ai (by have h9:=hi2;rw[aNf,aS h9];exact⟨aNg rfl,rfl⟩) (ai (by exact⟨by simp,aNg rfl⟩) (ai (by exact⟨by first|trivial|rfl|(simp;done),by first|rfl|(simp;done),by first|(simp;done)|(intro r hr;rw[List.mem_singleton.1 hr];rfl),by(try simp only[aNh,aNk,aNl]);have hm:=wO (l:=l) (i:=i) (n:=n);show _*48≤_;omega⟩) (s1 (rT [0,3,5,6,7] (s3 (wq [] [] (⟨l.length - (i+1),by omega,i+1,rfl,by omega,rfl⟩) ?_)))))))))))))))))
     repeat' apply ai
     all_goals first|exact qx|exact aA D.i (by rw[aH (by omega)];omega)|(rw[ha];done)|exact aA D.b ha.symm|(rw[hm];simp[aF,aNf];done)|(rw[hm,aNf,hg];simp only[aF,List.map_append,List.map_cons,List.map_nil];rfl)|exact qz
   have h9:=c33
   rw[aNf,hg] at h9
   have hq: (l.take i).any (fun x:bF=>cD n.frm n.num x.frm x.num)=true∨cD n.frm n.num (l.getD i .zero).frm (l.getD i .zero).num=false:=by
    cases h: (l.take i).any (fun x:bF=>cD n.frm n.num x.frm x.num) with
    |true=>exact .inl rfl
    |false=>rw[h] at h9;exact .inr h9
   have hm:=aCs (q:=(fun x:bF=>cD n.frm n.num x.frm x.num)) (n:=n) (x:=l.getD i .zero) hq
   rw[← gK hi2] at hm
   have ha: (l.take (i+1)).any (fun x:bF=>cD n.frm n.num x.frm x.num)=(l.take i).any (fun x:bF=>cD n.frm n.num x.frm x.num):=by
    rw[gK (z:=bF.zero) hi2,db]
    rcases hq with h|h
    · rw[h];rfl
    · show((l.take i).any (fun x:bF=>cD n.frm n.num x.frm x.num)||(cD n.frm n.num (l.getD i .zero).frm (l.getD i .zero).num))=_
      rw[h,Bool.or_false]
   refine sk (rT [0,3,5,6,7] (s3 (ai (by have h9:=hi2;rw[aNf,aS h9];exact⟨⟨by omega,by rw[aE];omega⟩,rfl⟩) (ai (by have h9:=hi2;rw[aNf,aS h9];exact⟨aNg rfl,rfl⟩) (ai (by exact⟨by simp,aNg rfl⟩) (ai (by exact⟨by first|trivial|rfl|(simp;done),by first|rfl|(simp;done),by first|(simp;done)|(intro r hr;rw[List.mem_singleton.1 hr];rfl),by(try simp only[aNh,aNk,aNl]);have hm:=wO (l:=l) (i:=i) (n:=n);show _*48≤_;omega⟩) (s1 (rT [0,3,5,6,7] (s3 (wq [] [] (⟨l.length - (i+1),by omega,i+1,rfl,by omega,rfl⟩) ?_))))))))))
   repeat' apply ai
   all_goals first|exact qx|exact aA D.i (by rw[aH (by omega)];omega)|(rw[ha];done)|exact aA D.b ha.symm|(rw[hm];simp[aF,aNf];done)|(rw[hm,aNf,hg];simp only[aF,List.map_append,List.map_cons,List.map_nil];rfl)|exact qz
 have hi3:i=l.length:=by simp[aE] at c12;omega
 subst hi3
 refine xt (sq (sq (rT [3,5,46] (s2 (cd rfl (fun c46=> ?_) fun c46=> ?_)))))
 · have he: (l.take l.length).any (fun x:bF=>cD n.frm n.num x.frm x.num)=false:=by simpa using c46
   refine rT [5] (s2 (ai (by exact⟨by simp,aNg rfl⟩) (ai (by exact⟨by first|trivial|rfl|(simp;done),by first|rfl|(simp;done),by first|(simp;done)|(intro r hr;rw[List.mem_singleton.1 hr];rfl),by(try simp only[aNh,aNk,aNl]);have hm:=wO (l:=l) (i:=l.length) (n:=n);show _*48≤_;omega⟩) (s1 (sq (rT [4] (s2 (rt (fV _ [] [8] rfl (gA rfl rfl rfl ?_ (aA D.sl ?_) trivial) rfl rfl)))))))))
   · rfl
   rw[List.take_length] at he ⊢; rw[vZ,dc,he];simp[aF,bF.row]
 have he: (l.take l.length).any (fun x:bF=>cD n.frm n.num x.frm x.num)=true:=by simpa using c46
 refine sk (sq (rT [4] (s2 (rt (fV _ [] [8] rfl (gA rfl rfl rfl ?_ (aA D.sl ?_) trivial) rfl rfl)))))
 · rfl
 rw[List.take_length] at he ⊢; rw[vZ,dc,he];simp[aF,bF.row]
theorem tZ (l:List bZ) (n:bZ) (hl:l.length≤100000):Sp 250 2 [tD 0 (.sl (aJ l)),tV 1 n.V] [tD 0 (.sl (aJ (qF l n)))]:=by
 refine sb Tryz.func250 rfl (sq (rT [0,3] (s2 (sq (rT [0,3,5] (s1 (sq (bk (SW.loopW (n:=l.length) (fun m q=> ∃i:Nat,m=l.length - i∧i≤l.length∧(∀j,j<i→cD (l.getD j .zero).frm (l.getD j .zero).num n.frm n.num=true)∧q=[tD 0 (.sl (aJ l)),tP 3 3,tI 5 (i:Nat),oB 3 162 [.d (.i (n).frm),.d (.i (n).num),.d (.i (n).til)]]) ?_ ?_)))))))))
 · exact wq (σ':=[tD 0 (.sl (aJ l)),tP 3 3,tI 5 (0:Nat),oB 3 162 [.d (.i (n).frm),.d (.i (n).num),.d (.i (n).til)]]) [] [] (⟨0,rfl,aNj _,fun j h=>absurd h (by omega),rfl⟩) qz
 rintro n s ⟨i,rfl,hi,hk,rfl⟩
 refine sq (sq (rD [0,3,5,26] (s5 (y2 (ai (fun h=>(by have h8:=h;simp[gb,aG] at h8;have h9:i<l.length:=(by omega);rw[aNf,bP h9];exact⟨⟨by omega,by rw[aG];omega⟩,rfl⟩)) (ai rk (y1 (ai (fun h=>(by have h8:=h;simp[gb,aG] at h8;have h9:i<l.length:=(by omega);rw[aNf,bP h9];exact⟨aNg rfl,rfl⟩)) (ai rk (y2 (ai (fun h=>(by have h8:=h;simp[gb,aG] at h8;have h9:i<l.length:=(by omega);rw[aNf,bP h9];exact⟨⟨by omega,by rw[aG];omega⟩,rfl⟩)) (ai rk (y1 (ai (fun h=>(by have h8:=h;simp[gb,aG] at h8;have h9:i<l.length:=(by omega);rw[aNf,bP h9];exact⟨aNg rfl,rfl⟩)) (ai rk (y4 (xc (fun h=>(pM _ _ _ _)) (ai rfl (ai rk ?_)))))))))))))))))))
 refine ai pk (ai (by kernel_rfl) (cd rfl (fun c26=> ?_) fun c26=> ?_))
 · have h9:=c26
   simp only[aNi,aD,aG] at h9
   have hi2:i<l.length:=by omega
   have hb:cD (l.getD i .zero).frm (l.getD i .zero).num n.frm n.num=true:=by
    have h10:=h9.2
    rw[aNf,bP hi2] at h10
    exact h10
   refine sk (bk (rT [0,3,5] (s3 (wq [] [] (⟨l.length - (i+1),by omega,i+1,rfl,by omega,fun j h=>by by_cases e:j=i;exact e▸hb;exact hk j (by omega),rfl⟩) ?_))))
   repeat' apply ai
   all_goals first|exact qx|exact aA D.i (aH (by omega))|exact qz
 have hend:i=l.length∨cD (l.getD i .zero).frm (l.getD i .zero).num n.frm n.num=false:=by
  by_cases h:i<l.length
  · right
    have h9:=c26
    rw[decide_eq_true (show((i:Nat):Int)< ((aJ l).length:Int) by rw[aG];omega),Bool.true_and,aNf,bP h] at h9
    exact h9
  · left;omega
 have hins:qF l n=_:=aCr (z:=bZ.zero) (p:=fun x=>cD x.frm x.num n.frm n.num) (n:=n) hi hk hend
 refine xt (sq (rD [4] (ai (by simp) (s2 (ai (by exact⟨by rw[aG];exact⟨by first|(simp;done)|(simp;omega),by first|(simp;done)|(simp;omega),by first|(simp;done)|(simp;omega)⟩,iN _⟩) (ai (by exact⟨by first|trivial|rfl|(simp;done),by first|rfl|(simp[aG];done),by first|exact wA l _ _|(simp;done),by(try simp only[aNh,aNk,aNl,aNn,aNv,aG,jK,jL,jM,jN]);show _*24≤_;omega⟩) (s1 (ai (by exact⟨by simp,aNg rfl⟩) (ai (by exact⟨by first|trivial|rfl|(simp;done),by first|rfl|(simp[aG];done),by first|exact wA l _ _|(simp;done),by(try simp only[aNh,aNk,aNl,aNn,aNv,aG,jK,jL,jM,jN]);show _*24≤_;omega⟩) (s2 (ai (by exact⟨by rw[aG];exact⟨by first|(simp;done)|(simp;omega),by first|(simp;done)|(simp;omega),by first|(simp;done)|(simp;omega)⟩,iN _⟩) (ai (by exact⟨by first|trivial|rfl|(simp;done),by first|rfl|(simp[aG];done),by first|exact wA l _ _|(simp;done),by(try simp only[aNh,aNk,aNl,aNn,aNv,aG,jK,jL,jM,jN]);show _*24≤_;omega⟩) (s1 (ai (by kernel_rfl) (rt (fV _ [] [29] rfl (gA rfl rfl rfl ?_ (aA D.sl ?_) trivial) rfl rfl))))))))))))))))
 · rfl
 rw[hins,yE,bc];simp[aJ,List.map_take,List.map_drop,bZ.row]
theorem wP {l:List bZ} {i:Nat} {n:bZ}: (aJ (midW (fun x:bZ=>cD n.frm n.num x.frm x.num) n (l.take i))).length≤l.length+1:=by
 rw[aG,midW]
 split
 · rw[eB,aNn];omega
 rw[aNn];omega
theorem oP (l:List bZ) (n:bZ) (hl:l.length≤100000):Sp 236 2 [tD 0 (.sl (aJ l)),tV 1 n.V] [tD 0 (.sl (aJ (mH l n)))]:=by
 refine sb Tryz.func236 rfl (sq (rT [0,3] (s2 (sq (rT [0,3,5] (ai (by simp) (s1 (sq (rT [0,3,5,6] (s1 (sq (sq (rT [0,3,5,6,7] (s1 (bk (SW.loopW (n:=l.length) (fun m q=> ∃i:Nat,m=l.length - i∧i≤l.length∧q=[tD 0 (.sl (aJ l)),tP 3 3,tO 5 8 (aJ (midW (fun x:bZ=>cD n.frm n.num x.frm x.num) n (l.take i))).length,tB 6 ((l.take i).any (fun x:bZ=>cD n.frm n.num x.frm x.num)),tI 7 (i:Nat),oB 3 162 [.d (.i (n).frm),.d (.i (n).num),.d (.i (n).til)],oR 8 162 3 (aJ (midW (fun x:bZ=>cD n.frm n.num x.frm x.num) n (l.take i)))]) ?_ ?_))))))))))))))))
 · refine wq (σ':=[tD 0 (.sl (aJ l)),tP 3 3,tO 5 8 (aJ (midW (fun x:bZ=>cD n.frm n.num x.frm x.num) n (l.take 0))).length,tB 6 ((l.take 0).any (fun x:bZ=>cD n.frm n.num x.frm x.num)),tI 7 (0:Nat),oB 3 162 [.d (.i (n).frm),.d (.i (n).num),.d (.i (n).til)],oR 8 162 3 (aJ (midW (fun x:bZ=>cD n.frm n.num x.frm x.num) n (l.take 0)))]) [] [] (⟨0,rfl,aNj _,rfl⟩) ?_
   repeat' apply ai
   all_goals first|exact qx|rfl|(simp[midW];done)|exact qz
 rintro n s ⟨i,rfl,hi,rfl⟩
 refine sq (sq (rT [0,3,5,6,7,12] (s4 (cd rfl (fun c12=> ?_) fun c12=> ?_))))
 · have hi2:i<l.length:=by simpa[aG] using c12
   have hg:=bP (l:=l) hi2
   refine sk (sq (bk (sq (sq (rD [0,3,5,6,7,33] (s3 (y4 (y2 (ai (fun h=>(by have h9:=hi2;rw[aNf,bP h9];exact⟨⟨by omega,by rw[aG];omega⟩,rfl⟩)) (ai rk (y1 (ai (fun h=>(by have h9:=hi2;rw[aNf,bP h9];exact⟨aNg rfl,rfl⟩)) (ai rk (y2 (ai (fun h=>(by have h9:=hi2;rw[aNf,bP h9];exact⟨⟨by omega,by rw[aG];omega⟩,rfl⟩)) (ai rk (y1 (ai (fun h=>(by have h9:=hi2;rw[aNf,bP h9];exact⟨aNg rfl,rfl⟩)) (ai rk (xc (fun h=>(oM _ _ _ _)) (ai rfl (ai rk ?_))))))))))))))))))))))
   refine ai pk (ai (by kernel_rfl) (cd rfl (fun c33=> ?_) fun c33=> ?_))
   · have h9:=c33
     rw[aNf,hg] at h9
     rw[aNi] at h9
     have hq: (l.take i).any (fun x:bZ=>cD n.frm n.num x.frm x.num)=false∧cD n.frm n.num (l.getD i .zero).frm (l.getD i .zero).num=true:=⟨by simpa only[Bool.not_eq_true'] using h9.1,h9.2⟩
     have hm:=yp (q:=(fun x:bZ=>cD n.frm n.num x.frm x.num)) (n:=n) (x:=l.getD i .zero) hq.1 hq.2
     rw[← gK hi2] at hm
     have ha: (l.take (i+1)).any (fun x:bZ=>cD n.frm n.num x.frm x.num)=true:=by rw[gK (z:=bZ.zero) hi2,db,hq.1];exact hq.2
     refine sq (rT [0,3,5,7] (s2 (ai (by exact⟨by simp,aNg rfl⟩) (ai (by exact⟨by first|trivial|rfl|(simp;done),by first|rfl|(simp;done),by first|(simp;done)|(intro r hr;rw[List.mem_singleton.1 hr];rfl),by(try simp only[aNh,aNk,aNl]);have hm:=wP (l:=l) (i:=i) (n:=n);show _*24≤_;omega⟩) (s1 (rT [0,3,5,6,7] (s1 (rT [0,3,5,6,7] (s3 (ai (by have h9:=hi2;rw[aNf,bP h9];exact⟨⟨by omega,by rw[aG];omega⟩,rfl⟩) (ai (by have h9:=hi2;rw[aNf,bP h9];exact⟨aNg rfl,rfl⟩) (ai (by exact⟨by simp,aNg rfl⟩) (ai (by exact⟨by first|trivial|rfl|(simp;done),by first|rfl|(simp;done),by first|(simp;done)|(intro r hr;rw[List.mem_singleton.1 hr];rfl),by(try simp only[aNh,aNk,aNl]);have hm:=wP (l:=l) (i:=i) (n:=n);show _*24≤_;omega⟩) (s1 (rT [0,3,5,6,7] (s3 (wq [] [] (⟨l.length - (i+1),by omega,i+1,rfl,by omega,rfl⟩) ?_)))))))))))))))))
     repeat' apply ai
     all_goals first|exact qx|exact aA D.i (by rw[aH (by omega)];omega)|(rw[ha];done)|exact aA D.b ha.symm|(rw[hm];simp[aJ,aNf];done)|(rw[hm,aNf,hg];simp only[aJ,List.map_append,List.map_cons,List.map_nil];rfl)|exact qz
   have h9:=c33
   rw[aNf,hg] at h9
   have hq: (l.take i).any (fun x:bZ=>cD n.frm n.num x.frm x.num)=true∨cD n.frm n.num (l.getD i .zero).frm (l.getD i .zero).num=false:=by
    cases h: (l.take i).any (fun x:bZ=>cD n.frm n.num x.frm x.num) with
    |true=>exact .inl rfl
    |false=>rw[h] at h9;exact .inr h9
   have hm:=aCs (q:=(fun x:bZ=>cD n.frm n.num x.frm x.num)) (n:=n) (x:=l.getD i .zero) hq
   rw[← gK hi2] at hm
   have ha: (l.take (i+1)).any (fun x:bZ=>cD n.frm n.num x.frm x.num)=(l.take i).any (fun x:bZ=>cD n.frm n.num x.frm x.num):=by
    rw[gK (z:=bZ.zero) hi2,db]
    rcases hq with h|h
    · rw[h];rfl
    · show((l.take i).any (fun x:bZ=>cD n.frm n.num x.frm x.num)||(cD n.frm n.num (l.getD i .zero).frm (l.getD i .zero).num))=_
      rw[h,Bool.or_false]
   refine sk (rT [0,3,5,6,7] (s3 (ai (by have h9:=hi2;rw[aNf,bP h9];exact⟨⟨by omega,by rw[aG];omega⟩,rfl⟩) (ai (by have h9:=hi2;rw[aNf,bP h9];exact⟨aNg rfl,rfl⟩) (ai (by exact⟨by simp,aNg rfl⟩) (ai (by exact⟨by first|trivial|rfl|(simp;done),by first|rfl|(simp;done),by first|(simp;done)|(intro r hr;rw[List.mem_singleton.1 hr];rfl),by(try simp only[aNh,aNk,aNl]);have hm:=wP (l:=l) (i:=i) (n:=n);show _*24≤_;omega⟩) (s1 (rT [0,3,5,6,7] (s3 (wq [] [] (⟨l.length - (i+1),by omega,i+1,rfl,by omega,rfl⟩) ?_))))))))))
   repeat' apply ai
   all_goals first|exact qx|exact aA D.i (by rw[aH (by omega)];omega)|(rw[ha];done)|exact aA D.b ha.symm|(rw[hm];simp[aJ,aNf];done)|(rw[hm,aNf,hg];simp only[aJ,List.map_append,List.map_cons,List.map_nil];rfl)|exact qz
 have hi3:i=l.length:=by simp[aG] at c12;omega
 subst hi3
 refine xt (sq (sq (rT [3,5,46] (s2 (cd rfl (fun c46=> ?_) fun c46=> ?_)))))
 · have he: (l.take l.length).any (fun x:bZ=>cD n.frm n.num x.frm x.num)=false:=by simpa using c46
   refine rT [5] (s2 (ai (by exact⟨by simp,aNg rfl⟩) (ai (by exact⟨by first|trivial|rfl|(simp;done),by first|rfl|(simp;done),by first|(simp;done)|(intro r hr;rw[List.mem_singleton.1 hr];rfl),by(try simp only[aNh,aNk,aNl]);have hm:=wP (l:=l) (i:=l.length) (n:=n);show _*24≤_;omega⟩) (s1 (sq (rT [4] (s2 (rt (fV _ [] [8] rfl (gA rfl rfl rfl ?_ (aA D.sl ?_) trivial) rfl rfl)))))))))
   · rfl
   rw[List.take_length] at he ⊢; rw[sD,dc,he];simp[aJ,bZ.row]
 have he: (l.take l.length).any (fun x:bZ=>cD n.frm n.num x.frm x.num)=true:=by simpa using c46
 refine sk (sq (rT [4] (s2 (rt (fV _ [] [8] rfl (gA rfl rfl rfl ?_ (aA D.sl ?_) trivial) rfl rfl)))))
 · rfl
 rw[List.take_length] at he ⊢; rw[sD,dc,he];simp[aJ,bZ.row]
theorem ol (k:bH) (t:Int) (hb:k.held.length≤100000∧k.marks.length≤100000∧k.inbox.length≤100000):Sp 244 2 [tV 0 k.V,tI 1 t] [tV 0 ((jB k t).V)]:=by
 refine sb Tryz.func244 rfl (sq (rT [1,2,4] (s2 (sq (rT [1,2,4,5] (s9 (s1 (sq (sq (rT [1,2,4,5,19,20,21] (s4 (bk (SW.nilBox 5 100 3 52 5 rfl rfl rfl (SW.nilBox 5 101 4 162 3 rfl rfl rfl (SW.loopW (n:=k.held.length) (fun m q=> ∃i:Nat,m=k.held.length - i∧i≤k.held.length∧q=[tI 1 t,tP 2 2,tP 4 4,tP 5 5,tD 19 (.sl (aF k.held)),tI 20 (k.held.length:Nat),tI 21 (i:Nat),oB 2 44 [.d (.i k.id),.d (.i k.time),.d (.i k.next),.d (.sl (aF k.held)),.d (.sl (aJ k.marks)),.d (.sl (aF k.inbox))],oB 4 44 [.d (.i 0),.d (.i 0),.d (.i 0),.nil,.nil,.nil],oB 5 44 [.d (.i k.id),.d (.i t),.d (.i k.next),.own 100 (aF ((k.held.take i).filter (fun n=>decide (t<n.til)))).length,.own 101 (aJ []).length,.d (.sl (aF k.inbox))],oR 100 52 5 (aF ((k.held.take i).filter (fun n=>decide (t<n.til)))),oR 101 162 3 (aJ [])]) ?_ ?_)))))))))))))))
 · refine wq (σ':=[tI 1 t,tP 2 2,tP 4 4,tP 5 5,tD 19 (.sl (aF k.held)),tI 20 (k.held.length:Nat),tI 21 (0:Nat),oB 2 44 [.d (.i k.id),.d (.i k.time),.d (.i k.next),.d (.sl (aF k.held)),.d (.sl (aJ k.marks)),.d (.sl (aF k.inbox))],oB 4 44 [.d (.i 0),.d (.i 0),.d (.i 0),.nil,.nil,.nil],oB 5 44 [.d (.i k.id),.d (.i t),.d (.i k.next),.own 100 (aF ((k.held.take 0).filter (fun n=>decide (t<n.til)))).length,.own 101 (aJ []).length,.d (.sl (aF k.inbox))],oR 100 52 5 (aF ((k.held.take 0).filter (fun n=>decide (t<n.til)))),oR 101 162 3 (aJ [])]) [] [] (⟨0,rfl,aNj _,rfl⟩) ?_
   repeat' apply ai
   all_goals first|exact qx|rfl|(rw[aE];done)|(rw[aG];done)|exact qz
 rintro n s ⟨i,rfl,hi,rfl⟩
 refine sq (rT [1,2,4,5,19,20,21,22] (s1 (sq (cd rfl (fun c22=> ?_) fun c22=> ?_))))
 · have hi2:i<k.held.length:=by simpa using c22
   have hg:=aS (l:=k.held) hi2
   refine sk (sq (bk (sq (rT [1,2,4,5,7,19,20,21] (ai (by rw[aNf,hg];exact⟨⟨by omega,by rw[aE];omega⟩,rfl⟩) (ai (by rw[aNf,hg];exact⟨aNg rfl,rfl⟩) (s2 (sq (wa [tI 1 t,tP 2 2,tP 4 4,tP 5 5,tD 19 (.sl (aF k.held)),tI 20 (k.held.length:Nat),tI 21 (i:Nat),oB 2 44 [.d (.i k.id),.d (.i k.time),.d (.i k.next),.d (.sl (aF k.held)),.d (.sl (aJ k.marks)),.d (.sl (aF k.inbox))],oB 4 44 [.d (.i 0),.d (.i 0),.d (.i 0),.nil,.nil,.nil],oB 5 44 [.d (.i k.id),.d (.i t),.d (.i k.next),.own 100 (aF ((k.held.take i).filter (fun n=>decide (t<n.til)))).length,.own 101 (aJ []).length,.d (.sl (aF k.inbox))],oR 100 52 5 (aF ((k.held.take i).filter (fun n=>decide (t<n.til)))),oR 101 162 3 (aJ []),tP 7 7,oB 7 52 [.d (.i (k.held.getD i .zero).frm),.d (.i (k.held.getD i .zero).num),.d (.i (k.held.getD i .zero).to),.d (.i (k.held.getD i .zero).til),.d (.s (k.held.getD i .zero).text)]] [] [] ?_ ?_)))))))))
   · repeat' apply ai
     all_goals first|exact qx|(rw[aNf,hg];rfl)|exact qz
   refine rT [1,2,4,5,7,19,20,21,28] (s4 (cd rfl (fun c28=> ?_) fun c28=> ?_))
   · have hp: (fun n:bF=>decide (t<n.til)) (k.held.getD i .zero)=true:=c28
     have hf:=vY (z:=bF.zero) (p:=fun n=>decide (t<n.til)) hi2 hp
     refine rT [1,2,4,5,19,20,21] (s3 (ai (by exact⟨by simp,aNg rfl⟩) (ai (by exact⟨by first|trivial|rfl|(simp;done),by first|rfl|(simp;done),by first|(simp;done)|(intro r hr;rw[List.mem_singleton.1 hr];rfl),by(have hm:=(List.length_filter_le (fun n=>decide (t<n.til)) (k.held.take i)));rw[aNn] at hm;simp only[aE,aNk,aNl];show _*48≤_;omega⟩) (s2 (rT [1,2,4,5,19,20,21] (s2 (wq [] [] (⟨k.held.length - (i+1),by omega,i+1,rfl,by omega,rfl⟩) ?_)))))))
     repeat' apply ai
     all_goals first|exact qx|exact aA D.i (by rw[aH (by omega)];omega)|(rw[hf];simp[aF,aJ,bF.row,bZ.row];done)|(rw[hf];done)|exact qz
   have hp: (fun n:bF=>decide (t<n.til)) (k.held.getD i .zero)=false:=c28
   have hf:=zL (z:=bF.zero) (p:=fun n=>decide (t<n.til)) hi2 hp
   refine sk (rT [1,2,4,5,19,20,21] (s2 (wq [] [] (⟨k.held.length - (i+1),by omega,i+1,rfl,by omega,rfl⟩) ?_)))
   repeat' apply ai
   all_goals first|exact qx|exact aA D.i (by rw[aH (by omega)];omega)|(rw[hf];simp[aF,aJ,bF.row,bZ.row];done)|(rw[hf];done)|exact qz
 have hi3:i=k.held.length:=by simp at c22;omega
 subst hi3
 clear hi
 refine xt (sq (sq (rT [1,4,5,37,38,39] (s4 (bk (SW.loopW (n:=k.marks.length) (fun m q=> ∃i:Nat,m=k.marks.length - i∧i≤k.marks.length∧q=[tI 1 t,tP 4 4,tP 5 5,tD 37 (.sl (aJ k.marks)),tI 38 (k.marks.length:Nat),tI 39 (i:Nat),oB 4 44 [.d (.i 0),.d (.i 0),.d (.i 0),.nil,.nil,.nil],oB 5 44 [.d (.i k.id),.d (.i t),.d (.i k.next),.own 100 (aF ((k.held.take k.held.length).filter (fun n=>decide (t<n.til)))).length,.own 101 (aJ ((k.marks.take i).filter (fun n=>decide (t<n.til)))).length,.d (.sl (aF k.inbox))],oR 100 52 5 (aF ((k.held.take k.held.length).filter (fun n=>decide (t<n.til)))),oR 101 162 3 (aJ ((k.marks.take i).filter (fun n=>decide (t<n.til))))]) ?_ ?_))))))
 · refine wq (σ':=[tI 1 t,tP 4 4,tP 5 5,tD 37 (.sl (aJ k.marks)),tI 38 (k.marks.length:Nat),tI 39 (0:Nat),oB 4 44 [.d (.i 0),.d (.i 0),.d (.i 0),.nil,.nil,.nil],oB 5 44 [.d (.i k.id),.d (.i t),.d (.i k.next),.own 100 (aF ((k.held.take k.held.length).filter (fun n=>decide (t<n.til)))).length,.own 101 (aJ ((k.marks.take 0).filter (fun n=>decide (t<n.til)))).length,.d (.sl (aF k.inbox))],oR 100 52 5 (aF ((k.held.take k.held.length).filter (fun n=>decide (t<n.til)))),oR 101 162 3 (aJ ((k.marks.take 0).filter (fun n=>decide (t<n.til))))]) [] [] (⟨0,rfl,aNj _,rfl⟩) ?_
   repeat' apply ai
   all_goals first|exact qx|rfl|(rw[aE];done)|(rw[aG];done)|exact qz
 rintro n s ⟨i,rfl,hi,rfl⟩
 refine sq (rT [1,4,5,37,38,39,40] (s1 (sq (cd rfl (fun c40=> ?_) fun c40=> ?_))))
 · have hi2:i<k.marks.length:=by simpa using c40
   have hg:=bP (l:=k.marks) hi2
   refine sk (sq (bk (sq (rT [1,4,5,9,37,38,39] (ai (by rw[aNf,hg];exact⟨⟨by omega,by rw[aG];omega⟩,rfl⟩) (ai (by rw[aNf,hg];exact⟨aNg rfl,rfl⟩) (s2 (sq (wa [tI 1 t,tP 4 4,tP 5 5,tD 37 (.sl (aJ k.marks)),tI 38 (k.marks.length:Nat),tI 39 (i:Nat),oB 4 44 [.d (.i 0),.d (.i 0),.d (.i 0),.nil,.nil,.nil],oB 5 44 [.d (.i k.id),.d (.i t),.d (.i k.next),.own 100 (aF ((k.held.take k.held.length).filter (fun n=>decide (t<n.til)))).length,.own 101 (aJ ((k.marks.take i).filter (fun n=>decide (t<n.til)))).length,.d (.sl (aF k.inbox))],oR 100 52 5 (aF ((k.held.take k.held.length).filter (fun n=>decide (t<n.til)))),oR 101 162 3 (aJ ((k.marks.take i).filter (fun n=>decide (t<n.til)))),tP 9 9,oB 9 162 [.d (.i (k.marks.getD i .zero).frm),.d (.i (k.marks.getD i .zero).num),.d (.i (k.marks.getD i .zero).til)]] [] [] ?_ ?_)))))))))
   · repeat' apply ai
     all_goals first|exact qx|(rw[aNf,hg];rfl)|exact qz
   refine rT [1,4,5,9,37,38,39,46] (s4 (cd rfl (fun c46=> ?_) fun c46=> ?_))
   · have hp: (fun n:bZ=>decide (t<n.til)) (k.marks.getD i .zero)=true:=c46
     have hf:=vY (z:=bZ.zero) (p:=fun n=>decide (t<n.til)) hi2 hp
     refine rT [1,4,5,37,38,39] (s3 (ai (by exact⟨by simp,aNg rfl⟩) (ai (by exact⟨by first|trivial|rfl|(simp;done),by first|rfl|(simp;done),by first|(simp;done)|(intro r hr;rw[List.mem_singleton.1 hr];rfl),by(have hm:=(List.length_filter_le (fun n=>decide (t<n.til)) (k.marks.take i)));rw[aNn] at hm;simp only[aG,aNk,aNl];show _*24≤_;omega⟩) (s2 (rT [1,4,5,37,38,39] (s2 (wq [] [] (⟨k.marks.length - (i+1),by omega,i+1,rfl,by omega,rfl⟩) ?_)))))))
     repeat' apply ai
     all_goals first|exact qx|exact aA D.i (by rw[aH (by omega)];omega)|(rw[hf];simp[aF,aJ,bF.row,bZ.row];done)|(rw[hf];done)|exact qz
   have hp: (fun n:bZ=>decide (t<n.til)) (k.marks.getD i .zero)=false:=c46
   have hf:=zL (z:=bZ.zero) (p:=fun n=>decide (t<n.til)) hi2 hp
   refine sk (rT [1,4,5,37,38,39] (s2 (wq [] [] (⟨k.marks.length - (i+1),by omega,i+1,rfl,by omega,rfl⟩) ?_)))
   repeat' apply ai
   all_goals first|exact qx|exact aA D.i (by rw[aH (by omega)];omega)|(rw[hf];simp[aF,aJ,bF.row,bZ.row];done)|(rw[hf];done)|exact qz
 have hi3:i=k.marks.length:=by simp at c40;omega
 subst hi3
 refine xt (sq (rT [4] (s2 (rt (rq [] [100,101] rfl ?_)))))
 repeat' apply ai
 all_goals try exact qx
 all_goals(first|with_reducible rfl|(simp[jB];done))
theorem om (k:bH) (t:Int) (hb:k.held.length≤100000∧k.marks.length≤100000∧k.inbox.length≤100000):Sp 229 2 [tV 0 k.V,tI 1 t] [tV 0 ((jB k t).V)]:=by
 refine sb Tryz.func229 rfl (sq (rT [1,2,4] (s2 (sq (rT [1,2,4,5] (ai (by simp) (s1 (sq (sq (rT [1,2,4,5,6] (s1 (bk (SW.loopW (n:=k.held.length) (fun m q=> ∃i:Nat,m=k.held.length - i∧i≤k.held.length∧q=[tI 1 t,tP 2 2,tP 4 4,tO 5 9 (aF ((k.held.take i).filter (fun n=>decide (t<n.til)))).length,tI 6 (i:Nat),oB 2 44 [.d (.i k.id),.d (.i k.time),.d (.i k.next),.d (.sl (aF k.held)),.d (.sl (aJ k.marks)),.d (.sl (aF k.inbox))],oB 4 44 [.d (.i 0),.d (.i 0),.d (.i 0),.nil,.nil,.nil],oR 9 52 5 (aF ((k.held.take i).filter (fun n=>decide (t<n.til))))]) ?_ ?_)))))))))))))
 · refine wq (σ':=[tI 1 t,tP 2 2,tP 4 4,tO 5 9 (aF ((k.held.take 0).filter (fun n=>decide (t<n.til)))).length,tI 6 (0:Nat),oB 2 44 [.d (.i k.id),.d (.i k.time),.d (.i k.next),.d (.sl (aF k.held)),.d (.sl (aJ k.marks)),.d (.sl (aF k.inbox))],oB 4 44 [.d (.i 0),.d (.i 0),.d (.i 0),.nil,.nil,.nil],oR 9 52 5 (aF ((k.held.take 0).filter (fun n=>decide (t<n.til))))]) [] [] (⟨0,rfl,aNj _,rfl⟩) ?_
   repeat' apply ai
   all_goals first|exact qx|rfl|(rw[aE];done)|(rw[aG];done)|exact qz
 rintro n s ⟨i,rfl,hi,rfl⟩
 refine sq (sq (rT [1,2,4,5,6,14] (s5 (cd rfl (fun c14=> ?_) fun c14=> ?_))))
 · have hi2:i<k.held.length:=by simpa[aE] using c14
   have hg:=aS (l:=k.held) hi2
   refine sk (sq (bk (sq (rT [1,2,4,5,6,24] (s3 (ai (by rw[aNf,hg];exact⟨⟨by omega,by rw[aE];omega⟩,rfl⟩) (s1 (ai (by rw[aNf,hg];exact⟨aNg rfl,rfl⟩) (s2 (cd rfl (fun c24=> ?_) fun c24=> ?_))))))))))
   · rw[aNf,hg] at c24
     have hp: (fun n:bF=>decide (t<n.til)) (k.held.getD i .zero)=true:=c24
     have hf:=vY (z:=bF.zero) (p:=fun n=>decide (t<n.til)) hi2 hp
     refine rT [1,2,4,5,6] (s4 (ai (by rw[aNf,hg];exact⟨⟨by omega,by rw[aE];omega⟩,rfl⟩) (ai (by rw[aNf,hg];exact⟨aNg rfl,rfl⟩) (ai (by exact⟨by simp,aNg rfl⟩) (ai (by exact⟨by first|trivial|rfl|(simp;done),by first|rfl|(simp;done),by first|(simp;done)|(intro r hr;rw[List.mem_singleton.1 hr];rfl),by(have hm:=(List.length_filter_le (fun n=>decide (t<n.til)) (k.held.take i)));rw[aNn] at hm;simp only[aE,aNk,aNl];show _*48≤_;omega⟩) (s1 (rT [1,2,4,5,6] (s3 (wq [] [] (⟨k.held.length - (i+1),by omega,i+1,rfl,by omega,rfl⟩) ?_)))))))))
     repeat' apply ai
     all_goals first|exact qx|exact aA D.i (by rw[aH (by omega)];omega)|(rw[hf,aNf,hg];exact zW _ _)|(rw[hf];simp[aF,aJ];done)|(rw[hf];done)|exact qz
   rw[aNf,hg] at c24
   have hp: (fun n:bF=>decide (t<n.til)) (k.held.getD i .zero)=false:=c24
   have hf:=zL (z:=bF.zero) (p:=fun n=>decide (t<n.til)) hi2 hp
   refine sk (rT [1,2,4,5,6] (s3 (wq [] [] (⟨k.held.length - (i+1),by omega,i+1,rfl,by omega,rfl⟩) ?_)))
   repeat' apply ai
   all_goals first|exact qx|exact aA D.i (by rw[aH (by omega)];omega)|(rw[hf,aNf,hg];exact zW _ _)|(rw[hf];simp[aF,aJ];done)|(rw[hf];done)|exact qz
 have hi3:i=k.held.length:=by simp[aE] at c14;omega
 subst hi3
 clear hi
 refine xt (sq (rT [1,2,4,5,7] (ai (by simp) (s1 (sq (sq (rT [1,2,4,5,7,8] (s1 (bk (SW.loopW (n:=k.marks.length) (fun m q=> ∃i:Nat,m=k.marks.length - i∧i≤k.marks.length∧q=[tI 1 t,tP 2 2,tP 4 4,tO 5 9 (aF ((k.held.take k.held.length).filter (fun n=>decide (t<n.til)))).length,tO 7 33 (aJ ((k.marks.take i).filter (fun n=>decide (t<n.til)))).length,tI 8 (i:Nat),oB 2 44 [.d (.i k.id),.d (.i k.time),.d (.i k.next),.d (.sl (aF k.held)),.d (.sl (aJ k.marks)),.d (.sl (aF k.inbox))],oB 4 44 [.d (.i 0),.d (.i 0),.d (.i 0),.nil,.nil,.nil],oR 9 52 5 (aF ((k.held.take k.held.length).filter (fun n=>decide (t<n.til)))),oR 33 162 3 (aJ ((k.marks.take i).filter (fun n=>decide (t<n.til))))]) ?_ ?_))))))))))
 · refine wq (σ':=[tI 1 t,tP 2 2,tP 4 4,tO 5 9 (aF ((k.held.take k.held.length).filter (fun n=>decide (t<n.til)))).length,tO 7 33 (aJ ((k.marks.take 0).filter (fun n=>decide (t<n.til)))).length,tI 8 (0:Nat),oB 2 44 [.d (.i k.id),.d (.i k.time),.d (.i k.next),.d (.sl (aF k.held)),.d (.sl (aJ k.marks)),.d (.sl (aF k.inbox))],oB 4 44 [.d (.i 0),.d (.i 0),.d (.i 0),.nil,.nil,.nil],oR 9 52 5 (aF ((k.held.take k.held.length).filter (fun n=>decide (t<n.til)))),oR 33 162 3 (aJ ((k.marks.take 0).filter (fun n=>decide (t<n.til))))]) [] [] (⟨0,rfl,aNj _,rfl⟩) ?_
   repeat' apply ai
   all_goals first|exact qx|rfl|(rw[aE];done)|(rw[aG];done)|exact qz
 rintro n s ⟨i,rfl,hi,rfl⟩
 refine sq (sq (rT [1,2,4,5,7,8,38] (s5 (cd rfl (fun c38=> ?_) fun c38=> ?_))))
 · have hi2:i<k.marks.length:=by simpa[aG] using c38
   have hg:=bP (l:=k.marks) hi2
   refine sk (sq (bk (sq (rT [1,2,4,5,7,8,48] (s3 (ai (by rw[aNf,hg];exact⟨⟨by omega,by rw[aG];omega⟩,rfl⟩) (s1 (ai (by rw[aNf,hg];exact⟨aNg rfl,rfl⟩) (s2 (cd rfl (fun c48=> ?_) fun c48=> ?_))))))))))
   · rw[aNf,hg] at c48
     have hp: (fun n:bZ=>decide (t<n.til)) (k.marks.getD i .zero)=true:=c48
     have hf:=vY (z:=bZ.zero) (p:=fun n=>decide (t<n.til)) hi2 hp
     refine rT [1,2,4,5,7,8] (s4 (ai (by rw[aNf,hg];exact⟨⟨by omega,by rw[aG];omega⟩,rfl⟩) (ai (by rw[aNf,hg];exact⟨aNg rfl,rfl⟩) (ai (by exact⟨by simp,aNg rfl⟩) (ai (by exact⟨by first|trivial|rfl|(simp;done),by first|rfl|(simp;done),by first|(simp;done)|(intro r hr;rw[List.mem_singleton.1 hr];rfl),by(have hm:=(List.length_filter_le (fun n=>decide (t<n.til)) (k.marks.take i)));rw[aNn] at hm;simp only[aG,aNk,aNl];show _*24≤_;omega⟩) (s1 (rT [1,2,4,5,7,8] (s3 (wq [] [] (⟨k.marks.length - (i+1),by omega,i+1,rfl,by omega,rfl⟩) ?_)))))))))
     repeat' apply ai
     all_goals first|exact qx|exact aA D.i (by rw[aH (by omega)];omega)|(rw[hf,aNf,hg];exact zX _ _)|(rw[hf];simp[aF,aJ];done)|(rw[hf];done)|exact qz
   rw[aNf,hg] at c48
   have hp: (fun n:bZ=>decide (t<n.til)) (k.marks.getD i .zero)=false:=c48
   have hf:=zL (z:=bZ.zero) (p:=fun n=>decide (t<n.til)) hi2 hp
   refine sk (rT [1,2,4,5,7,8] (s3 (wq [] [] (⟨k.marks.length - (i+1),by omega,i+1,rfl,by omega,rfl⟩) ?_)))
   repeat' apply ai
   all_goals first|exact qx|exact aA D.i (by rw[aH (by omega)];omega)|(rw[hf,aNf,hg];exact zX _ _)|(rw[hf];simp[aF,aJ];done)|(rw[hf];done)|exact qz
 have hi3:i=k.marks.length:=by simp[aG] at c38;omega
 subst hi3
 refine xt (sq (rT [2,4,5,7] (s3 (sq (rT [2,4,7] (s3 (sq (rT [2,4] (s3 (sq (rT [4] (s2 (rt (rq [] [9,33] rfl ?_))))))))))))))
 repeat' apply ai
 all_goals try exact qx
 all_goals(first|with_reducible rfl|(simp[jB];done))
theorem aj (k:bH) (n:bF) (hb:k.held.length≤100000∧k.marks.length≤100000∧k.inbox.length≤100000) (hn:n.text.length≤140737488355328):Sp 246 2 [tV 0 k.V,tV 1 n.V] [tV 0 (.tup [.agg [.d (.i ((jH k n).1).id),.d (.i ((jH k n).1).time),.d (.i ((jH k n).1).next),.d (.sl (aF ((jH k n).1).held)),.d (.sl (aJ ((jH k n).1).marks)),.d (.sl (aF ((jH k n).1).inbox))],.c (.d (.b (jH k n).2))])]:=by
 refine sb Tryz.func246 rfl (sq (rT [2,3,4] (s4 (sq (sq (rT [2,3,4,56] (s1 (xp (pN n hn) (ai rfl ?_)))))))))
 refine s2 (y4 (y1 (ai pk (s1 (y4 (y2 (xc (fun h=>(iP k.held _ _ (by omega))) (ai rfl (ai rk ?_)))))))))
 refine y1 (ai pk (s1 (y4 (y2 (xc (fun h=>(iP k.inbox _ _ (by omega))) (ai rfl (ai rk ?_)))))))
 refine y1 (ai pk (s1 (y4 (y2 (xc (fun h=>(pO k.marks _ _ (by omega))) (ai rfl (ai rk ?_)))))))
 refine y1 (ai pk (s1 (y4 (y4 (y1 (ai pk (cd rfl (fun c56=> ?_) fun c56=> ?_)))))))
 · have ha:=mw hb c56
   refine sq (rT [4,5] (s3 (rt ?_)))
   have hr:jH k n=(k,false):=aB (bn ha)
   refine bG rfl rfl ?_
   rw[hr]<;>rfl
 have ha:=mw hb c56
 refine sk (sq (sq (rT [2,3,4,62] (s5 (cd rfl (fun c62=> ?_) fun c62=> ?_)))))
 · refine sq (rT [2,3,4] (s3 (xp (pP k.inbox n hb.2.2) (ai rfl ?_))))
   refine s2 (rT [2,4] (s9 (xp (tZ k.marks ⟨n.frm,n.num,n.til⟩ hb.2.1) (ai rfl ?_))))
   refine s2 (sq (rT [4,5] (s3 (rt ?_))))
   first|have hr:=th ha c62|have hr:=tj ha c62
   refine bG rfl rfl ?_
   rw[hr]<;>rfl
 refine rT [2,4] (s3 (xp (pP k.held n hb.1) (ai rfl ?_)))
 refine s2 (sq (rT [4,5] (s3 (rt ?_))))
 first|have hr:=th ha c62|have hr:=tj ha c62
 refine bG rfl rfl ?_
 rw[hr]<;>rfl
theorem wd (k:bH) (w:List UInt8) (n:Int) (hb:k.held.length≤100000∧k.marks.length≤100000∧k.inbox.length≤100000):Sp 205 3 [tV 0 k.V,tD 1 (.s w),tI 2 n] [tV 0 (.tup [.agg [.d (.i ((mO k w n).1).id),.d (.i ((mO k w n).1).time),.d (.i ((mO k w n).1).next),.d (.sl (aF ((mO k w n).1).held)),.d (.sl (aJ ((mO k w n).1).marks)),.d (.sl (aF ((mO k w n).1).inbox))],.c (.d (.b (mO k w n).2))])]:=by
 refine sb Tryz.func205 rfl (sq (rT [1,2,3,6] (s3 (sq (bk (sq (rT [1,2,3,6,8] (s3 (y4 (ai pk (s1 (cd rfl (fun c8=> ?_) fun c8=> ?_))))))))))))
 · refine sq (rT [6,7] (s2 (xp (ol k n hb) (ai rfl ?_))))
   refine s2 (rt ?_)
   have hr:mO k w n=(jB k n,true):=aC c8
   refine bG rfl rfl ?_
   rw[hr]<;>rfl
 refine sq (rT [2,3,6,20] (s3 (y4 (ai pk (s1 (cd rfl (fun c20=> ?_) fun c20=> ?_))))))
 · refine sq (rT [3,6] (s3 (sq (rT [6,7] (s3 (rt ?_))))))
   have hr:mO k w n=({k with next:=n},true):=(aB (bn c8)).trans (aC c20)
   refine bG rfl rfl ?_
   rw[hr]<;>rfl
 refine sk (sq (rT [6,7] (s3 (rt ?_))))
 have hr:mO k w n=(k,false):=(aB (bn c8)).trans (aB (bn c20))
 refine bG rfl rfl ?_
 rw[hr]<;>rfl
theorem qo (k:bH) (w:List UInt8) (n:bF) (hb:k.held.length≤100000∧k.marks.length≤100000∧k.inbox.length≤100000) (hn:n.text.length≤140737488355328):Sp 207 3 [tV 0 k.V,tD 1 (.s w),tV 2 n.V] [tV 0 (.tup [.agg [.d (.i ((fS k w n).1).id),.d (.i ((fS k w n).1).time),.d (.i ((fS k w n).1).next),.d (.sl (aF ((fS k w n).1).held)),.d (.sl (aJ ((fS k w n).1).marks)),.d (.sl (aF ((fS k w n).1).inbox))],.c (.d (.b (fS k w n).2))])]:=by
 refine sb Tryz.func207 rfl (sq (rT [1,3,5,6] (s4 (sq (bk (sq (rT [1,3,5,6,8] (s3 (y4 (y1 (ai pk (s1 (y4 (y1 (ai pk (s1 (cd rfl (fun c8=> ?_) fun c8=> ?_)))))))))))))))))
 · refine sq (rT [3,5,6] (s5 (sq (rT [6,7] (s2 (xp (aj {k with next:=wrap64 (k.next+1)} n hb hn) (ai rfl ?_)))))))
   refine s4 (rt ?_)
   have hr:fS k w n=jH {k with next:=wrap64 (k.next+1)} n:=aC c8
   refine bG rfl rfl ?_
   rw[hr]<;>rfl
 refine sq (rT [1,3,5,6,34] (s3 (y4 (y1 (ai pk (s1 (cd rfl (fun c34=> ?_) fun c34=> ?_)))))))
 · refine sq (rT [6,7] (s2 (xp (aj k n hb hn) (ai rfl ?_))))
   refine s4 (rt ?_)
   have hr:fS k w n=jH k n:=(aB (bn c8)).trans (aC c34)
   refine bG rfl rfl ?_
   rw[hr]<;>rfl
 refine sq (rT [1,3,5,6,49] (s6 (xp (iP k.held _ _ (by omega)) (ai rfl ?_))))
 refine s2 (y4 (y2 (xc (fun h=>(iP k.inbox _ _ (by omega))) (ai rfl (ai rk ?_)))))
 refine y1 (ai pk (s1 (cd rfl (fun c49=> ?_) fun c49=> ?_)))
 · refine sk (sq (rT [6,7] (s3 (rt ?_))))
   have hr:fS k w n=(k,false):=by
    first|exact(aB (bn c8)).trans ((aB (bn c34)).trans (aC c49))|exact(aB (bn c8)).trans ((aB (bn c34)).trans ((aB (bn c49)).trans ((aB (bn c68)).trans (aB (bn c77)))))
   refine bG rfl rfl ?_
   rw[hr]<;>rfl
 refine sq (rT [1,3,5,6,68] (s3 (cd rfl (fun c68=> ?_) fun c68=> ?_)))
 · refine sq (rT [3,6] (s3 (xp (pP k.held n hb.1) (ai rfl ?_))))
   refine s2 (sq (rT [6,7] (s3 (rt ?_))))
   have hr:fS k w n=({k with held:=lD k.held n},true):=(aB (bn c8)).trans ((aB (bn c34)).trans ((aB (bn c49)).trans (aC c68)))
   refine bG rfl rfl ?_
   rw[hr]<;>rfl
 refine sq (rT [3,5,6,77] (s3 (cd rfl (fun c77=> ?_) fun c77=> ?_)))
 · refine sq (rT [3,6] (s3 (xp (pP k.inbox n hb.2.2) (ai rfl ?_))))
   refine s2 (sq (rT [6,7] (s3 (rt ?_))))
   have hr:fS k w n=({k with inbox:=lD k.inbox n},true):=(aB (bn c8)).trans ((aB (bn c34)).trans ((aB (bn c49)).trans ((aB (bn c68)).trans (aC c77))))
   refine bG rfl rfl ?_
   rw[hr]<;>rfl
 refine sk (sq (rT [6,7] (s3 (rt ?_))))
 have hr:fS k w n=(k,false):=by
  first|exact(aB (bn c8)).trans ((aB (bn c34)).trans (aC c49))|exact(aB (bn c8)).trans ((aB (bn c34)).trans ((aB (bn c49)).trans ((aB (bn c68)).trans (aB (bn c77)))))
 refine bG rfl rfl ?_
 rw[hr]<;>rfl
theorem qp (k:bH) (w:List UInt8) (m:bZ) (hb:k.held.length≤100000∧k.marks.length≤100000∧k.inbox.length≤100000):Sp 210 3 [tV 0 k.V,tD 1 (.s w),tV 2 m.V] [tV 0 (.tup [.agg [.d (.i ((jI k w m).1).id),.d (.i ((jI k w m).1).time),.d (.i ((jI k w m).1).next),.d (.sl (aF ((jI k w m).1).held)),.d (.sl (aJ ((jI k w m).1).marks)),.d (.sl (aF ((jI k w m).1).inbox))],.c (.d (.b (jI k w m).2))])]:=by
 refine sb Tryz.func210 rfl (sq (rT [1,3,5,6] (s4 (sq (rD [1,3,5,6,8,9] (s6 (xp (iP k.held _ _ (by omega)) (ai rfl ?_))))))))
 refine s6 (xp (iP k.inbox _ _ (by omega)) (ai rfl ?_))
 refine s2 (ai (by kernel_rfl) (sq (rT [1,3,5,6,8,9,10] (s6 (xp (pO k.marks _ _ (by omega)) (ai rfl ?_))))))
 refine s2 (sq (bk (sq (rD [1,3,5,6,8,9,10,33] (s3 (y2 (ai pk (s1 (y3 (ai (fun h=>(by skip;have hp:0≤bA k.held m.frm m.num:=(by have h8:=h;simp only[gb,aNi,aD] at h8;exact h8.2);have hr:=eG k.held m.frm m.num;rw[aS (by omega)];exact⟨⟨hp,by rw[aE];omega⟩,rfl⟩)) (ai rk (y1 (ai (fun h=>(by have hp:0≤bA k.held m.frm m.num:=(by have h8:=h;simp only[gb,aNi,aD] at h8;exact h8.2);have hr:=eG k.held m.frm m.num;rw[aS (by omega)];exact⟨aNg rfl,rfl⟩)) (ai rk (y3 (ai pk (s1 (ai (by kernel_rfl) (cd rfl (fun c33=> ?_) fun c33=> ?_)))))))))))))))))))
 · have hc: (w==nO&&decide (0≤bA k.held m.frm m.num)&&(k.held.getD (bA k.held m.frm m.num).toNat .zero).til==m.til)=true:=by
    have h9:=c33
    by_cases hp:0≤bA k.held m.frm m.num
    · have hr:=eG k.held m.frm m.num
      rw[aS (by omega)] at h9
      exact h9
    · rw[show decide (bA k.held m.frm m.num≥0)=false from decide_eq_false hp,Bool.and_false,Bool.false_and] at h9
      rw[show decide (0≤bA k.held m.frm m.num)=false from decide_eq_false hp,Bool.and_false,Bool.false_and]<;>exact h9
   have hp:0≤bA k.held m.frm m.num:=by
    simp only[aNi,aD] at hc
    exact hc.1.2
   have hr:=eG k.held m.frm m.num
   refine sq (rT [3,5,6] (s3 (xp (yR k.held (bA k.held m.frm m.num) ⟨hp,by omega⟩ hb.1) (ai rfl ?_))))
   refine s2 (sq (rT [3,6] (s3 (xp (tZ k.marks m hb.2.1) (ai rfl ?_)))))
   refine s2 (sq (rT [6,7] (s3 (rt ?_))))
   have hr:jI k w m=({k with held:=uR k.held (bA k.held m.frm m.num).toNat,marks:=qF k.marks m},true):=aC hc
   refine bG rfl rfl ?_
   rw[hr]<;>rfl
 have hc: (w==nO&&decide (0≤bA k.held m.frm m.num)&&(k.held.getD (bA k.held m.frm m.num).toNat .zero).til==m.til)=false:=by
  have h9:=c33
  by_cases hp:0≤bA k.held m.frm m.num
  · have hr:=eG k.held m.frm m.num
    rw[aS (by omega)] at h9
    exact h9
  · rw[show decide (bA k.held m.frm m.num≥0)=false from decide_eq_false hp,Bool.and_false,Bool.false_and] at h9
    rw[show decide (0≤bA k.held m.frm m.num)=false from decide_eq_false hp,Bool.and_false,Bool.false_and]<;>exact h9
 have hc1:=hc
 clear hc
 refine sq (rD [1,3,5,6,9,10,62] (s3 (y2 (ai pk (s1 (y3 (ai (fun h=>(by skip;have hp:0≤bA k.inbox m.frm m.num:=(by have h8:=h;simp only[gb,aNi,aD] at h8;exact h8.2);have hr:=eG k.inbox m.frm m.num;rw[aS (by omega)];exact⟨⟨hp,by rw[aE];omega⟩,rfl⟩)) (ai rk (y1 (ai (fun h=>(by have hp:0≤bA k.inbox m.frm m.num:=(by have h8:=h;simp only[gb,aNi,aD] at h8;exact h8.2);have hr:=eG k.inbox m.frm m.num;rw[aS (by omega)];exact⟨aNg rfl,rfl⟩)) (ai rk (y3 (ai pk (s1 (ai (by kernel_rfl) (cd rfl (fun c62=> ?_) fun c62=> ?_))))))))))))))))
 · have hc: (w==iW&&decide (0≤bA k.inbox m.frm m.num)&&(k.inbox.getD (bA k.inbox m.frm m.num).toNat .zero).til==m.til)=true:=by
    have h9:=c62
    by_cases hp:0≤bA k.inbox m.frm m.num
    · have hr:=eG k.inbox m.frm m.num
      rw[aS (by omega)] at h9
      exact h9
    · rw[show decide (bA k.inbox m.frm m.num≥0)=false from decide_eq_false hp,Bool.and_false,Bool.false_and] at h9
      rw[show decide (0≤bA k.inbox m.frm m.num)=false from decide_eq_false hp,Bool.and_false,Bool.false_and]<;>exact h9
   have hp:0≤bA k.inbox m.frm m.num:=by
    simp only[aNi,aD] at hc
    exact hc.1.2
   have hr:=eG k.inbox m.frm m.num
   refine sq (rT [3,6] (s3 (xp (yR k.inbox (bA k.inbox m.frm m.num) ⟨hp,by omega⟩ hb.2.2) (ai rfl ?_))))
   refine s2 (sq (rT [6,7] (s3 (rt ?_))))
   have hr:jI k w m=({k with inbox:=uR k.inbox (bA k.inbox m.frm m.num).toNat},true):=(aB (bn hc1)).trans (aC hc)
   refine bG rfl rfl ?_
   rw[hr]<;>rfl
 have hc: (w==iW&&decide (0≤bA k.inbox m.frm m.num)&&(k.inbox.getD (bA k.inbox m.frm m.num).toNat .zero).til==m.til)=false:=by
  have h9:=c62
  by_cases hp:0≤bA k.inbox m.frm m.num
  · have hr:=eG k.inbox m.frm m.num
    rw[aS (by omega)] at h9
    exact h9
  · rw[show decide (bA k.inbox m.frm m.num≥0)=false from decide_eq_false hp,Bool.and_false,Bool.false_and] at h9
    rw[show decide (0≤bA k.inbox m.frm m.num)=false from decide_eq_false hp,Bool.and_false,Bool.false_and]<;>exact h9
 refine sq (rT [3,5,6,86] (s3 (y2 (ai pk (s1 (cd rfl (fun c86=> ?_) fun c86=> ?_))))))
 · have hm: (w==gU&&decide (kB k.marks m.frm m.num<0))=true:=by
    have h9:=c86
    rw[ta,Bool.not_not] at h9
    exact h9
   refine sq (rT [3,6] (s3 (xp (tZ k.marks m hb.2.1) (ai rfl ?_))))
   refine s2 (sq (rT [6,7] (s3 (rt ?_))))
   have hr:jI k w m=({k with marks:=qF k.marks m},true):=(aB (bn hc1)).trans ((aB (bn hc)).trans (aC hm))
   refine bG rfl rfl ?_
   rw[hr]<;>rfl
 have hm: (w==gU&&decide (kB k.marks m.frm m.num<0))=false:=by
  have h9:=c86
  rw[ta,Bool.not_not] at h9
  exact h9
 refine sk (sq (rT [6,7] (s3 (rt ?_))))
 have hr:jI k w m=(k,false):=(aB (bn hc1)).trans ((aB (bn hc)).trans (aB (bn hm)))
 refine bG rfl rfl ?_
 rw[hr]<;>rfl
theorem ed (k:bH) (rec:List UInt8) (hb:k.held.length≤100000∧k.marks.length≤100000∧k.inbox.length≤100000) (hr:rec.length≤900000):Sp 170 2 [tV 0 k.V,tD 1 (.s rec)] [tV 0 (.tup [.agg [.d (.i ((eQ k rec).1).id),.d (.i ((eQ k rec).1).time),.d (.i ((eQ k rec).1).next),.d (.sl (aF ((eQ k rec).1).held)),.d (.sl (aJ ((eQ k rec).1).marks)),.d (.sl (aF ((eQ k rec).1).inbox))],.c (.d (.b (eQ k rec).2))])]:=by
 have hl1:=rM rec
 have hl2:=zK rec
 have hl3:=wB (aM rec)
 refine sb Tryz.func170 rfl (sq (rT [1,2,4] (s3 (sq (rT [2,4,6,7,8] (s1 (xp (qn rec (by omega)) (ai rfl ?_))))))))
 refine s7 (sq (sq (rT [2,4,6,7,22] (s2 (cd rfl (fun c22=> ?_) fun c22=> ?_)))))
 · have hs:eE rec=false:=by simpa using c22
   refine sq (rT [4,5] (s3 (rt ?_)))
   have hr:eQ k rec=(k,false):=aDx hs
   refine bG rfl rfl ?_
   rw[hr]<;>rfl
 have hs:eE rec=true:=by simpa using c22
 refine sk (sq (sq (rT [2,4,6,7,24] (s1 (bk (SW.midW (fun q=>q=[tP 2 2,tP 4 4,tD 6 (.s (bD rec)),tD 7 (.s (aM rec)),tD 24 (.s (bD rec)),tB 25 (bD rec==iE||bD rec==jQ),oB 2 44 [.d (.i k.id),.d (.i k.time),.d (.i k.next),.d (.sl (aF k.held)),.d (.sl (aJ k.marks)),.d (.sl (aF k.inbox))],oB 4 44 [.d (.i 0),.d (.i 0),.d (.i 0),.nil,.nil,.nil]]) ?_ ?_))))))
 · refine sq (rT [2,4,6,7,24,25] (s2 (cd rfl (fun c25=> ?_) fun c25=> ?_)))
   · refine sk (wq [] [] (rfl) ?_)
     repeat' apply ai
     all_goals first|exact qx|(refine aA D.b ?_;simp_all[iE,jQ,gT,iV,gP,fA,nO,iW,gU])|exact qz
   refine rT [2,4,6,7,24,25] (s2 (wq [] [] (rfl) ?_))
   repeat' apply ai
   all_goals first|exact qx|(refine aA D.b ?_;simp_all[iE,jQ,gT,iV,gP,fA,nO,iW,gU])|exact qz
 rintro s rfl
 refine cd rfl (fun c25=> ?_) fun c25=> ?_
 · refine sq (rT [2,4,6,9,10] (s1 (xp (ub (aM rec) (by omega)) (ai rfl ?_))))
   refine s5 (sq (rT [2,4,6,9,33] (s1 (cd rfl (fun c33=> ?_) fun c33=> ?_))))
   · refine sq (rT [4,5] (s3 (xp (wd k (bD rec) (gX (aM rec)) hb) (ai rfl ?_))))
     refine s4 (rt ?_)
     have hr:eQ k rec=_:=yq hs c25 c33
     refine bG rfl rfl ?_
     rw[hr]<;>rfl
   refine sk (sq (rT [4,5] (s3 (rt ?_))))
   have hr2:eQ k rec=(k,false):=by
    first|exact zO hs c25 c33|exact sE hs c25 c40 c50|exact wC hs c25 c40 c57 hm3|exact de hs c25 c40 c57
   refine bG rfl rfl ?_
   rw[hr2]<;>rfl
 refine SW.midW (fun q=>q=[tP 2 2,tP 4 4,tD 6 (.s (bD rec)),tD 7 (.s (aM rec)),tD 24 (.s (bD rec)),tB 40 (bD rec==gT||bD rec==iV||bD rec==gP||bD rec==fA),oB 2 44 [.d (.i k.id),.d (.i k.time),.d (.i k.next),.d (.sl (aF k.held)),.d (.sl (aJ k.marks)),.d (.sl (aF k.inbox))],oB 4 44 [.d (.i 0),.d (.i 0),.d (.i 0),.nil,.nil,.nil]]) ?_ ?_
 · refine sq (rT [2,4,6,7,24,40] (s2 (cd rfl (fun c40=> ?_) fun c40=> ?_)))
   · refine sk (wq [] [] (rfl) ?_)
     repeat' apply ai
     all_goals first|exact qx|(refine aA D.b ?_;simp_all[iE,jQ,gT,iV,gP,fA,nO,iW,gU])|exact qz
   refine sq (rT [2,4,6,7,24,40] (s2 (cd rfl (fun c40_2=> ?_) fun c40_2=> ?_)))
   · refine sk (wq [] [] (rfl) ?_)
     repeat' apply ai
     all_goals first|exact qx|(refine aA D.b ?_;simp_all[iE,jQ,gT,iV,gP,fA,nO,iW,gU])|exact qz
   refine sq (rT [2,4,6,7,24,40] (s2 (cd rfl (fun c40_3=> ?_) fun c40_3=> ?_)))
   · refine sk (wq [] [] (rfl) ?_)
     repeat' apply ai
     all_goals first|exact qx|(refine aA D.b ?_;simp_all[iE,jQ,gT,iV,gP,fA,nO,iW,gU])|exact qz
   refine rT [2,4,6,7,24,40] (s2 (wq [] [] (rfl) ?_))
   repeat' apply ai
   all_goals first|exact qx|(refine aA D.b ?_;simp_all[iE,jQ,gT,iV,gP,fA,nO,iW,gU])|exact qz
 rintro s rfl
 refine cd rfl (fun c40=> ?_) fun c40=> ?_
 · refine sq (rT [2,4,6,11,12] (s1 (xp (ko (aM rec) (by omega)) (ai rfl ?_))))
   refine s6 (sq (rT [2,4,6,11,50] (s1 (cd rfl (fun c50=> ?_) fun c50=> ?_))))
   · refine sq (rT [4,5] (s3 (xp (qo k (bD rec) (dB (aM rec)).1 hb (by omega)) (ai rfl ?_))))
     refine s4 (rt ?_)
     have hr:eQ k rec=_:=aDy hs c25 c40 c50
     refine bG rfl rfl ?_
     rw[hr]<;>rfl
   refine sk (sq (rT [4,5] (s3 (rt ?_))))
   have hr2:eQ k rec=(k,false):=by
    first|exact zO hs c25 c33|exact sE hs c25 c40 c50|exact wC hs c25 c40 c57 hm3|exact de hs c25 c40 c57
   refine bG rfl rfl ?_
   rw[hr2]<;>rfl
 refine SW.midW (fun q=>q=[tP 2 2,tP 4 4,tD 6 (.s (bD rec)),tD 7 (.s (aM rec)),tB 57 (bD rec==nO||bD rec==iW||bD rec==gU),oB 2 44 [.d (.i k.id),.d (.i k.time),.d (.i k.next),.d (.sl (aF k.held)),.d (.sl (aJ k.marks)),.d (.sl (aF k.inbox))],oB 4 44 [.d (.i 0),.d (.i 0),.d (.i 0),.nil,.nil,.nil]]) ?_ ?_
 · refine sq (rT [2,4,6,7,24,57] (s2 (cd rfl (fun c57=> ?_) fun c57=> ?_)))
   · refine sk (wq [] [] (rfl) ?_)
     repeat' apply ai
     all_goals first|exact qx|(refine aA D.b ?_;simp_all[iE,jQ,gT,iV,gP,fA,nO,iW,gU])|exact qz
   refine sq (rT [2,4,6,7,24,57] (s2 (cd rfl (fun c57_2=> ?_) fun c57_2=> ?_)))
   · refine sk (wq [] [] (rfl) ?_)
     repeat' apply ai
     all_goals first|exact qx|(refine aA D.b ?_;simp_all[iE,jQ,gT,iV,gP,fA,nO,iW,gU])|exact qz
   refine rT [2,4,6,7,57] (s2 (wq [] [] (rfl) ?_))
   repeat' apply ai
   all_goals first|exact qx|(refine aA D.b ?_;simp_all[iE,jQ,gT,iV,gP,fA,nO,iW,gU])|exact qz
 rintro s rfl
 refine cd rfl (fun c57=> ?_) fun c57=> ?_
 · refine sq (rT [2,4,6,13,14] (s1 (xp (km (aM rec) (by omega)) (ai rfl ?_))))
   refine xp (xB (cQ (aM rec)) (by have:=aDw (aM rec);omega) (fun x hx=>by have:=aF5 (aM rec) x hx;omega)) (ai rfl ?_)
   refine s5 (sq (rT [2,4,6,13,72] (s2 (y3 (ai pk (cd rfl (fun c72=> ?_) fun c72=> ?_))))))
   · have hm3:=tk c72
     have hm4:=hm3
     rw[aNi,beq_iff_eq] at hm4
     obtain⟨hno,hl4⟩:=hm4
     have e0:gc (((eK (jG (cQ (aM rec)))).getD 0 []).getD 0 (.i 0))=gX ((cQ (aM rec)).getD 0 []):=vn hno (by omega)
     have e1:gc (((eK (jG (cQ (aM rec)))).getD 1 []).getD 0 (.i 0))=gX ((cQ (aM rec)).getD 1 []):=vn hno (by omega)
     have e2:gc (((eK (jG (cQ (aM rec)))).getD 2 []).getD 0 (.i 0))=gX ((cQ (aM rec)).getD 2 []):=vn hno (by omega)
     refine sq (rD [4,5] (s3 (ai (by exact cp (l:=jG (cQ (aM rec))) (by omega) (by rw[fW hno];omega)) (ai (by have:=gF (l:=jG (cQ (aM rec))) (i:=0) (by rw[fW hno];omega);first|(rw[show((0:Int)).toNat=((0:Nat):Int).toNat from rfl,this];exact⟨aNg rfl,rfl⟩)) (s1 (ai (by exact cp (l:=jG (cQ (aM rec))) (by omega) (by rw[fW hno];omega)) (ai (by have:=gF (l:=jG (cQ (aM rec))) (i:=1) (by rw[fW hno];omega);first|(rw[show((1:Int)).toNat=((1:Nat):Int).toNat from rfl,this];exact⟨aNg rfl,rfl⟩)) (s1 (ai (by exact cp (l:=jG (cQ (aM rec))) (by omega) (by rw[fW hno];omega)) (ai (by have:=gF (l:=jG (cQ (aM rec))) (i:=2) (by rw[fW hno];omega);first|(rw[show((2:Int)).toNat=((2:Nat):Int).toNat from rfl,this];exact⟨aNg rfl,rfl⟩)) (s1 (xp (qp k (bD rec) (three (cQ (aM rec))) hb) (ai (by exact aNa e0 e1 e2) ?_)))))))))))))
     refine s4 (ai (by kernel_rfl) (rt ?_))
     have hr:eQ k rec=_:=aDz hs c25 c40 c57 hm3
     refine bG rfl rfl ?_
     rw[hr]<;>rfl
   have hm3:=tk c72
   refine sk (sq (rT [4,5] (s3 (rt ?_))))
   have hr2:eQ k rec=(k,false):=by
    first|exact zO hs c25 c33|exact sE hs c25 c40 c50|exact wC hs c25 c40 c57 hm3|exact de hs c25 c40 c57
   refine bG rfl rfl ?_
   rw[hr2]<;>rfl
 refine sk (sq (rT [4,5] (s3 (rt ?_))))
 have hr2:eQ k rec=(k,false):=by
  first|exact zO hs c25 c33|exact sE hs c25 c40 c50|exact wC hs c25 c40 c57 hm3|exact de hs c25 c40 c57
 refine bG rfl rfl ?_
 rw[hr2]<;>rfl
theorem ie (id:Int):Sp 112 1 [tI 0 id] [tV 0 ((cE id).V)]:=by
 refine sb Tryz.func112 rfl (sq (rT [0,2] (s1 (sq (sq (rT [0,2,5] (s1 (xp (fN _) (ai rfl ?_)))))))))
 refine s1 (cd rfl (fun c5=> ?_) fun c5=> ?_)
 · have hr:cE id= .zero:=aB (by simpa using c5)
   refine sq (rT [2] (s2 (rt ?_)))
   rw[hr]
   exact rq [] [] rfl qz
 have hr:cE id=⟨id,0,1,[],[],[]⟩:=aC (by simpa using c5)
 refine sk (sq (rT [2] (s3 (rt ?_))))
 rw[hr]
 exact rq [] [] rfl qz
theorem ak (k:bH) (rec:List UInt8) (hk:KB k) (hr:rec.length≤900000):Sp 113 2 [tV 0 k.V,tD 1 (.s rec)] [tV 0 (.tup [.agg [.d (.i ((cR k rec).1).id),.d (.i ((cR k rec).1).time),.d (.i ((cR k rec).1).next),.d (.sl (aF ((cR k rec).1).held)),.d (.sl (aJ ((cR k rec).1).marks)),.d (.sl (aF ((cR k rec).1).inbox))],.c (.d (.b (cR k rec).2))])]:=by
 refine sb Tryz.func113 rfl (sq (rT [1,2,4] (s3 (sq (sq (rT [1,2,4,10] (s1 (xp (nB k hk.2.1 hk.2.2) (ai rfl ?_)))))))))
 refine s1 (cd rfl (fun c10=> ?_) fun c10=> ?_)
 · refine sq (rT [4,5] (s3 (rt ?_)))
   have hr:cR k rec=(.zero,false):=aB (by simpa using c10)
   rw[hr]
   exact rq [] [] rfl qz
 have hok:dG k=true:=by simpa using c10
 refine sk (sq (rT [2,4,6,7] (s1 (xp (nJ k (by have:=hk.1;omega)) (ai rfl ?_)))))
 refine s1 (xp (ed k rec hk.1 hr) (ai rfl ?_))
 refine s6 (sq (sq (rT [2,4,6,25] (s3 (y1 (xc (fun h=>nB (eQ k rec).1 (rN (cV hok) (by omega)).2.1 (rN (cV hok) (by omega)).2.2) (ai rfl (ai rk ?_))))))))
 refine y1 (ai pk (cd rfl (fun c25=> ?_) fun c25=> ?_))
 · refine sq (rT [4,5] (s1 (xp (nJ k (by have:=hk.1;omega)) (ai rfl ?_))))
   refine s2 (rt ?_)
   have hr:cR k rec=(k,false):=(aC hok).trans (aB (by intro h;rw[aNi] at h;rw[h.1,h.2] at c25;cases c25))
   rw[hr]
   exact rq [] [] rfl qz
 refine sk (sq (rT [4,5] (s1 (xp (nJ (eQ k rec).1 (by have:=(rN (cV hok) (show rec.length≤1000000 by omega)).1;omega)) (ai rfl ?_)))))
 refine s2 (rt ?_)
 have hr:cR k rec=((eQ k rec).1,true):=(aC hok).trans (aC (by simpa using c25))
 rw[hr]
 exact rq [] [] rfl qz
theorem qq (id:Int) (l:List (List UInt8)) (hl:l.length≤900000) (hx: ∀x∈l,x.length≤900000):Sp 50 2 [tI 0 id,tD 1 (.sl (bT l))] [tV 0 (.tup [.agg [.d (.i ((cX id l).1).id),.d (.i ((cX id l).1).time),.d (.i ((cX id l).1).next),.d (.sl (aF ((cX id l).1).held)),.d (.sl (aJ ((cX id l).1).marks)),.d (.sl (aF ((cX id l).1).inbox))],.c (.d (.b (cX id l).2))])]:=by
 refine sb Tryz.func50 rfl (sq (rT [0,1,4] (s2 (sq (sq (rT [0,1,4,13] (s1 (xp (fN _) (ai rfl ?_)))))))))
 refine s1 (cd rfl (fun c13=> ?_) fun c13=> ?_)
 · refine sq (rT [4,5] (s3 (rt ?_)))
   have hr:cX id l=(.zero,false):=aB (by simpa using c13)
   rw[hr]
   exact rq [] [] rfl qz
 have hnode:eP id=true:=by simpa using c13
 refine sk (sq (rT [1,4,6] (s1 (xp (ie id) (ai rfl ?_)))))
 refine s2 (sq (sq (rT [4,6,17,18,19] (s3 (bk (SW.loopW (n:=l.length) (fun m s=> ∃(i:Nat) (q:bH),m=l.length - i∧i≤l.length∧K6 q∧lN (cE id) l=lN q (l.drop i)∧s=[tP 4 4,tP 6 6,tD 17 (.sl (bT l)),tI 18 (l.length:Nat),tI 19 (i:Nat),oB 4 44 [.d (.i 0),.d (.i 0),.d (.i 0),.nil,.nil,.nil],oB 6 44 [.d (.i (q).id),.d (.i (q).time),.d (.i (q).next),.d (.sl (aF (q).held)),.d (.sl (aJ (q).marks)),.d (.sl (aF (q).inbox))]]) ?_ ?_))))))
 · refine wq (σ':=[tP 4 4,tP 6 6,tD 17 (.sl (bT l)),tI 18 (l.length:Nat),tI 19 (0:Nat),oB 4 44 [.d (.i 0),.d (.i 0),.d (.i 0),.nil,.nil,.nil],oB 6 44 [.d (.i (cE id).id),.d (.i (cE id).time),.d (.i (cE id).next),.d (.sl (aF (cE id).held)),.d (.sl (aJ (cE id).marks)),.d (.sl (aF (cE id).inbox))]]) [] [] (⟨0,cE id,rfl,aNj _,wD id,rfl,rfl⟩) ?_
   repeat' apply ai
   all_goals first|exact qx|rfl|(rw[aL];done)|exact qz
 rintro n s ⟨i,q,rfl,hi,hq,hgo,rfl⟩
 refine sq (rT [4,6,17,18,19,20] (s1 (sq (cd rfl (fun c20=> ?_) fun c20=> ?_))))
 · have hi2:i<l.length:=by simpa using c20
   have hg:=gB (l:=l) hi2
   have hmem:l.getD i []∈l:=dO hi2
   refine sk (sq (bk (sq (rT [4,6,8,17,18,19] (ai (by rw[aNf,hg];exact⟨⟨by omega,by rw[aL];omega⟩,rfl⟩) (ai (by rw[aNf,hg];exact⟨aNg rfl,rfl⟩) (s1 (sq (wa [tP 4 4,tP 6 6,tD 8 (.s (l.getD i [])),tD 17 (.sl (bT l)),tI 18 (l.length:Nat),tI 19 (i:Nat),oB 4 44 [.d (.i 0),.d (.i 0),.d (.i 0),.nil,.nil,.nil],oB 6 44 [.d (.i (q).id),.d (.i (q).time),.d (.i (q).next),.d (.sl (aF (q).held)),.d (.sl (aJ (q).marks)),.d (.sl (aF (q).inbox))]] [] [] ?_ ?_)))))))))
   · repeat' apply ai
     all_goals first|exact qx|(rw[aNf,hg];rfl)|exact qz
   refine rT [4,6,9,10,17,18,19] (s2 (xp (ak q (l.getD i []) hq.seven.big (hx _ hmem)) (ai rfl ?_)))
   refine s6 (sq (sq (rT [4,6,9,17,18,19,30] (s2 (cd rfl (fun c30=> ?_) fun c30=> ?_)))))
   · have hno: (cR q (l.getD i [])).2=false:=by simpa using c30
     rw[List.drop_eq_getElem_cons hi2,lN,show l[i]=l.getD i [] by rw[aNm,aNo hi2];rfl,hno] at hgo
     refine sq (rT [4,5] (s3 (rt ?_)))
     have hr:cX id l=(.zero,false):=(aC hnode).trans (hgo.trans (aB (by simp)))
     rw[hr]
     exact rq [] [] rfl qz
   have hno: (cR q (l.getD i [])).2=true:=by simpa using c30
   rw[List.drop_eq_getElem_cons hi2,lN,show l[i]=l.getD i [] by rw[aNm,aNo hi2];rfl,aC hno] at hgo
   refine sk (rT [4,6,17,18,19] (s2 (rT [4,6,17,18,19] (s2 (wq [] [] (⟨l.length - (i+1),by omega,i+1,(cR q (l.getD i [])).1,rfl,by omega,gq,hgo,rfl⟩) ?_)))))
   repeat' apply ai
   all_goals first|exact qx|exact aA D.i (aH (by omega))|exact qz
 have hi3:i=l.length:=by simp at c20;omega
 subst hi3
 refine xt (sq (rT [4,5] (s3 (rt ?_))))
 have hr:cX id l=(q,true):=(aC hnode).trans (hgo.trans (by rw[List.drop_length];rfl))
 rw[hr]
 exact rq [] [] rfl qz
theorem kp (k:bH) (n:bF) (hb:k.held.length≤100000∧k.marks.length≤100000∧k.inbox.length≤100000) (hn:n.text.length≤140737488355328):Sp 252 2 [tV 0 k.V,tV 1 n.V] [tB 0 (bb k n)]:=by
 refine sb Tryz.func252 rfl (sq (rT [2,3] (s3 (sq (rT [4] (s1 (xp (tX n hn) (ai rfl ?_))))))))
 refine s1 (y4 (y1 (ai pk (s1 (y4 (y2 (xc (fun h=>(gH k.held _ _ (by omega))) (ai rfl (ai rk ?_)))))))))
 refine y1 (ai pk (s1 (y4 (y2 (xc (fun h=>(oN k.marks _ _ (by omega))) (ai rfl (ai rk ?_)))))))
 refine y1 (ai pk (s1 (y4 (y2 (xc (fun h=>(gH k.inbox _ _ (by omega))) (ai rfl (ai rk ?_)))))))
 refine y1 (ai pk (s1 (rt (aT rfl (aA D.b ?_)))))
 rfl
theorem yS (k:bH) (n:bF) (hb:k.held.length≤100000∧k.marks.length≤100000∧k.inbox.length≤100000) (hn:n.text.length≤140737488355328):Sp 231 2 [tV 0 k.V,tV 1 n.V] [tV 0 (.tup [.agg [.d (.i ((kW k n).1).id),.d (.i ((kW k n).1).time),.d (.i ((kW k n).1).next),.d (.sl (aF ((kW k n).1).held)),.d (.sl (aJ ((kW k n).1).marks)),.d (.sl (aF ((kW k n).1).inbox))],.c (.d (.b (kW k n).2))])]:=by
 refine sb Tryz.func231 rfl (sq (rT [2,3,4] (s4 (sq (sq (rT [2,3,4,9] (s2 (xp (kp k n hb hn) (ai rfl ?_)))))))))
 refine s1 (cd rfl (fun c9=> ?_) fun c9=> ?_)
 · refine sq (rT [4,5] (s3 (rt ?_)))
   have hr:kW k n=_:=aF8 c9
   refine bG rfl rfl ?_
   rw[hr]<;>rfl
 refine sk (sq (sq (rT [2,3,4,15] (s5 (cd rfl (fun c15=> ?_) fun c15=> ?_)))))
 · refine sq (rT [2,4] (s3 (xp (lI k.held n hb.1) (ai rfl ?_))))
   refine s2 (sq (rD [4,5] (s9 (s2 (ai (by kernel_rfl) (rt ?_))))))
   have hr:kW k n=_:=aF9 hb c9 c15
   refine bG rfl rfl ?_
   rw[hr]<;>rfl
 refine sk (sq (rT [2,3,4] (s3 (xp (lI k.inbox n hb.2.2) (ai rfl ?_)))))
 refine s2 (sq (rT [2,4] (s9 (xp (oP k.marks ⟨n.frm,n.num,n.til⟩ hb.2.1) (ai rfl ?_)))))
 refine s2 (sq (rD [4,5] (s9 (s2 (ai (by kernel_rfl) (rt ?_))))))
 have hr:kW k n=_:=aGa hb c9 c15
 refine bG rfl rfl ?_
 rw[hr]<;>rfl
theorem qr (k:bH) (a b:Int) (hb:k.held.length≤100000∧k.marks.length≤100000∧k.inbox.length≤100000):Sp 234 3 [tV 0 k.V,tI 1 a,tI 2 b] [tV 0 (.tup [.agg [.d (.i ((cz k a b).1).id),.d (.i ((cz k a b).1).time),.d (.i ((cz k a b).1).next),.d (.sl (aF ((cz k a b).1).held)),.d (.sl (aJ ((cz k a b).1).marks)),.d (.sl (aF ((cz k a b).1).inbox))],.c (.d (.b (cz k a b).2))])]:=by
 refine sb Tryz.func234 rfl (sq (rT [1,2,3,6] (s3 (sq (rT [1,2,3,6,8] (s4 (xp (gH k.held a b (by omega)) (ai rfl ?_))))))))
 refine s1 (sq (sq (rT [1,2,3,6,8,16] (s2 (cd rfl (fun c16=> ?_) fun c16=> ?_)))))
 · have hr:cz k a b=(k,false):=aB (by simpa using c16)
   refine sq (rT [6,7] (s3 (rt ?_)))
   rw[hr]
   exact rq [] [] rfl qz
 have hp:0≤bA k.held a b:=by simpa using c16
 have hr0:=eG k.held a b
 obtain⟨i,hi⟩:=Int.eq_ofNat_of_zero_le hp
 rw[hi] at hr0
 have hw:wrap64 ((i:Int)+1)=((i+1:Nat):Int):=by rw[aH (by omega)];omega
 have hr:cz k a b=_:=aC hp
 have hg:=aS (l:=k.held) (i:=i) (by omega)
 have et:gc (((aF k.held).getD (bA k.held a b).toNat []).getD 3 (.i 0))=(k.held.getD i .zero).til:=by rw[hi,aNf,hg];rfl
 refine sk (sq (rT [1,2,3,6,8,9] (s3 (ai (by rw[hi,aNf,hg];exact⟨⟨by omega,by rw[aE];omega⟩,rfl⟩) (ai (by rw[hi,aNf,hg];exact⟨aNg rfl,rfl⟩) (s2 (sq (rD [1,2,3,6,9] (ai (by simp) (s3 (ai (by rw[hi];(try rw[hw]);exact⟨by rw[aE];exact⟨by first|(simp;done)|(simp;omega),by first|(simp;done)|(simp;omega),by first|(simp;done)|(simp;omega)⟩,dY _⟩) (ai (by rw[hi];(try rw[hw]);exact⟨by first|trivial|rfl|(simp;done),by first|rfl|(simp[aE];done),by first|exact iI _ _ _|(simp;done),by(try simp only[aNh,aNk,aNl,aNn,aNv,aE,jK,jL,jM,jN]);show _*48≤_;omega⟩) (s4 (ai (by rw[hi];(try rw[hw]);exact⟨by rw[aE];exact⟨by first|(simp;done)|(simp;omega),by first|(simp;done)|(simp;omega),by first|(simp;done)|(simp;omega)⟩,dY _⟩) (ai (by rw[hi];(try rw[hw]);exact⟨by first|trivial|rfl|(simp;done),by first|rfl|(simp[aE];done),by first|exact iI _ _ _|(simp;done),by(try simp only[aNh,aNk,aNl,aNn,aNv,aE,jK,jL,jM,jN]);show _*48≤_;omega⟩) (s2 (ai (by kernel_rfl) (sq (rT [3,6] (s7 (xp (oP k.marks ⟨a,b,(k.held.getD i .zero).til⟩ hb.2.1) (ai (by exact aF7 rfl rfl et) ?_))))))))))))))))))))))
 refine s2 (sq (rT [6,7] (s3 (rt ?_))))
 rw[hr]
 refine rq [] [23] rfl ?_
 repeat' apply ai
 all_goals try exact qx
 all_goals(first|with_reducible rfl|(rw[hi,hw,yE,bc,aNf];simp[aF,uR,List.map_take,List.map_drop];done)|(rw[hi];rfl)|rfl)
theorem qt (k:bH) (a b:Int) (hb:k.held.length≤100000∧k.marks.length≤100000∧k.inbox.length≤100000):Sp 235 3 [tV 0 k.V,tI 1 a,tI 2 b] [tV 0 (.tup [.agg [.d (.i ((da k a b).1).id),.d (.i ((da k a b).1).time),.d (.i ((da k a b).1).next),.d (.sl (aF ((da k a b).1).held)),.d (.sl (aJ ((da k a b).1).marks)),.d (.sl (aF ((da k a b).1).inbox))],.c (.d (.b (da k a b).2))])]:=by
 refine sb Tryz.func235 rfl (sq (rT [1,2,3,6] (s3 (sq (rT [3,6,8] (s4 (xp (gH k.inbox a b (by omega)) (ai rfl ?_))))))))
 refine s1 (sq (sq (rT [3,6,8,15] (s2 (cd rfl (fun c15=> ?_) fun c15=> ?_)))))
 · have hr:da k a b=(k,false):=aB (by simpa using c15)
   refine sq (rT [6,7] (s3 (rt ?_)))
   rw[hr]
   exact rq [] [] rfl qz
 have hp:0≤bA k.inbox a b:=by simpa using c15
 have hr0:=eG k.inbox a b
 obtain⟨i,hi⟩:=Int.eq_ofNat_of_zero_le hp
 rw[hi] at hr0
 have hw:wrap64 ((i:Int)+1)=((i+1:Nat):Int):=by rw[aH (by omega)];omega
 have hr:da k a b=_:=aC hp
 refine sk (sq (rD [3,6] (ai (by simp) (s3 (ai (by rw[hi];(try rw[hw]);exact⟨by rw[aE];exact⟨by first|(simp;done)|(simp;omega),by first|(simp;done)|(simp;omega),by first|(simp;done)|(simp;omega)⟩,dY _⟩) (ai (by rw[hi];(try rw[hw]);exact⟨by first|trivial|rfl|(simp;done),by first|rfl|(simp[aE];done),by first|exact iI _ _ _|(simp;done),by(try simp only[aNh,aNk,aNl,aNn,aNv,aE,jK,jL,jM,jN]);show _*48≤_;omega⟩) (s4 (ai (by rw[hi];(try rw[hw]);exact⟨by rw[aE];exact⟨by first|(simp;done)|(simp;omega),by first|(simp;done)|(simp;omega),by first|(simp;done)|(simp;omega)⟩,dY _⟩) (ai (by rw[hi];(try rw[hw]);exact⟨by first|trivial|rfl|(simp;done),by first|rfl|(simp[aE];done),by first|exact iI _ _ _|(simp;done),by(try simp only[aNh,aNk,aNl,aNn,aNv,aE,jK,jL,jM,jN]);show _*48≤_;omega⟩) (s2 (ai (by kernel_rfl) (sq (rT [6,7] (s3 (rt ?_)))))))))))))))
 rw[hr]
 refine rq [] [17] rfl ?_
 repeat' apply ai
 all_goals try exact qx
 all_goals(first|with_reducible rfl|(rw[hi,hw,yE,bc,aNf];simp[aF,uR,List.map_take,List.map_drop];done)|rfl)
theorem aBw (m:Nat) (hm:1≤m∧m≤1000000):Sp 89 1 [tI 0 (-(m:Int))] [tD 0 (.s (45::jF m))]:=by
 refine sb Tryz.func89 rfl (sq (rT [0] (s1 (sq (sq (rT [0,4] (s2 (cd rfl (fun c4=> ?_) fun c4=> ?_))))))))
 · simp at c4
   omega
 refine sk (sq (sq (rT [0,6] (s2 (cd rfl (fun c6=> ?_) fun c6=> ?_)))))
 · refine sq (rT [2] (s2 (xp (rH m (by omega)) (ai (by exact aCt (show wrap64 (0 - -(m:Int))=m by rw[aH (by omega)];omega)) ?_))))
   refine ai (by have:=aCo m;show _≤9223372036854775807;simp only[aNk,aNl];omega) (s1 (rt (aT rfl (aA D.s ?_))))
   rfl
 simp at c6
 omega
theorem oo (n:Int) (h: -1≤n∧n≤9999):Sp 89 1 [tI 0 n] [tD 0 (.s (ym n))]:=by
 unfold ym
 by_cases h0:n<0
 · obtain rfl:n= -1:=by omega
   exact aBw 1 (by omega)
 rw[aB h0]
 exact jR n (by omega)
theorem qu (k:bH) (rec:List UInt8) (hb:k.held.length≤100000∧k.marks.length≤100000∧k.inbox.length≤100000) (hr:rec.length≤900000):Sp 194 2 [tV 0 k.V,tD 1 (.s rec)] [tV 0 (.tup [.agg [.d (.i ((eR k rec).1).id),.d (.i ((eR k rec).1).time),.d (.i ((eR k rec).1).next),.d (.sl (aF ((eR k rec).1).held)),.d (.sl (aJ ((eR k rec).1).marks)),.d (.sl (aF ((eR k rec).1).inbox))],.c (.d (.b (eR k rec).2))])]:=by
 have hl1:=rM rec
 have hl2:=zK rec
 have hl3:=wB (aM rec)
 have e0:gc (((eK (dN 3 (aM rec))).getD 0 []).getD 0 (.i 0))=cU (aM rec) 0:=na (by omega)
 have e1:gc (((eK (dN 3 (aM rec))).getD 1 []).getD 0 (.i 0))=cU (aM rec) 1:=na (by omega)
 have e2:gc (((eK (dN 3 (aM rec))).getD 2 []).getD 0 (.i 0))=cU (aM rec) 2:=na (by omega)
 refine sb Tryz.func194 rfl (sq (rT [1,2,4] (s3 (sq (rT [2,4,6,7] (s1 (xp (ag rec (by omega)) (ai rfl ?_))))))))
 refine s5 (sq (sq (rT [2,4,6,7,25] (s1 (bk (sq (rT [2,4,6,7,25,26] (s2 (cd rfl (fun c26=> ?_) fun c26=> ?_)))))))))
 · refine sq (rT [2,4,8] (s1 (xp (rI (aM rec) (by omega)) (ai rfl ?_))))
   refine s1 (sq (sq (rT [2,4,8,33] (s4 (cd rfl (fun c33=> ?_) fun c33=> ?_)))))
   · refine sq (rT [4,5] (s3 (rt ?_)))
     have hr:eR k rec=(k,false):=(aC c26).trans (aC (by simpa using c33))
     refine bG rfl rfl ?_
     rw[hr]<;>rfl
   refine sk (sq (rT [4,5] (s2 (xp (om k (eZ (aM rec)) hb) (ai rfl ?_)))))
   refine s2 (rt ?_)
   have hr:eR k rec=_:=(aC c26).trans (aB (by simpa using c33))
   refine bG rfl rfl ?_
   rw[hr]<;>rfl
 refine sq (rT [2,4,6,7,25,38] (s2 (cd rfl (fun c38=> ?_) fun c38=> ?_)))
 · refine sq (rT [2,4,9,10] (s1 (xp (qI (aM rec) (by omega)) (ai rfl ?_))))
   refine s6 (sq (sq (rT [2,4,9,60] (s3 (y4 (y1 (ai pk (s1 (y4 (y1 (ai pk (cd rfl (fun c60=> ?_) fun c60=> ?_))))))))))))
   · refine sq (rT [4,5] (s3 (rt ?_)))
     have hr:eR k rec=(k,false):=(aB (bn c26)).trans ((aC c38).trans (aC c60))
     refine bG rfl rfl ?_
     rw[hr]<;>rfl
   refine sk (sq (rT [2,4,9] (s5 (sq (rT [4,5] (s2 (xp (yS {k with next:=wrap64 (k.next+1)} (dB (aM rec)).1 hb (by omega)) (ai rfl ?_))))))))
   refine s4 (rt ?_)
   have hr:eR k rec=_:=(aB (bn c26)).trans ((aC c38).trans (aB (bn c60)))
   refine bG rfl rfl ?_
   rw[hr]<;>rfl
 refine sq (rT [2,4,6,7,25,71] (s2 (cd rfl (fun c71=> ?_) fun c71=> ?_)))
 · refine sq (rT [2,4,11,12] (s1 (xp (qI (aM rec) (by omega)) (ai rfl ?_))))
   refine s6 (sq (sq (rT [2,4,11,86] (s3 (y4 (y1 (ai pk (cd rfl (fun c86=> ?_) fun c86=> ?_))))))))
   · refine sq (rT [4,5] (s3 (rt ?_)))
     have hr:eR k rec=(k,false):=(aB (bn c26)).trans ((aB (bn c38)).trans ((aC c71).trans (aC c86)))
     refine bG rfl rfl ?_
     rw[hr]<;>rfl
   refine sk (sq (rT [4,5] (s2 (xp (yS k (dB (aM rec)).1 hb (by omega)) (ai rfl ?_)))))
   refine s4 (rt ?_)
   have hr:eR k rec=_:=(aB (bn c26)).trans ((aB (bn c38)).trans ((aC c71).trans (aB (bn c86))))
   refine bG rfl rfl ?_
   rw[hr]<;>rfl
 refine sq (rT [2,4,6,7,25,93] (s2 (cd rfl (fun c93=> ?_) fun c93=> ?_)))
 · refine sq (rT [2,4,13] (s1 (xp (rI (aM rec) (by omega)) (ai rfl ?_))))
   refine s1 (sq (sq (rT [2,4,13,100] (s4 (cd rfl (fun c100=> ?_) fun c100=> ?_)))))
   · refine sq (rT [4,5] (s3 (rt ?_)))
     have hr:eR k rec=(k,false):=(aB (bn c26)).trans ((aB (bn c38)).trans ((aB (bn c71)).trans ((aC c93).trans (aC (by simpa using c100)))))
     refine bG rfl rfl ?_
     rw[hr]<;>rfl
   refine sk (sq (rT [2,4] (s3 (sq (rT [4,5] (s3 (rt ?_)))))))
   have hr:eR k rec=_:=(aB (bn c26)).trans ((aB (bn c38)).trans ((aB (bn c71)).trans ((aC c93).trans (aB (by simpa using c100)))))
   refine bG rfl rfl ?_
   rw[hr]<;>rfl
 refine SW.midW (fun q=>q=[tP 2 2,tP 4 4,tD 6 (.s (bD rec)),tD 7 (.s (aM rec)),tB 105 (bD rec==gP||bD rec==fA),oB 2 44 [.d (.i k.id),.d (.i k.time),.d (.i k.next),.d (.sl (aF k.held)),.d (.sl (aJ k.marks)),.d (.sl (aF k.inbox))],oB 4 44 [.d (.i 0),.d (.i 0),.d (.i 0),.nil,.nil,.nil]]) ?_ ?_
 · refine sq (rT [2,4,6,7,25,105] (s2 (cd rfl (fun c105=> ?_) fun c105=> ?_)))
   · refine sk (wq [] [] (rfl) ?_)
     repeat' apply ai
     all_goals first|exact qx|(refine aA D.b ?_;simp_all[gP,fA])|exact qz
   refine rT [2,4,6,7,105] (s2 (wq [] [] (rfl) ?_))
   repeat' apply ai
   all_goals first|exact qx|(refine aA D.b ?_;simp_all[gP,fA])|exact qz
 rintro s rfl
 refine cd rfl (fun c105=> ?_) fun c105=> ?_
 · refine sq (rT [2,4,6,14,15] (s1 (xp (qI (aM rec) (by omega)) (ai rfl ?_))))
   refine s6 (sq (sq (rT [2,4,6,14,134] (s3 (y4 (y2 (xc (fun h=>(gH k.held _ _ (by omega))) (ai rfl (ai rk ?_)))))))))
   refine y1 (ai pk (s1 (y4 (y2 (xc (fun h=>(gH k.inbox _ _ (by omega))) (ai rfl (ai rk ?_)))))))
   refine y1 (ai pk (cd rfl (fun c134=> ?_) fun c134=> ?_))
   · refine sq (rT [4,5] (s3 (rt ?_)))
     have hr:eR k rec=(k,false):=(aB (bn c26)).trans ((aB (bn c38)).trans ((aB (bn c71)).trans ((aB (bn c93)).trans ((aC c105).trans (aC c134)))))
     refine bG rfl rfl ?_
     rw[hr]<;>rfl
   refine sk (sq (sq (rT [2,4,14,137] (s2 (cd rfl (fun c137=> ?_) fun c137=> ?_)))))
   · refine rT [2,4] (s3 (xp (lI k.held (dB (aM rec)).1 hb.1) (ai rfl ?_)))
     refine s2 (sq (rT [4,5] (s3 (rt ?_))))
     first|have hr:eR k rec=_:=(aB (bn c26)).trans ((aB (bn c38)).trans ((aB (bn c71)).trans ((aB (bn c93)).trans ((aC c105).trans ((aB (bn c134)).trans (aC c137))))))|have hr:eR k rec=_:=(aB (bn c26)).trans ((aB (bn c38)).trans ((aB (bn c71)).trans ((aB (bn c93)).trans ((aC c105).trans ((aB (bn c134)).trans (aB (bn c137)))))))
     refine bG rfl rfl ?_
     rw[hr]<;>rfl
   refine rT [2,4] (s3 (xp (lI k.inbox (dB (aM rec)).1 hb.2.2) (ai rfl ?_)))
   refine s2 (sq (rT [4,5] (s3 (rt ?_))))
   first|have hr:eR k rec=_:=(aB (bn c26)).trans ((aB (bn c38)).trans ((aB (bn c71)).trans ((aB (bn c93)).trans ((aC c105).trans ((aB (bn c134)).trans (aC c137))))))|have hr:eR k rec=_:=(aB (bn c26)).trans ((aB (bn c38)).trans ((aB (bn c71)).trans ((aB (bn c93)).trans ((aC c105).trans ((aB (bn c134)).trans (aB (bn c137)))))))
   refine bG rfl rfl ?_
   rw[hr]<;>rfl
 refine sk (sq (rT [2,4,6,7,16,17] (s1 (xp (ah (aM rec) 3 (by omega) (by omega)) (ai rfl ?_)))))
 refine s5 (sq (sq (rD [2,4,6,16,175] (s3 (y2 (ai (fun h=>(by exact cp (l:=dN 3 (aM rec)) (by omega) (by rw[bJ];omega))) (ai rk (ai (fun h=>(by have:=gF (l:=dN 3 (aM rec)) (i:=0) (by rw[bJ];omega);rw[show((0:Int)).toNat=((0:Nat):Int).toNat from rfl,this];exact⟨aNg rfl,rfl⟩)) (ai rk (xc (fun h=>oo (cU (aM rec) 0) (eS _ _)) (ai (by exact aCt e0) (ai rk ?_))))))))))))
 refine ai (fun h=>(by have q0:=kX (eS (aM rec) 0);have q1:=kX (eS (aM rec) 1);have q2:=kX (eS (aM rec) 2);show _≤9223372036854775807;simp only[aNh,aNk,aNl];omega)) (ai rk (y1 (ai (fun h=>(by exact cp (l:=dN 3 (aM rec)) (by omega) (by rw[bJ];omega))) (ai rk (ai (fun h=>(by have:=gF (l:=dN 3 (aM rec)) (i:=1) (by rw[bJ];omega);rw[show((1:Int)).toNat=((1:Nat):Int).toNat from rfl,this];exact⟨aNg rfl,rfl⟩)) (ai rk (xc (fun h=>oo (cU (aM rec) 1) (eS _ _)) (ai (by exact aCt e1) (ai rk ?_)))))))))
 refine ai (fun h=>(by have q0:=kX (eS (aM rec) 0);have q1:=kX (eS (aM rec) 1);have q2:=kX (eS (aM rec) 2);show _≤9223372036854775807;simp only[aNh,aNk,aNl];omega)) (ai rk (ai (fun h=>(by have q0:=kX (eS (aM rec) 0);have q1:=kX (eS (aM rec) 1);have q2:=kX (eS (aM rec) 2);show _≤9223372036854775807;simp only[aNh,aNk,aNl];omega)) (ai rk (y1 (ai (fun h=>(by exact cp (l:=dN 3 (aM rec)) (by omega) (by rw[bJ];omega))) (ai rk (ai (fun h=>(by have:=gF (l:=dN 3 (aM rec)) (i:=2) (by rw[bJ];omega);rw[show((2:Int)).toNat=((2:Nat):Int).toNat from rfl,this];exact⟨aNg rfl,rfl⟩)) (ai rk (xc (fun h=>oo (cU (aM rec) 2) (eS _ _)) (ai (by exact aCt e2) (ai rk ?_)))))))))))
 refine ai (fun h=>(by have q0:=kX (eS (aM rec) 0);have q1:=kX (eS (aM rec) 1);have q2:=kX (eS (aM rec) 2);show _≤9223372036854775807;simp only[aNh,aNk,aNl];omega)) (ai rk (y1 (ai pk (ai (by kernel_rfl) (cd rfl (fun c175=> ?_) fun c175=> ?_)))))
 · refine sq (rT [4,5] (s3 (rt ?_)))
   have hr:eR k rec=(k,false):=(aB (bn c26)).trans ((aB (bn c38)).trans ((aB (bn c71)).trans ((aB (bn c93)).trans ((aB (bn c105)).trans (aC c175)))))
   refine bG rfl rfl ?_
   rw[hr]<;>rfl
 refine sk (sq (sq (rT [2,4,16,177] (s1 (bk (sq (rT [2,4,16,177,178] (s2 (cd rfl (fun c178=> ?_) fun c178=> ?_)))))))))
 · refine sq (rD [2,4,16,18] (s3 (ai (by exact cp (l:=dN 3 (aM rec)) (by omega) (by rw[bJ];omega)) (ai (by have:=gF (l:=dN 3 (aM rec)) (i:=0) (by rw[bJ];omega);rw[show((0:Int)).toNat=((0:Nat):Int).toNat from rfl,this];exact⟨aNg rfl,rfl⟩) (s1 (ai (by exact cp (l:=dN 3 (aM rec)) (by omega) (by rw[bJ];omega)) (ai (by have:=gF (l:=dN 3 (aM rec)) (i:=1) (by rw[bJ];omega);rw[show((1:Int)).toNat=((1:Nat):Int).toNat from rfl,this];exact⟨aNg rfl,rfl⟩) (xp (gH k.held (cU (aM rec) 0) (cU (aM rec) 1) (by omega)) (ai (by exact mz e0 e1) ?_)))))))))
   refine s1 (ai (by kernel_rfl) (sq (sq (rD [2,4,16,202] (s3 (y3 (ai (fun h=>(by have hp:0≤bA k.held (cU (aM rec) 0) (cU (aM rec) 1):=(by have h8:=h;simp[gb] at h8;omega);have hr:=eG k.held (cU (aM rec) 0) (cU (aM rec) 1);rw[aS (by omega)];exact⟨⟨hp,by rw[aE];omega⟩,rfl⟩)) (ai rk (y1 (ai (fun h=>(by have hp:0≤bA k.held (cU (aM rec) 0) (cU (aM rec) 1):=(by have h8:=h;simp[gb] at h8;omega);have hr:=eG k.held (cU (aM rec) 0) (cU (aM rec) 1);rw[aS (by omega)];exact⟨aNg rfl,rfl⟩)) (ai rk (y1 (ai (fun h=>(by exact cp (l:=dN 3 (aM rec)) (by omega) (by rw[bJ];omega))) (ai rk (ai (fun h=>(by have:=gF (l:=dN 3 (aM rec)) (i:=2) (by rw[bJ];omega);rw[show((2:Int)).toNat=((2:Nat):Int).toNat from rfl,this];exact⟨aNg rfl,rfl⟩)) (ai rk (y1 (ai pk (ai (by kernel_rfl) (cd rfl (fun c202=> ?_) fun c202=> ?_))))))))))))))))))))
   · have hq:=zP (y:=(k.held.getD (bA k.held (cU (aM rec) 0) (cU (aM rec) 1)).toNat .zero).til != (cU (aM rec) 2)) c202 (fun hp=>by have hr:=eG k.held (cU (aM rec) 0) (cU (aM rec) 1);rw[aS (by omega)];exact aA (fun z=>((k.held.getD (bA k.held (cU (aM rec) 0) (cU (aM rec) 1)).toNat .zero).til != z)) e2)
     refine sq (rT [4,5] (s3 (rt ?_)))
     have hr:eR k rec=(k,false):=(aB (bn c26)).trans ((aB (bn c38)).trans ((aB (bn c71)).trans ((aB (bn c93)).trans ((aB (bn c105)).trans ((aB (bn c175)).trans ((aC c178).trans (aC hq)))))))
     refine bG rfl rfl ?_
     rw[hr]<;>rfl
   have hq:=zP (y:=(k.held.getD (bA k.held (cU (aM rec) 0) (cU (aM rec) 1)).toNat .zero).til != (cU (aM rec) 2)) c202 (fun hp=>by have hr:=eG k.held (cU (aM rec) 0) (cU (aM rec) 1);rw[aS (by omega)];exact aA (fun z=>((k.held.getD (bA k.held (cU (aM rec) 0) (cU (aM rec) 1)).toNat .zero).til != z)) e2)
   refine sk (sq (rD [4,5] (s2 (ai (by exact cp (l:=dN 3 (aM rec)) (by omega) (by rw[bJ];omega)) (ai (by have:=gF (l:=dN 3 (aM rec)) (i:=0) (by rw[bJ];omega);rw[show((0:Int)).toNat=((0:Nat):Int).toNat from rfl,this];exact⟨aNg rfl,rfl⟩) (s1 (ai (by exact cp (l:=dN 3 (aM rec)) (by omega) (by rw[bJ];omega)) (ai (by have:=gF (l:=dN 3 (aM rec)) (i:=1) (by rw[bJ];omega);rw[show((1:Int)).toNat=((1:Nat):Int).toNat from rfl,this];exact⟨aNg rfl,rfl⟩) (xp (qr k (cU (aM rec) 0) (cU (aM rec) 1) hb) (ai (by exact mz e0 e1) ?_))))))))))
   refine s4 (ai (by kernel_rfl) (rt ?_))
   have hr:eR k rec=_:=(aB (bn c26)).trans ((aB (bn c38)).trans ((aB (bn c71)).trans ((aB (bn c93)).trans ((aB (bn c105)).trans ((aB (bn c175)).trans ((aC c178).trans (aB (bn hq))))))))
   refine bG rfl rfl ?_
   rw[hr]<;>rfl
 refine sq (rT [2,4,16,177,214] (s2 (cd rfl (fun c214=> ?_) fun c214=> ?_)))
 · refine sq (rD [2,4,16,19] (s3 (ai (by exact cp (l:=dN 3 (aM rec)) (by omega) (by rw[bJ];omega)) (ai (by have:=gF (l:=dN 3 (aM rec)) (i:=0) (by rw[bJ];omega);rw[show((0:Int)).toNat=((0:Nat):Int).toNat from rfl,this];exact⟨aNg rfl,rfl⟩) (s1 (ai (by exact cp (l:=dN 3 (aM rec)) (by omega) (by rw[bJ];omega)) (ai (by have:=gF (l:=dN 3 (aM rec)) (i:=1) (by rw[bJ];omega);rw[show((1:Int)).toNat=((1:Nat):Int).toNat from rfl,this];exact⟨aNg rfl,rfl⟩) (xp (gH k.inbox (cU (aM rec) 0) (cU (aM rec) 1) (by omega)) (ai (by exact mz e0 e1) ?_)))))))))
   refine s1 (ai (by kernel_rfl) (sq (sq (rD [2,4,16,238] (s3 (y3 (ai (fun h=>(by have hp:0≤bA k.inbox (cU (aM rec) 0) (cU (aM rec) 1):=(by have h8:=h;simp[gb] at h8;omega);have hr:=eG k.inbox (cU (aM rec) 0) (cU (aM rec) 1);rw[aS (by omega)];exact⟨⟨hp,by rw[aE];omega⟩,rfl⟩)) (ai rk (y1 (ai (fun h=>(by have hp:0≤bA k.inbox (cU (aM rec) 0) (cU (aM rec) 1):=(by have h8:=h;simp[gb] at h8;omega);have hr:=eG k.inbox (cU (aM rec) 0) (cU (aM rec) 1);rw[aS (by omega)];exact⟨aNg rfl,rfl⟩)) (ai rk (y1 (ai (fun h=>(by exact cp (l:=dN 3 (aM rec)) (by omega) (by rw[bJ];omega))) (ai rk (ai (fun h=>(by have:=gF (l:=dN 3 (aM rec)) (i:=2) (by rw[bJ];omega);rw[show((2:Int)).toNat=((2:Nat):Int).toNat from rfl,this];exact⟨aNg rfl,rfl⟩)) (ai rk (y1 (ai pk (ai (by kernel_rfl) (cd rfl (fun c238=> ?_) fun c238=> ?_))))))))))))))))))))
   · have hq:=zP (y:=(k.inbox.getD (bA k.inbox (cU (aM rec) 0) (cU (aM rec) 1)).toNat .zero).til != (cU (aM rec) 2)) c238 (fun hp=>by have hr:=eG k.inbox (cU (aM rec) 0) (cU (aM rec) 1);rw[aS (by omega)];exact aA (fun z=>((k.inbox.getD (bA k.inbox (cU (aM rec) 0) (cU (aM rec) 1)).toNat .zero).til != z)) e2)
     refine sq (rT [4,5] (s3 (rt ?_)))
     have hr:eR k rec=(k,false):=(aB (bn c26)).trans ((aB (bn c38)).trans ((aB (bn c71)).trans ((aB (bn c93)).trans ((aB (bn c105)).trans ((aB (bn c175)).trans ((aB (bn c178)).trans ((aC c214).trans (aC hq))))))))
     refine bG rfl rfl ?_
     rw[hr]<;>rfl
   have hq:=zP (y:=(k.inbox.getD (bA k.inbox (cU (aM rec) 0) (cU (aM rec) 1)).toNat .zero).til != (cU (aM rec) 2)) c238 (fun hp=>by have hr:=eG k.inbox (cU (aM rec) 0) (cU (aM rec) 1);rw[aS (by omega)];exact aA (fun z=>((k.inbox.getD (bA k.inbox (cU (aM rec) 0) (cU (aM rec) 1)).toNat .zero).til != z)) e2)
   refine sk (sq (rD [4,5] (s2 (ai (by exact cp (l:=dN 3 (aM rec)) (by omega) (by rw[bJ];omega)) (ai (by have:=gF (l:=dN 3 (aM rec)) (i:=0) (by rw[bJ];omega);rw[show((0:Int)).toNat=((0:Nat):Int).toNat from rfl,this];exact⟨aNg rfl,rfl⟩) (s1 (ai (by exact cp (l:=dN 3 (aM rec)) (by omega) (by rw[bJ];omega)) (ai (by have:=gF (l:=dN 3 (aM rec)) (i:=1) (by rw[bJ];omega);rw[show((1:Int)).toNat=((1:Nat):Int).toNat from rfl,this];exact⟨aNg rfl,rfl⟩) (xp (qt k (cU (aM rec) 0) (cU (aM rec) 1) hb) (ai (by exact mz e0 e1) ?_))))))))))
   refine s4 (ai (by kernel_rfl) (rt ?_))
   have hr:eR k rec=_:=(aB (bn c26)).trans ((aB (bn c38)).trans ((aB (bn c71)).trans ((aB (bn c93)).trans ((aB (bn c105)).trans ((aB (bn c175)).trans ((aB (bn c178)).trans ((aC c214).trans (aB (bn hq)))))))))
   refine bG rfl rfl ?_
   rw[hr]<;>rfl
 refine sq (rT [2,4,16,250] (s2 (cd rfl (fun c250=> ?_) fun c250=> ?_)))
 · refine sq (sq (rD [2,4,16,261] (s3 (ai (by exact cp (l:=dN 3 (aM rec)) (by omega) (by rw[bJ];omega)) (ai (by have:=gF (l:=dN 3 (aM rec)) (i:=0) (by rw[bJ];omega);rw[show((0:Int)).toNat=((0:Nat):Int).toNat from rfl,this];exact⟨aNg rfl,rfl⟩) (s1 (ai (by exact cp (l:=dN 3 (aM rec)) (by omega) (by rw[bJ];omega)) (ai (by have:=gF (l:=dN 3 (aM rec)) (i:=1) (by rw[bJ];omega);rw[show((1:Int)).toNat=((1:Nat):Int).toNat from rfl,this];exact⟨aNg rfl,rfl⟩) (xp (oN k.marks (cU (aM rec) 0) (cU (aM rec) 1) (by omega)) (ai (by exact mz e0 e1) ?_))))))))))
   refine s1 (ai (by kernel_rfl) (cd rfl (fun c261=> ?_) fun c261=> ?_))
   · refine sq (rT [4,5] (s3 (rt ?_)))
     have hr:eR k rec=(k,false):=(aB (bn c26)).trans ((aB (bn c38)).trans ((aB (bn c71)).trans ((aB (bn c93)).trans ((aB (bn c105)).trans ((aB (bn c175)).trans ((aB (bn c178)).trans ((aB (bn c214)).trans ((aC c250).trans (aC (of_decide_eq_true c261))))))))))
     refine bG rfl rfl ?_
     rw[hr]<;>rfl
   refine sk (sq (rD [2,4] (s3 (ai (by exact cp (l:=dN 3 (aM rec)) (by omega) (by rw[bJ];omega)) (ai (by have:=gF (l:=dN 3 (aM rec)) (i:=0) (by rw[bJ];omega);rw[show((0:Int)).toNat=((0:Nat):Int).toNat from rfl,this];exact⟨aNg rfl,rfl⟩) (s1 (ai (by exact cp (l:=dN 3 (aM rec)) (by omega) (by rw[bJ];omega)) (ai (by have:=gF (l:=dN 3 (aM rec)) (i:=1) (by rw[bJ];omega);rw[show((1:Int)).toNat=((1:Nat):Int).toNat from rfl,this];exact⟨aNg rfl,rfl⟩) (s1 (ai (by exact cp (l:=dN 3 (aM rec)) (by omega) (by rw[bJ];omega)) (ai (by have:=gF (l:=dN 3 (aM rec)) (i:=2) (by rw[bJ];omega);rw[show((2:Int)).toNat=((2:Nat):Int).toNat from rfl,this];exact⟨aNg rfl,rfl⟩) (s1 (xp (oP k.marks ⟨(cU (aM rec) 0),(cU (aM rec) 1),(cU (aM rec) 2)⟩ hb.2.1) (ai (by exact aF7 e0 e1 e2) ?_))))))))))))))
   refine s2 (ai (by kernel_rfl) (sq (rT [4,5] (s3 (rt ?_)))))
   have hr:eR k rec=_:=(aB (bn c26)).trans ((aB (bn c38)).trans ((aB (bn c71)).trans ((aB (bn c93)).trans ((aB (bn c105)).trans ((aB (bn c175)).trans ((aB (bn c178)).trans ((aB (bn c214)).trans ((aC c250).trans (aB (of_decide_eq_false c261))))))))))
   refine bG rfl rfl ?_
   rw[hr]<;>rfl
 refine sk (sq (rT [4,5] (s3 (rt ?_))))
 have hr:eR k rec=(k,false):=(aB (bn c26)).trans ((aB (bn c38)).trans ((aB (bn c71)).trans ((aB (bn c93)).trans ((aB (bn c105)).trans ((aB (bn c175)).trans ((aB (bn c178)).trans ((aB (bn c214)).trans (aB (bn c250)))))))))
 refine bG rfl rfl ?_
 rw[hr]<;>rfl
theorem ig (id:Int):Sp 184 1 [tI 0 id] [tV 0 ((cE id).V)]:=by
 refine sb Tryz.func184 rfl (sq (rT [0,2] (s1 (sq (sq (rT [0,2,5] (s1 (xp (fQ _) (ai rfl ?_)))))))))
 refine s1 (cd rfl (fun c5=> ?_) fun c5=> ?_)
 · have hr:cE id= .zero:=aB (by simpa using c5)
   refine sq (rT [2] (s2 (rt ?_)))
   rw[hr]
   exact rq [] [] rfl qz
 have hr:cE id=⟨id,0,1,[],[],[]⟩:=aC (by simpa using c5)
 refine sk (sq (rT [2] (s3 (rt ?_))))
 rw[hr]
 exact rq [] [] rfl qz
theorem al (k:bH) (rec:List UInt8) (hk:KB k) (hr:rec.length≤900000):Sp 149 2 [tV 0 k.V,tD 1 (.s rec)] [tV 0 (.tup [.agg [.d (.i ((nH k rec).1).id),.d (.i ((nH k rec).1).time),.d (.i ((nH k rec).1).next),.d (.sl (aF ((nH k rec).1).held)),.d (.sl (aJ ((nH k rec).1).marks)),.d (.sl (aF ((nH k rec).1).inbox))],.c (.d (.b (nH k rec).2))])]:=by
 refine sb Tryz.func149 rfl (sq (rT [1,2,4] (s3 (sq (sq (rT [1,2,4,10] (s1 (xp (tY k hk.1 hk.2.1 hk.2.2) (ai rfl ?_)))))))))
 refine s1 (cd rfl (fun c10=> ?_) fun c10=> ?_)
 · refine sq (rT [4,5] (s3 (rt ?_)))
   have hr:nH k rec=(.zero,false):=aB (by simpa using c10)
   rw[hr]
   exact rq [] [] rfl qz
 have hok:dG k=true:=by simpa using c10
 refine sk (sq (rT [2,4,6,7] (s1 (xp (sM k (by have:=hk.1;omega)) (ai rfl ?_)))))
 refine s1 (xp (qu k rec hk.1 hr) (ai rfl ?_))
 refine s6 (sq (sq (rT [2,4,6,25] (s3 (y1 (xc (fun h=>tY (eR k rec).1 (zQ (cV hok) (by omega)).big.1 (zQ (cV hok) (by omega)).2.1 (zQ (cV hok) (by omega)).2.2) (ai rfl (ai rk ?_))))))))
 refine y1 (ai pk (cd rfl (fun c25=> ?_) fun c25=> ?_))
 · refine sq (rT [4,5] (s1 (xp (sM k (by have:=hk.1;omega)) (ai rfl ?_))))
   refine s2 (rt ?_)
   have hr:nH k rec=(k,false):=(aC hok).trans (aB (by intro h;rw[aNi] at h;rw[h.1,h.2] at c25;cases c25))
   rw[hr]
   exact rq [] [] rfl qz
 refine sk (sq (rT [4,5] (s1 (xp (sM (eR k rec).1 (by have:=(zQ (cV hok) (show rec.length≤1000000 by omega)).1;omega)) (ai rfl ?_)))))
 refine s2 (rt ?_)
 have hr:nH k rec=((eR k rec).1,true):=(aC hok).trans (aC (by simpa using c25))
 rw[hr]
 exact rq [] [] rfl qz
theorem aGh (k:bH) (rec:List UInt8) (hk:KB k) (hr:rec.length≤900000):Ab.Spec Tryz.prog 149 2 [(.t 0,.v (k.V)),(.t 1,.v (Dv (.s rec)))] [(.t 0,.v (.tup [.agg [.d (.i ((cR k rec).1).id),.d (.i ((cR k rec).1).time),.d (.i ((cR k rec).1).next),.d (.sl (aF ((cR k rec).1).held)),.d (.sl (aJ ((cR k rec).1).marks)),.d (.sl (aF ((cR k rec).1).inbox))],.c (.d (.b (cR k rec).2))]))]:=gr k rec▸al k rec hk hr
theorem am (id:Int) (l:List (List UInt8)) (hl:l.length≤900000) (hx: ∀x∈l,x.length≤900000):Sp 133 2 [tI 0 id,tD 1 (.sl (bT l))] [tV 0 (.tup [.agg [.d (.i ((cX id l).1).id),.d (.i ((cX id l).1).time),.d (.i ((cX id l).1).next),.d (.sl (aF ((cX id l).1).held)),.d (.sl (aJ ((cX id l).1).marks)),.d (.sl (aF ((cX id l).1).inbox))],.c (.d (.b (cX id l).2))])]:=by
 refine sb Tryz.func133 rfl (sq (rT [0,1,4] (s2 (sq (rT [0,1,4,6] (s1 (xp (ig id) (ai rfl ?_))))))))
 refine s2 (sq (sq (rT [1,4,6,14] (s1 (xp (fQ _) (ai rfl ?_))))))
 refine s1 (cd rfl (fun c14=> ?_) fun c14=> ?_)
 · refine sq (rT [4,5] (s3 (rt ?_)))
   have hr:cX id l=(.zero,false):=aB (by simpa using c14)
   have hz:cE id= .zero:=aB (by simpa using c14)
   rw[hr,hz]
   exact rq [] [] rfl qz
 have hnode:eP id=true:=by simpa using c14
 refine sk (sq (sq (rT [1,4,6,7] (s1 (bk (SW.loopW (n:=l.length) (fun m s=> ∃(i:Nat) (q:bH),m=l.length - i∧i≤l.length∧K6 q∧lN (cE id) l=lN q (l.drop i)∧s=[tD 1 (.sl (bT l)),tP 4 4,tP 6 6,tI 7 (i:Nat),oB 4 44 [.d (.i 0),.d (.i 0),.d (.i 0),.nil,.nil,.nil],oB 6 44 [.d (.i (q).id),.d (.i (q).time),.d (.i (q).next),.d (.sl (aF (q).held)),.d (.sl (aJ (q).marks)),.d (.sl (aF (q).inbox))]]) ?_ ?_))))))
 · refine wq (σ':=[tD 1 (.sl (bT l)),tP 4 4,tP 6 6,tI 7 (0:Nat),oB 4 44 [.d (.i 0),.d (.i 0),.d (.i 0),.nil,.nil,.nil],oB 6 44 [.d (.i (cE id).id),.d (.i (cE id).time),.d (.i (cE id).next),.d (.sl (aF (cE id).held)),.d (.sl (aJ (cE id).marks)),.d (.sl (aF (cE id).inbox))]]) [] [] (⟨0,cE id,rfl,aNj _,wD id,rfl,rfl⟩) ?_
   repeat' apply ai
   all_goals first|exact qx|rfl|(rw[aL];done)|exact qz
 rintro n s ⟨i,q,rfl,hi,hq,hgo,rfl⟩
 refine sq (sq (rT [1,4,6,7,19] (s4 (cd rfl (fun c19=> ?_) fun c19=> ?_))))
 · have hi2:i<l.length:=by simpa[aL] using c19
   have hg:=gB (l:=l) hi2
   have hmem:l.getD i []∈l:=dO hi2
   have es:wt (((bT l).getD (i:Int).toNat []).getD 0 (.i 0))=l.getD i []:=by rw[aNf,hg];rfl
   refine sk (sq (bk (sq (rD [1,4,6,7,8,9] (s3 (ai (by rw[aNf,hg];exact⟨⟨by omega,by rw[aL];omega⟩,rfl⟩) (ai (by rw[aNf,hg];exact⟨aNg rfl,rfl⟩) (xp (aGh q (l.getD i []) hq.seven.big (hx _ hmem)) (ai (by exact aNb es) ?_)))))))))
   refine s6 (ai (by kernel_rfl) (sq (sq (rT [1,4,6,7,8,32] (s2 (cd rfl (fun c32=> ?_) fun c32=> ?_))))))
   · have hno: (cR q (l.getD i [])).2=false:=by simpa using c32
     rw[List.drop_eq_getElem_cons hi2,lN,show l[i]=l.getD i [] by rw[aNm,aNo hi2];rfl,hno] at hgo
     refine sq (rT [4,5] (s3 (rt ?_)))
     have hr:cX id l=(.zero,false):=(aC hnode).trans (hgo.trans (aB (by simp)))
     rw[hr]
     exact rq [] [] rfl qz
   have hno: (cR q (l.getD i [])).2=true:=by simpa using c32
   rw[List.drop_eq_getElem_cons hi2,lN,show l[i]=l.getD i [] by rw[aNm,aNo hi2];rfl,aC hno] at hgo
   refine sk (rT [1,4,6,7] (s2 (rT [1,4,6,7] (s3 (wq [] [] (⟨l.length - (i+1),by omega,i+1,(cR q (l.getD i [])).1,rfl,by omega,gq,hgo,rfl⟩) ?_)))))
   repeat' apply ai
   all_goals first|exact qx|exact aA D.i (aH (by omega))|exact qz
 have hi3:i=l.length:=by simp[aL] at c19;omega
 subst hi3
 refine xt (sq (rT [4,5] (s3 (rt ?_))))
 have hr:cX id l=(q,true):=(aC hnode).trans (hgo.trans (by rw[List.drop_length];rfl))
 rw[hr]
 exact rq [] [] rfl qz
theorem jS (s:List UInt8) (hl:s.length≤1000000):Sp 49 1 [tD 0 (.s s)] [tV 0 (.tup [.c (.d (.sl (bT (bR s).1))),.c (.d (.i ((bR s).2:Nat)))])]:=by
 refine Spec.told (rl:=[]) (bor:=[0]) (ib s hl) ?_ rfl rfl
 refine qs ?_
 repeat' first|exact qx|apply ai
 all_goals first|rfl|exact aL _
theorem fI (s:List UInt8) (hl:s.length≤1000000):Sp 132 1 [tD 0 (.s s)] [tV 0 (.tup [.c (.d (.sl (bT (bR s).1))),.c (.d (.i ((bR s).2:Nat)))])]:=by
 refine Spec.told (rl:=[]) (bor:=[0]) (ia s hl) ?_ rfl rfl
 refine qs ?_
 repeat' first|exact qx|apply ai
 all_goals first|rfl|exact aL _
theorem lU (l:List UInt8) (f:Int) (hl:l.length≤140737488355328):Sp 118 1 [tV 0 (.e (.agg [.d (.s l),.d (.i f)]))] [tB 0 (cO l f)]:=by
 refine sb Tryz.func118 rfl (sq (rT [1] (s2 (sq (sq (rT [1,19] (s5 (y4 (y1 (xc (fun h=>(eN _ _ _)) (ai rfl (ai rk ?_))))))))))))
 refine y1 (ai pk (cd rfl (fun c19=> ?_) fun c19=> ?_))
 · refine sq (rT [2] (s1 (rt (aT rfl (aA D.b ?_)))))
   exact(nj c19).symm
 obtain⟨⟨h1,h2,h3⟩,hs⟩:=jw c19
 refine sk (sq (rT [1,4] (s2 (xp (jS l (by omega)) (ai rfl ?_)))))
 refine s5 (sq (rT [1,4,6] (s4 (ai (by exact⟨by simp,by simpa using h2,by simpa using h3⟩) (xp (jS (l.take f.toNat) (by rw[aNn];omega)) (ai rfl ?_))))))
 refine s5 (sq (rT [2] (s6 (y4 (ai pk (s1 (rt (aT rfl (aA D.b ?_)))))))))
 exact hs.symm
theorem lV (l:List UInt8) (f:Int) (hl:l.length≤140737488355328):Sp 131 1 [tV 0 (.e (.agg [.d (.s l),.d (.i f)]))] [tB 0 (cO l f)]:=by
 refine sb Tryz.func131 rfl (sq (rT [1] (s2 (sq (sq (rT [1,19] (s5 (y4 (y1 (xc (fun h=>(fH _ _ _)) (ai rfl (ai rk ?_))))))))))))
 refine y1 (ai pk (cd rfl (fun c19=> ?_) fun c19=> ?_))
 · refine sq (rT [2] (s1 (rt (aT rfl (aA D.b ?_)))))
   exact(nj c19).symm
 obtain⟨⟨h1,h2,h3⟩,hs⟩:=jw c19
 refine sk (sq (rT [1,4] (s2 (xp (fI l (by omega)) (ai rfl ?_)))))
 refine s5 (sq (rT [1,4,6] (s4 (ai (by exact⟨by simp,by simpa using h2,by simpa using h3⟩) (xp (fI (l.take f.toNat) (by rw[aNn];omega)) (ai rfl ?_))))))
 refine s5 (sq (rT [2] (s6 (y4 (ai pk (s1 (rt (aT rfl (aA D.b ?_)))))))))
 exact hs.symm
theorem oQ (id:Int) (s:List UInt8) (hl:s.length≤900000):Sp 77 2 [tI 0 id,tD 1 (.s s)] [tV 0 (.tup [.agg [.d (.i ((cX id (bR s).1).1).id),.d (.i ((cX id (bR s).1).1).time),.d (.i ((cX id (bR s).1).1).next),.d (.sl (aF ((cX id (bR s).1).1).held)),.d (.sl (aJ ((cX id (bR s).1).1).marks)),.d (.sl (aF ((cX id (bR s).1).1).inbox))],.c (.d (.b (cX id (bR s).1).2))])]:=by
 refine sb Tryz.func77 rfl (sq (rT [0,1,4] (s2 (sq (rT [0,4,6] (s1 (xp (jS s (by omega)) (ai rfl ?_))))))))
 refine s5 (sq (rT [4,5] (s2 (xp (qq id (bR s).1 (lP s hl).1 (lP s hl).2) (ai rfl ?_)))))
 exact s4 (rt (bG rfl rfl rfl))
theorem jX (k:aN) (hl:k.log.length≤900000):Sp 76 1 [tV 0 k.V] [tV 0 (.tup [.agg [.d (.i ((bY k).1).id),.d (.i ((bY k).1).time),.d (.i ((bY k).1).next),.d (.sl (aF ((bY k).1).held)),.d (.sl (aJ ((bY k).1).marks)),.d (.sl (aF ((bY k).1).inbox))],.c (.d (.b (bY k).2))])]:=by
 refine sb Tryz.func76 rfl (sq (rT [1,2] (s3 (sq (rT [1,2,4] (s3 (xp (fI k.log (by omega)) (ai rfl ?_))))))))
 refine s5 (sq (rT [2,3] (s3 (xp (am k.id (bR k.log).1 (lP k.log hl).1 (lP k.log hl).2) (ai rfl ?_)))))
 exact s4 (rt (bG rfl rfl rfl))
theorem zh (b n:Int):Sp 156 2 [tI 0 b,tI 1 n] [tB 0 (aH8 b n)]:=by
 refine sb Tryz.func156 rfl (sq (rT [0,1] (s1 (sq (rT [4] (s1 (xp (fH _ _ _) (ai rfl ?_))))))))
 refine s1 (y1 (xc (fun h=>(fH _ _ _)) (ai rfl (ai rk ?_))))
 refine ai pk (s1 (rt (aT rfl ?_)))
 rfl
theorem kq (n:Int) (hn:0≤n∧n≤140737488355328):Sp 157 1 [tI 0 n] [tI 0 ((n+3) / 4)]:=by
 refine sb Tryz.func157 rfl (sq (rT [0] (s1 (sq (rT [2] (s3 (ai (by decide) (s1 (rt (aT rfl (aA D.i ?_)))))))))))
 rw[aH (n:=n+4) (by omega),aH (n:=n+4 - 1) (by omega),Int.tdiv_eq_ediv_of_nonneg (by omega),aH (by omega)]
 omega
theorem oq (b:Int) (m:eO):Sp 185 2 [tI 0 b,tV 1 m.V] [tB 0 (aH8 b m.num&&decide ((m.data.length:Int)=4))]:=by
 refine sb Tryz.func185 rfl (sq (rT [0,3] (s2 (sq (rT [4] (s3 (xp (zh _ _) (ai rfl ?_))))))))
 refine s1 (y4 (ai pk (s1 (rt (aT rfl (aA D.b ?_))))))
 show(_&&_)=_
 congr 1
theorem qv (h:bV):Sp 119 1 [tV 0 h.V] [tB 0 (lO h)]:=by
 refine sb Tryz.func119 rfl (sq (rT [1] (s2 (sq (sq (rT [1,40] (s2 (xp (fN _) (ai rfl ?_)))))))))
 refine s2 (y2 (xc (fun h=>(fN _)) (ai rfl (ai rk ?_))))
 refine y1 (ai pk (s1 (y2 (xc (fun h=>(eN _ _ _)) (ai rfl (ai rk ?_))))))
 refine y1 (ai pk (s1 (y2 (xc (fun h=>(eN _ _ _)) (ai rfl (ai rk ?_))))))
 refine y1 (ai pk (s1 (y2 (xc (fun h=>(eN _ _ _)) (ai rfl (ai rk ?_))))))
 refine y1 (ai pk (s1 (y4 (ai pk (cd rfl (fun c40=> ?_) fun c40=> ?_)))))
 · have hh:=dn c40
   refine sq (rT [2] (s1 (rt (aT rfl (aA D.b ?_)))))
   rw[lO,hh];rfl
 have hh:=dn c40
 obtain⟨p1,p2,p3,p4,p5,p6⟩:=sF hh
 refine sk (sq (sq (rT [1,42,43,44] (s4 (bk (SW.loopW (n:=h.got.length) (fun m q=> ∃i:Nat,m=h.got.length - i∧i≤h.got.length∧(∀k,k<i→rA h.got k=true)∧q=[tP 1 1,tD 42 (.sl (bI h.got)),tI 43 (h.got.length:Nat),tI 44 (i:Nat),oB 1 138 [.d (.i (h).frm),.d (.i (h).num),.d (.i (h).to),.d (.i (h).til),.d (.i (h).size),.d (.sl (bI (h).got))]]) ?_ ?_))))))
 · refine wq (σ':=[tP 1 1,tD 42 (.sl (bI h.got)),tI 43 (h.got.length:Nat),tI 44 (0:Nat),oB 1 138 [.d (.i (h).frm),.d (.i (h).num),.d (.i (h).to),.d (.i (h).til),.d (.i (h).size),.d (.sl (bI (h).got))]]) [] [] (⟨0,rfl,aNj _,fun k h=>absurd h (by omega),rfl⟩) ?_
   repeat' apply ai
   all_goals first|exact qx|rfl|(rw[aW];done)|exact qz
 rintro n s ⟨i,rfl,hi,hk,rfl⟩
 refine sq (rT [1,42,43,44,45] (s1 (sq (cd rfl (fun c45=> ?_) fun c45=> ?_))))
 · have hi2:i<h.got.length:=by simpa using c45
   have hg:=fB (l:=h.got) hi2
   refine sk (sq (bk (sq (rT [1,3,4,42,43,44] (s1 (ai (by rw[aNf,hg];exact⟨⟨by omega,by rw[aW];omega⟩,rfl⟩) (ai (by rw[aNf,hg];exact⟨aNg rfl,rfl⟩) (s3 (sq (sq (wa [tP 1 1,tI 3 (i:Nat),tP 4 4,tD 42 (.sl (bI h.got)),tI 43 (h.got.length:Nat),tI 44 (i:Nat),oB 1 138 [.d (.i (h).frm),.d (.i (h).num),.d (.i (h).to),.d (.i (h).til),.d (.i (h).size),.d (.sl (bI (h).got))],oB 4 86 [.d (.i (h.got.getD i .zero).num),.d (.s (h.got.getD i .zero).data)]] [] [] ?_ ?_)))))))))))
   · repeat' apply ai
     all_goals first|exact qx|(rw[aNf,hg];rfl)|exact qz
   refine rT [1,3,4,42,43,44,58] (s2 (xp (eN _ _ _) (ai rfl ?_)))
   refine s2 (y4 (ai pk (cd rfl (fun c58=> ?_) fun c58=> ?_)))
   · have hm:zY (h.got.getD i .zero)=false:=by
      unfold zY
      rw[← Bool.not_eq_true',Bool.not_and]
      exact mixC c58
     have hs:=ju hm
     refine sq (rT [2] (s1 (rt (aT rfl (aA D.b ?_)))))
     rw[lO,hh,Bool.not_false,Bool.true_and,eC hi2 hs]
   have hm:zY (h.got.getD i .zero)=true:=aNc c58
   refine sk (sq (rT [1,4,42,43,44,62,63,64] (s3 (ai (by exact⟨by rw[aW];exact⟨by first|(simp;done)|(simp;omega),by first|(simp;done)|(simp;omega),by first|(simp;done)|(simp;omega)⟩,qZ _⟩) (s2 (bk (SW.loopW (n:=i) (fun m q=> ∃j:Nat,m=i - j∧j≤i∧(∀k,k<j→((h.got.getD k .zero).num==(h.got.getD i .zero).num)=false)∧q=[tP 1 1,tP 4 4,tD 42 (.sl (bI h.got)),tI 43 (h.got.length:Nat),tI 44 (i:Nat),tD 62 (.sl ((bI h.got).take i)),tI 63 (i:Nat),tI 64 (j:Nat),oB 1 138 [.d (.i (h).frm),.d (.i (h).num),.d (.i (h).to),.d (.i (h).til),.d (.i (h).size),.d (.sl (bI (h).got))],oB 4 86 [.d (.i (h.got.getD i .zero).num),.d (.s (h.got.getD i .zero).data)]]) ?_ ?_)))))))
   · refine wq (σ':=[tP 1 1,tP 4 4,tD 42 (.sl (bI h.got)),tI 43 (h.got.length:Nat),tI 44 (i:Nat),tD 62 (.sl ((bI h.got).take i)),tI 63 (i:Nat),tI 64 (0:Nat),oB 1 138 [.d (.i (h).frm),.d (.i (h).num),.d (.i (h).to),.d (.i (h).til),.d (.i (h).size),.d (.sl (bI (h).got))],oB 4 86 [.d (.i (h.got.getD i .zero).num),.d (.s (h.got.getD i .zero).data)]]) [] [] (⟨0,rfl,aNj _,fun k h=>absurd h (by omega),rfl⟩) ?_
     repeat' apply ai
     all_goals first|exact qx|rfl|(rw[bc];done)|(rw[bc,aNn,aW];refine aA D.i ?_;omega)|exact qz
   rintro n s ⟨j,rfl,hj,hkj,rfl⟩
   refine sq (rT [1,4,42,43,44,62,63,64,65] (s1 (sq (cd rfl (fun c65=> ?_) fun c65=> ?_))))
   · have hj2:j<i:=by simpa using c65
     have hg2: ((bI h.got).take i).getD j []=(h.got.getD j .zero).row:=by rw[tg hj2,fB (by omega)]
     refine sk (sq (bk (sq (rT [1,4,6,42,43,44,62,63,64] (ai (by rw[aNf,hg2];exact⟨⟨by omega,by rw[aNn,aW];omega⟩,rfl⟩) (ai (by rw[aNf,hg2];exact⟨aNg rfl,rfl⟩) (s2 (sq (rT [1,4,42,43,44,62,63,64,72] (s5 (cd rfl (fun c72=> ?_) fun c72=> ?_)))))))))))
     · have hq: ((h.got.getD j .zero).num==(h.got.getD i .zero).num)=true:=by
        have h9:=c72
        rw[aNf,hg2] at h9
        exact h9
       have hs:=ni hj2 hq
       refine sq (rT [2] (s1 (rt (aT rfl (aA D.b ?_)))))
       rw[lO,hh,Bool.not_false,Bool.true_and,eC hi2 hs]
     refine sk (rT [1,4,42,43,44,62,63,64] (s2 ?_))
     have hq: ((h.got.getD j .zero).num==(h.got.getD i .zero).num)=false:=by
      have h9:=c72
      rw[aNf,hg2] at h9
      exact h9
     refine wq [] [] (⟨i - (j+1),by omega,j+1,rfl,by omega,fun k h=>by by_cases e:k=j;exact e▸hq;exact hkj k (by omega),rfl⟩) ?_
     repeat' apply ai
     all_goals first|exact qx|exact aA D.i (aH (by omega))|exact qz
   have hj3:j=i:=by simp at c65;omega
   subst hj3
   have hs:=jt hm hkj
   refine xt (rT [1,42,43,44] (s2 (wq [] [] (⟨h.got.length - (j+1),by omega,j+1,rfl,by omega,fun k h=>by by_cases e:k=j;exact e▸hs;exact hk k (by omega),rfl⟩) ?_)))
   repeat' apply ai
   all_goals first|exact qx|exact aA D.i (aH (by omega))|exact qz
 have hi3:i=h.got.length:=by simp at c45;omega
 refine xt (sq (rT [2] (s1 (rt (aT rfl (aA D.b ?_))))))
 rw[lO,hh,Bool.not_false,Bool.true_and]
 subst hi3
 exact(gC hk).symm
theorem ii (h:bV):Sp 134 1 [tV 0 h.V] [tB 0 (lO h)]:=by
 refine sb Tryz.func134 rfl (sq (rT [1] (s2 (sq (sq (rT [1,38] (s2 (xp (fQ _) (ai rfl ?_)))))))))
 refine s2 (y2 (xc (fun h=>(fQ _)) (ai rfl (ai rk ?_))))
 refine y1 (ai pk (s1 (y2 (xc (fun h=>(fH _ _ _)) (ai rfl (ai rk ?_))))))
 refine y1 (ai pk (s1 (y2 (xc (fun h=>(fH _ _ _)) (ai rfl (ai rk ?_))))))
 refine y1 (ai pk (s1 (y2 (xc (fun h=>(fH _ _ _)) (ai rfl (ai rk ?_))))))
 refine y1 (ai pk (s1 (y4 (ai pk (cd rfl (fun c38=> ?_) fun c38=> ?_)))))
 · have hh:=dn c38
   refine sq (rT [2] (s1 (rt (aT rfl (aA D.b ?_)))))
   rw[lO,hh];rfl
 have hh:=dn c38
 obtain⟨p1,p2,p3,p4,p5,p6⟩:=sF hh
 have hb1:mR ((h.size+3) / 4) 1 6=true:=by simp only[mR,aNi,aD];omega
 refine sk (sq (sq (rT [1,3] (s1 (bk (SW.loopW (n:=h.got.length) (fun m q=> ∃i:Nat,m=h.got.length - i∧i≤h.got.length∧(∀k,k<i→rA h.got k=true)∧q=[tP 1 1,tI 3 (i:Nat),oB 1 138 [.d (.i (h).frm),.d (.i (h).num),.d (.i (h).to),.d (.i (h).til),.d (.i (h).size),.d (.sl (bI (h).got))]]) ?_ ?_))))))
 · exact wq (σ':=[tP 1 1,tI 3 (0:Nat),oB 1 138 [.d (.i (h).frm),.d (.i (h).num),.d (.i (h).to),.d (.i (h).til),.d (.i (h).size),.d (.sl (bI (h).got))]]) [] [] (⟨0,rfl,aNj _,fun k h=>absurd h (by omega),rfl⟩) qz
 rintro n s ⟨i,rfl,hi,hk,rfl⟩
 refine sq (sq (rT [1,3,43] (s5 (cd rfl (fun c43=> ?_) fun c43=> ?_))))
 · have hi2:i<h.got.length:=by simpa[aW] using c43
   have hg:=fB (l:=h.got) hi2
   refine sk (sq (bk (sq (sq (rD [1,3,55] (s2 (xp (kq h.size (by omega)) (ai rfl ?_))))))))
   refine s3 (ai (by rw[aNf,hg];exact⟨⟨by omega,by rw[aW];omega⟩,rfl⟩) (ai (by rw[aNf,hg];exact⟨aNg rfl,rfl⟩) (xp (oq ((h.size+3) / 4) (h.got.getD i .zero)) (ai (by rw[aNf,hg];rfl) ?_))))
   refine s1 (ai (by kernel_rfl) (cd rfl (fun c55=> ?_) fun c55=> ?_))
   · have hm:zY (h.got.getD i .zero)=false:=by
      have h9:=c55
      rw[aH8,hb1,Bool.true_and] at h9
      simpa only[zY,Bool.not_eq_true'] using h9
     have hs:=ju hm
     refine sq (rT [2] (s1 (rt (aT rfl (aA D.b ?_)))))
     rw[lO,hh,Bool.not_false,Bool.true_and,eC hi2 hs]
   have hm:zY (h.got.getD i .zero)=true:=by
    have h9:=c55
    rw[aH8,hb1,Bool.true_and] at h9
    simpa only[zY,Bool.not_eq_false'] using h9
   refine sk (sq (rT [1,3,4] (s1 (bk (SW.loopW (n:=i) (fun m q=> ∃j:Nat,m=i - j∧j≤i∧(∀k,k<j→((h.got.getD k .zero).num==(h.got.getD i .zero).num)=false)∧q=[tP 1 1,tI 3 (i:Nat),tI 4 (j:Nat),oB 1 138 [.d (.i (h).frm),.d (.i (h).num),.d (.i (h).to),.d (.i (h).til),.d (.i (h).size),.d (.sl (bI (h).got))]]) ?_ ?_)))))
   · exact wq (σ':=[tP 1 1,tI 3 (i:Nat),tI 4 (0:Nat),oB 1 138 [.d (.i (h).frm),.d (.i (h).num),.d (.i (h).to),.d (.i (h).til),.d (.i (h).size),.d (.sl (bI (h).got))]]) [] [] (⟨0,rfl,aNj _,fun k h=>absurd h (by omega),rfl⟩) qz
   rintro n s ⟨j,rfl,hj,hkj,rfl⟩
   refine sq (sq (rT [1,3,4,58] (s3 (cd rfl (fun c58=> ?_) fun c58=> ?_))))
   · have hj2:j<i:=by simpa using c58
     have hg2:=fB (l:=h.got) (i:=j) (by omega)
     refine sk (sq (bk (sq (rD [1,3,4,73] (s3 (ai (by rw[aNf,hg2];exact⟨⟨by omega,by rw[aW];omega⟩,rfl⟩) (s1 (ai (by rw[aNf,hg2];exact⟨aNg rfl,rfl⟩) (s3 (ai (by rw[aNf,hg];exact⟨⟨by omega,by rw[aW];omega⟩,rfl⟩) (s1 (ai (by rw[aNf,hg];exact⟨aNg rfl,rfl⟩) (s1 (ai (by kernel_rfl) (cd rfl (fun c73=> ?_) fun c73=> ?_)))))))))))))))
     · have hq: ((h.got.getD j .zero).num==(h.got.getD i .zero).num)=true:=by
        have h9:=c73
        rw[aNf,aNf,hg2,hg] at h9
        exact h9
       have hs:=ni hj2 hq
       refine sq (rT [2] (s1 (rt (aT rfl (aA D.b ?_)))))
       rw[lO,hh,Bool.not_false,Bool.true_and,eC hi2 hs]
     refine sk (rT [1,3,4] (s3 ?_))
     have hq: ((h.got.getD j .zero).num==(h.got.getD i .zero).num)=false:=by
      have h9:=c73
      rw[aNf,aNf,hg2,hg] at h9
      exact h9
     refine wq [] [] (⟨i - (j+1),by omega,j+1,rfl,by omega,fun k h=>by by_cases e:k=j;exact e▸hq;exact hkj k (by omega),rfl⟩) ?_
     repeat' apply ai
     all_goals first|exact qx|exact aA D.i (aH (by omega))|exact qz
   have hj3:j=i:=by simp at c58;omega
   subst hj3
   have hs:=jt hm hkj
   refine xt (rT [1,3] (s3 (wq [] [] (⟨h.got.length - (j+1),by omega,j+1,rfl,by omega,fun k h=>by by_cases e:k=j;exact e▸hs;exact hk k (by omega),rfl⟩) ?_)))
   repeat' apply ai
   all_goals first|exact qx|exact aA D.i (aH (by omega))|exact qz
 have hi3:i=h.got.length:=by simp[aW] at c43;omega
 refine xt (sq (rT [2] (s1 (rt (aT rfl (aA D.b ?_))))))
 rw[lO,hh,Bool.not_false,Bool.true_and]
 subst hi3
 exact(gC hk).symm
theorem qw (l:List bV) (f m:Int) (hl:l.length≤1000000):Sp 120 3 [tD 0 (.sl (aY l)),tI 1 f,tI 2 m] [tI 0 (gt l f m)]:=by
 refine sb Tryz.func120 rfl (sq (rT [0,1,2] (s1 (sq (sq (rT [1,2,9,10,11] (s3 (bk (SW.loopW (n:=l.length) (fun n q=> ∃i:Nat,n=l.length - i∧i≤l.length∧(∀k,k<i→kP l f m k=false)∧q=[tI 1 f,tI 2 m,tD 9 (.sl (aY l)),tI 10 (l.length:Nat),tI 11 (i:Nat)]) ?_ ?_)))))))))
 · refine wq (σ':=[tI 1 f,tI 2 m,tD 9 (.sl (aY l)),tI 10 (l.length:Nat),tI 11 (0:Nat)]) [] [] (⟨0,rfl,aNj _,fun k h=>absurd h (by omega),rfl⟩) ?_
   repeat' apply ai
   all_goals first|exact qx|(rw[aO];done)|rfl|exact qz
 rintro n s ⟨i,rfl,hi,hk,rfl⟩
 refine sq (rT [1,2,9,10,11,12] (s1 (sq (cd rfl (fun c12=> ?_) fun c12=> ?_))))
 · have hi2:i<l.length:=by simpa using c12
   have hg:=eH (l:=l) hi2
   refine sk (sq (bk (sq (rT [1,2,7,8,9,10,11] (s1 (ai (by rw[aNf,hg];exact⟨⟨by omega,by rw[aO];omega⟩,rfl⟩) (ai (by rw[aNf,hg];exact⟨aNg rfl,rfl⟩) (s3 (sq (rT [1,2,7,9,10,11,25] (s5 (y4 (ai pk (cd rfl (fun c25=> ?_) fun c25=> ?_))))))))))))))
   · refine sq (rT [6] (s2 (rt (aT rfl (aA D.i ?_)))))
     have hs:kP l f m i=true:=by
      have h9:=c25
      rw[aNf,hg] at h9
      exact h9
     exact(lM (aNj _) (by omega) (fun j _ h=>hk j h) hs).symm
   refine sk (rT [1,2,9,10,11] (s2 ?_))
   have hs:kP l f m i=false:=by
    have h9:=c25
    rw[aNf,hg] at h9
    exact h9
   refine wq [] [] (⟨l.length - (i+1),by omega,i+1,rfl,by omega,fun k h=>by by_cases e:k=i;exact e▸hs;exact hk k (by omega),rfl⟩) ?_
   repeat' apply ai
   all_goals first|exact qx|exact aA D.i (aH (by omega))|exact qz
 have hi3:i=l.length:=by simp at c12;omega
 refine xt (sq (rT [6] (s1 (rt (aT rfl (aA D.i ?_))))))
 exact(mD (fun j _ h=>hk j (by omega))).symm
theorem cY (k:aN) (hl:k.log.length≤140737488355328):Sp 54 1 [tV 0 k.V] [tB 0 (aX k)]:=by
 refine sb Tryz.func54 rfl (sq (rT [1] (s2 (sq (sq (rT [1,35] (s2 (xp (fN _) (ai rfl ?_)))))))))
 refine s2 (y2 (xc (fun h=>(lU k.log k.forced hl)) (ai rfl (ai rk ?_))))
 refine y1 (ai pk (s1 (y4 (ai pk (s1 (y4 (y4 (ai (fun h=>pk) (ai rk (ai pk (cd rfl (fun c35=> ?_) fun c35=> ?_)))))))))))
 · have hh:=wF c35
   refine sq (rT [2] (s1 (rt (aT rfl (aA D.b ?_)))))
   exact(tS hh).symm
 have hh:=wF c35
 obtain⟨p1,p2,p3,p4⟩:=cK hh
 obtain⟨q1,q2,q3,q4⟩:=iO p2
 refine sk (sq (rT [1,4] (s5 (xp (oQ k.id k.log (by omega)) (ai rfl ?_)))))
 refine s6 (sq (rD [1,4,6] (s8 (ai (by exact⟨by simp,by simpa using q2.1,by simpa using q2.2⟩) (xp (oQ k.id (k.log.take k.forced.toNat) (by rw[aNn];omega)) (ai rfl ?_))))))
 refine s6 (ai (by kernel_rfl) (sq (sq (rT [1,63] (s3 (y2 (ai pk (cd rfl (fun c63=> ?_) fun c63=> ?_))))))))
 · have hn:=jv (k:=k) c63 (.inl ⟨rfl,rfl⟩)
   refine sq (rT [2] (s1 (rt (aT rfl (aA D.b ?_)))))
   exact hn.symm
 have hy:=dm (k:=k) hh c63 (.inl ⟨rfl,rfl⟩)
 refine sk (sq (sq (rT [1,65,66,67] (s4 (bk (SW.loopW (n:=k.halves.length) (fun m q=> ∃i:Nat,m=k.halves.length - i∧i≤k.halves.length∧(∀j,j<i→fX k.halves j=true)∧q=[tP 1 1,tD 65 (.sl (aY k.halves)),tI 66 (k.halves.length:Nat),tI 67 (i:Nat),oB 1 31 [.d (.i (k).id),.d (.b (k).up),.d (.s (k).log),.d (.i (k).forced),.d (.sl (aY (k).halves))]]) ?_ ?_))))))
 · refine wq (σ':=[tP 1 1,tD 65 (.sl (aY k.halves)),tI 66 (k.halves.length:Nat),tI 67 (0:Nat),oB 1 31 [.d (.i (k).id),.d (.b (k).up),.d (.s (k).log),.d (.i (k).forced),.d (.sl (aY (k).halves))]]) [] [] (⟨0,rfl,aNj _,fun j h=>absurd h (by omega),rfl⟩) ?_
   repeat' apply ai
   all_goals first|exact qx|rfl|(rw[aO];done)|exact qz
 rintro n s ⟨i,rfl,hi,hk,rfl⟩
 refine sq (rT [1,65,66,67,68] (s1 (sq (cd rfl (fun c68=> ?_) fun c68=> ?_))))
 · have hi2:i<k.halves.length:=by simpa using c68
   have hg:=eH (l:=k.halves) hi2
   refine sk (sq (bk (sq (rT [1,7,8,65,66,67] (s1 (ai (by rw[aNf,hg];exact⟨⟨by omega,by rw[aO];omega⟩,rfl⟩) (ai (by rw[aNf,hg];exact⟨aNg rfl,rfl⟩) (s3 (sq (wa [tP 1 1,tI 7 (i:Nat),tP 8 8,tD 65 (.sl (aY k.halves)),tI 66 (k.halves.length:Nat),tI 67 (i:Nat),oB 1 31 [.d (.i (k).id),.d (.b (k).up),.d (.s (k).log),.d (.i (k).forced),.d (.sl (aY (k).halves))],oB 8 138 [.d (.i (k.halves.getD i .zero).frm),.d (.i (k.halves.getD i .zero).num),.d (.i (k.halves.getD i .zero).to),.d (.i (k.halves.getD i .zero).til),.d (.i (k.halves.getD i .zero).size),.d (.sl (bI (k.halves.getD i .zero).got))]] [] [] ?_ ?_))))))))))
   · repeat' apply ai
     all_goals first|exact qx|(rw[aNf,hg];rfl)|exact qz
   refine rT [1,65,66,67,85] (s1 (xp (qv (k.halves.getD i .zero)) (ai rfl ?_)))
   refine s2 (y4 (y2 (xc (fun h=>(qw k.halves _ _ (by omega))) (ai rfl (ai rk ?_)))))
   refine y2 (ai pk (cd rfl (fun c85=> ?_) fun c85=> ?_))
   · refine sq (rT [2] (s1 (rt (aT rfl (aA D.b ?_)))))
     have hs:fX k.halves i=false:=dl hi2 c85
     rw[hy,eC hi2 hs]
   refine sk (rT [1,65,66,67] (s2 ?_))
   have hs:fX k.halves i=true:=dl hi2 c85
   refine wq [] [] (⟨k.halves.length - (i+1),by omega,i+1,rfl,by omega,fun j h=>by by_cases e:j=i;exact e▸hs;exact hk j (by omega),rfl⟩) ?_
   repeat' apply ai
   all_goals first|exact qx|exact aA D.i (aH (by omega))|exact qz
 have hi3:i=k.halves.length:=by simp at c68;omega
 refine xt (sq (rT [2] (s1 (rt (aT rfl (aA D.b ?_))))))
 subst hi3
 rw[hy,gC hk]
theorem gQ (k:aN) (hl:k.log.length≤140737488355328):Sp 63 1 [tV 0 k.V] [tB 0 (aX k)]:=by
 refine sb Tryz.func63 rfl (sq (rT [1] (s2 (sq (sq (rT [1,37] (s2 (xp (fQ _) (ai rfl ?_)))))))))
 refine s2 (y2 (xc (fun h=>(lV k.log k.forced hl)) (ai rfl (ai rk ?_))))
 refine y1 (ai pk (s1 (y4 (ai pk (s1 (y4 (y4 (ai (fun h=>pk) (ai rk (ai pk (cd rfl (fun c37=> ?_) fun c37=> ?_)))))))))))
 · have hh:=wF c37
   refine sq (rT [2] (s1 (rt (aT rfl (aA D.b ?_)))))
   exact(tS hh).symm
 have hh:=wF c37
 obtain⟨p1,p2,p3,p4⟩:=cK hh
 obtain⟨q1,q2,q3,q4⟩:=iO p2
 refine sk (sq (rT [1,3] (s6 (ai (by exact⟨by simp,by simpa using q2.1,by simpa using q2.2⟩) (xp (fI (k.log.take k.forced.toNat) (by rw[aNn];omega)) (ai rfl ?_))))))
 refine s5 (sq (rT [1,6] (s3 (xp (am k.id (bR (k.log.take k.forced.toNat)).1 (lP _ (by rw[aNn];omega)).1 (lP _ (by rw[aNn];omega)).2) (ai rfl ?_)))))
 refine s6 (sq (rT [1,6,8] (s1 (xp (jX k (by omega)) (ai rfl ?_)))))
 refine s6 (sq (sq (rT [1,66] (s3 (y2 (ai pk (cd rfl (fun c66=> ?_) fun c66=> ?_)))))))
 · have hn:=jv (k:=k) c66 (.inl ⟨rfl,rfl⟩)
   refine sq (rT [2] (s1 (rt (aT rfl (aA D.b ?_)))))
   exact hn.symm
 have hy:=dm (k:=k) hh c66 (.inl ⟨rfl,rfl⟩)
 refine sk (sq (sq (rT [1,9] (s1 (bk (SW.loopW (n:=k.halves.length) (fun m q=> ∃i:Nat,m=k.halves.length - i∧i≤k.halves.length∧(∀j,j<i→fX k.halves j=true)∧q=[tP 1 1,tI 9 (i:Nat),oB 1 31 [.d (.i (k).id),.d (.b (k).up),.d (.s (k).log),.d (.i (k).forced),.d (.sl (aY (k).halves))]]) ?_ ?_))))))
 · exact wq (σ':=[tP 1 1,tI 9 (0:Nat),oB 1 31 [.d (.i (k).id),.d (.b (k).up),.d (.s (k).log),.d (.i (k).forced),.d (.sl (aY (k).halves))]]) [] [] (⟨0,rfl,aNj _,fun j h=>absurd h (by omega),rfl⟩) qz
 rintro n s ⟨i,rfl,hi,hk,rfl⟩
 refine sq (sq (rT [1,9,71] (s5 (cd rfl (fun c71=> ?_) fun c71=> ?_))))
 · have hi2:i<k.halves.length:=by simpa[aO] using c71
   have hg:=eH (l:=k.halves) hi2
   refine sk (sq (bk (sq (sq (rT [1,9,80] (s3 (ai (by rw[aNf,hg];exact⟨⟨by omega,by rw[aO];omega⟩,rfl⟩) (ai (by rw[aNf,hg];exact⟨aNg rfl,rfl⟩) (xp (ii (k.halves.getD i .zero)) (ai (by rw[aNf,hg];rfl) ?_))))))))))
   refine s1 (cd rfl (fun c80=> ?_) fun c80=> ?_)
   · have hs:=vt (by simpa using c80)
     refine sq (rT [2] (s1 (rt (aT rfl (aA D.b ?_)))))
     rw[hy,eC hi2 hs]
   refine sk (sq (rT [1,9,10] (s1 (bk (SW.loopW (n:=i) (fun m q=> ∃j:Nat,m=i - j∧j≤i∧(∀k1,k1<j→kP k.halves (k.halves.getD i .zero).frm (k.halves.getD i .zero).num k1=false)∧q=[tP 1 1,tI 9 (i:Nat),tI 10 (j:Nat),oB 1 31 [.d (.i (k).id),.d (.b (k).up),.d (.s (k).log),.d (.i (k).forced),.d (.sl (aY (k).halves))]]) ?_ ?_)))))
   · exact wq (σ':=[tP 1 1,tI 9 (i:Nat),tI 10 (0:Nat),oB 1 31 [.d (.i (k).id),.d (.b (k).up),.d (.s (k).log),.d (.i (k).forced),.d (.sl (aY (k).halves))]]) [] [] (⟨0,rfl,aNj _,fun j h=>absurd h (by omega),rfl⟩) qz
   rintro n s ⟨j,rfl,hj,hkj,rfl⟩
   refine sq (sq (rT [1,9,10,83] (s3 (cd rfl (fun c83=> ?_) fun c83=> ?_))))
   · have hj2:j<i:=by simpa using c83
     have hg2:=eH (l:=k.halves) (i:=j) (by omega)
     refine sk (sq (bk (sq (rD [1,9,10,113] (s3 (ai (by rw[aNf,hg2];exact⟨⟨by omega,by rw[aO];omega⟩,rfl⟩) (s1 (ai (by rw[aNf,hg2];exact⟨aNg rfl,rfl⟩) (s3 (ai (by rw[aNf,hg];exact⟨⟨by omega,by rw[aO];omega⟩,rfl⟩) (s1 (ai (by rw[aNf,hg];exact⟨aNg rfl,rfl⟩) (s2 (y3 (ai (fun h=>(by rw[aNf,hg2];exact⟨⟨by omega,by rw[aO];omega⟩,rfl⟩)) (ai rk (y1 (ai (fun h=>(by rw[aNf,hg2];exact⟨aNg rfl,rfl⟩)) (ai rk (y3 (ai (fun h=>(by rw[aNf,hg];exact⟨⟨by omega,by rw[aO];omega⟩,rfl⟩)) (ai rk (y1 (ai (fun h=>(by rw[aNf,hg];exact⟨aNg rfl,rfl⟩)) (ai rk (y1 (ai pk (ai (by kernel_rfl) (cd rfl (fun c113=> ?_) fun c113=> ?_)))))))))))))))))))))))))))))
     · have hq:kP k.halves (k.halves.getD i .zero).frm (k.halves.getD i .zero).num j=true:=by
        have h9:=c113
        rw[aNf,aNf,hg2,hg] at h9
        exact h9
       have hs:=za hj2 hq
       refine sq (rT [2] (s1 (rt (aT rfl (aA D.b ?_)))))
       rw[hy,eC hi2 hs]
     refine sk (rT [1,9,10] (s3 ?_))
     have hq:kP k.halves (k.halves.getD i .zero).frm (k.halves.getD i .zero).num j=false:=by
      have h9:=c113
      rw[aNf,aNf,hg2,hg] at h9
      exact h9
     refine wq [] [] (⟨i - (j+1),by omega,j+1,rfl,by omega,fun m h=>by by_cases e:m=j;exact e▸hq;exact hkj m (by omega),rfl⟩) ?_
     repeat' apply ai
     all_goals first|exact qx|exact aA D.i (aH (by omega))|exact qz
   have hj3:j=i:=by simp at c83;omega
   subst hj3
   have hs:=vp (by simpa using c80) hkj
   refine xt (rT [1,9] (s3 (wq [] [] (⟨k.halves.length - (j+1),by omega,j+1,rfl,by omega,fun m h=>by by_cases e:m=j;exact e▸hs;exact hk m (by omega),rfl⟩) ?_)))
   repeat' apply ai
   all_goals first|exact qx|exact aA D.i (aH (by omega))|exact qz
 have hi3:i=k.halves.length:=by simp[aO] at c71;omega
 refine xt (sq (rT [2] (s1 (rt (aT rfl (aA D.b ?_))))))
 subst hi3
 rw[hy,gC hk]
theorem yT (m:eO):Sp 223 1 [tV 0 m.V] [tV 0 m.V]:=by
 refine sb Tryz.func223 rfl (sq (rT [1,2] (s2 (sq (rT [1,2,3] (s1 (sq (rT [1,2,3] (s4 (sq (rT [2,3] (s4 (sq (rT [2] (s2 (rt (bG rfl rfl ?_)))))))))))))))))
 rfl
theorem kr (l:List eO) (hg:l.length*24≤140737488355328):Sp 186 1 [tD 0 (.sl (bI l))] [tD 0 (.sl (bI l))]:=by
 refine sb Tryz.func186 rfl (sq (rT [0] (s1 (sq (rT [0,3] (s2 (ai (by refine⟨rfl,by omega,?_⟩;rw[aW];show((24:Nat):Int)*_≤_;omega) (s1 (sq (sq (rT [0,3,4] (s1 (bk (SW.loopW (n:=l.length) (fun m q=> ∃i:Nat,m=l.length - i∧i≤l.length∧q=[tD 0 (.sl (bI l)),tO 3 7 l.length,tI 4 (i:Nat),oR 7 86 2 (bI ((l.take i)++List.replicate (l.length - i) .zero))]) ?_ ?_))))))))))))))
 · refine wq (σ':=[tD 0 (.sl (bI l)),tO 3 7 l.length,tI 4 (0:Nat),oR 7 86 2 (bI ((l.take 0)++List.replicate (l.length - 0) .zero))]) [] [] (⟨0,rfl,aNj _,rfl⟩) ?_
   repeat' apply ai
   all_goals first|exact qx|rfl|(rw[aW];rfl)|(simp[bI,aW,eO.row,eO.zero];done)|(simp[bI,aY,bV.row,bV.zero];done)|exact qz
 rintro n s ⟨i,rfl,hi,rfl⟩
 refine sq (sq (rT [0,3,4,11] (s4 (cd rfl (fun c11=> ?_) fun c11=> ?_))))
 · have hi2:i<l.length:=by simpa[aW] using c11
   have hgg:=fB (l:=l) hi2
   have hmem:l.getD i .zero∈l:=dO hi2
   refine sk (sq (bk (rT [0,3,4] (s4 (ai (by rw[aNf,hgg];exact⟨⟨by omega,by rw[aW];omega⟩,rfl⟩) (ai (by rw[aNf,hgg];exact⟨aNg rfl,rfl⟩) (xp (yT (l.getD i .zero)) (ai (by rw[aNf,hgg];rfl) ?_))))))))
   refine ai (by refine⟨?_,by omega,by omega⟩;simp[aW];omega) (ai (by rw[aNf,bh hi2];exact⟨by simp[aW];omega,by omega,rfl,aNp _⟩) (rT [0,3,4] (s3 (wq [] [] (⟨l.length - (i+1),by omega,i+1,rfl,by omega,rfl⟩) ?_))))
   repeat' apply ai
   all_goals first|exact qx|exact aA D.i (by rw[aH (by omega)];omega)|(rw[aNf];exact dp hi2)|exact qz
 have hi3:i=l.length:=by simp[aW] at c11;omega
 subst hi3
 refine xt (sq (rT [2] (s2 (rt (fV _ [] [7] rfl (gA rfl rfl rfl ?_ (aA D.sl ?_) trivial) rfl rfl)))))
 · simp[aW]
 simp
theorem ot (a b:eO):Sp 224 2 [tV 0 a.V,tV 1 b.V] [tB 0 (decide (a=b))]:=by
 refine sb Tryz.func224 rfl (sq (rT [2,3] (s3 (sq (sq (rT [2,3,9] (s5 (cd rfl (fun c9=> ?_) fun c9=> ?_))))))))
 · refine sq (rT [4] (s1 (rt (aT rfl (aA D.b ?_)))))
   cases a;cases b;simp_all
 refine sk (sq (sq (rT [14] (s5 (cd rfl (fun c14=> ?_) fun c14=> ?_)))))
 · refine sq (rT [4] (s1 (rt (aT rfl (aA D.b ?_)))))
   cases a;cases b;simp_all
 refine sk (sq (rT [4] (s1 (rt (aT rfl (aA D.b ?_))))))
 cases a;cases b;simp_all
theorem kt (a b:List eO) (hg:a.length*24≤140737488355328):Sp 187 2 [tD 0 (.sl (bI a)),tD 1 (.sl (bI b))] [tB 0 (decide (a=b))]:=by
 refine sb Tryz.func187 rfl (sq (rT [0,1] (s1 (sq (sq (rT [0,1,10] (s5 (cd rfl (fun c10=> ?_) fun c10=> ?_))))))))
 · refine sq (rT [4] (s1 (rt (aT rfl (aA D.b ?_)))))
   symm
   apply decide_eq_false
   intro e
   rw[e] at c10
   simp at c10
 have hlen:a.length=b.length:=by simp[aW] at c10;omega
 refine sk (sq (sq (rT [0,1,5] (s1 (bk (SW.loopW (n:=a.length) (fun m q=> ∃i:Nat,m=a.length - i∧i≤a.length∧(∀j,j<i→a.getD j .zero=b.getD j .zero)∧q=[tD 0 (.sl (bI a)),tD 1 (.sl (bI b)),tI 5 (i:Nat)]) ?_ ?_))))))
 · exact wq (σ':=[tD 0 (.sl (bI a)),tD 1 (.sl (bI b)),tI 5 (0:Nat)]) [] [] (⟨0,rfl,aNj _,fun j h=>absurd h (by omega),rfl⟩) qz
 rintro n s ⟨i,rfl,hi,hk,rfl⟩
 refine sq (sq (rT [0,1,5,14] (s4 (cd rfl (fun c14=> ?_) fun c14=> ?_))))
 · have hi2:i<a.length:=by simpa[aW] using c14
   have hga:=fB (l:=a) hi2
   have hgb:=fB (l:=b) (i:=i) (by omega)
   have hmem:a.getD i .zero∈a:=dO hi2
   refine sk (sq (bk (sq (rD [0,1,5,26] (s2 (ai (by rw[aNf,hga];exact⟨⟨by omega,by rw[aW];omega⟩,rfl⟩) (ai (by rw[aNf,hga];exact⟨aNg rfl,rfl⟩) (s2 (ai (by rw[aNf,hgb];exact⟨⟨by omega,by rw[aW];omega⟩,rfl⟩) (ai (by rw[aNf,hgb];exact⟨aNg rfl,rfl⟩) (xp (ot (a.getD i .zero) (b.getD i .zero)) (ai (by rw[aNf,hga,hgb];rfl) ?_))))))))))))
   refine s1 (ai (by kernel_rfl) (cd rfl (fun c26=> ?_) fun c26=> ?_))
   · refine sq (rT [4] (s1 (rt (aT rfl (aA D.b ?_)))))
     exact(decide_eq_false (wH (z:=eO.zero) (j:=i) (by simpa using c26))).symm
   refine sk (rT [0,1,5] (s3 ?_))
   have hs:a.getD i .zero=b.getD i .zero:=by simpa using c26
   refine wq [] [] (⟨a.length - (i+1),by omega,i+1,rfl,by omega,fun j h=>by by_cases e:j=i;exact e▸hs;exact hk j (by omega),rfl⟩) ?_
   repeat' apply ai
   all_goals first|exact qx|exact aA D.i (aH (by omega))|exact qz
 have hi3:i=a.length:=by simp[aW] at c14;omega
 refine xt (sq (rT [4] (s1 (rt (aT rfl (aA D.b ?_))))))
 subst hi3
 exact(decide_eq_true (wG (z:=eO.zero) hlen hk)).symm
theorem qy (h:bV) (hg:h.got.length*24≤140737488355328):Sp 135 1 [tV 0 h.V] [tV 0 h.V]:=by
 refine sb Tryz.func135 rfl (sq (rT [1,2] (s2 (sq (rT [1,2,3] (s1 (sq (rT [1,2,3] (s4 (sq (rT [1,2,3] (s4 (sq (rT [1,2,3] (s4 (sq (rT [1,2,3] (s4 (sq (rT [1,2,3] (s4 (sq (rT [2,3] (s2 (xp (kr h.got hg) (ai rfl ?_))))))))))))))))))))))))))
 refine s2 (sq (rT [2] (s2 (rt (bG rfl rfl ?_)))))
 rfl
theorem ou (l:List bV) (hg:l.length*64≤140737488355328) (hx: ∀h∈l,h.got.length*24≤140737488355328):Sp 66 1 [tD 0 (.sl (aY l))] [tD 0 (.sl (aY l))]:=by
 refine sb Tryz.func66 rfl (sq (rT [0] (s1 (sq (rT [0,3] (s2 (ai (by refine⟨rfl,by omega,?_⟩;rw[aO];show((64:Nat):Int)*_≤_;omega) (s1 (sq (sq (rT [0,3,4] (s1 (bk (SW.loopW (n:=l.length) (fun m q=> ∃i:Nat,m=l.length - i∧i≤l.length∧q=[tD 0 (.sl (aY l)),tO 3 7 l.length,tI 4 (i:Nat),oR 7 138 6 (aY ((l.take i)++List.replicate (l.length - i) .zero))]) ?_ ?_))))))))))))))
 · refine wq (σ':=[tD 0 (.sl (aY l)),tO 3 7 l.length,tI 4 (0:Nat),oR 7 138 6 (aY ((l.take 0)++List.replicate (l.length - 0) .zero))]) [] [] (⟨0,rfl,aNj _,rfl⟩) ?_
   repeat' apply ai
   all_goals first|exact qx|rfl|(rw[aO];rfl)|(simp[aY,aO,bV.row,bV.zero];done)|(simp[bI,aY,bV.row,bV.zero];done)|exact qz
 rintro n s ⟨i,rfl,hi,rfl⟩
 refine sq (sq (rT [0,3,4,11] (s4 (cd rfl (fun c11=> ?_) fun c11=> ?_))))
 · have hi2:i<l.length:=by simpa[aO] using c11
   have hgg:=eH (l:=l) hi2
   have hmem:l.getD i .zero∈l:=dO hi2
   refine sk (sq (bk (rT [0,3,4] (s4 (ai (by rw[aNf,hgg];exact⟨⟨by omega,by rw[aO];omega⟩,rfl⟩) (ai (by rw[aNf,hgg];exact⟨aNg rfl,rfl⟩) (xp (qy (l.getD i .zero) (hx _ hmem)) (ai (by rw[aNf,hgg];rfl) ?_))))))))
   refine ai (by refine⟨?_,by omega,by omega⟩;simp[aO];omega) (ai (by rw[aNf,jx hi2];exact⟨by simp[aO];omega,by omega,rfl,aNp _⟩) (rT [0,3,4] (s3 (wq [] [] (⟨l.length - (i+1),by omega,i+1,rfl,by omega,rfl⟩) ?_))))
   repeat' apply ai
   all_goals first|exact qx|exact aA D.i (by rw[aH (by omega)];omega)|(rw[aNf];exact qh hi2)|exact qz
 have hi3:i=l.length:=by simp[aO] at c11;omega
 subst hi3
 refine xt (sq (rT [2] (s2 (rt (fV _ [] [7] rfl (gA rfl rfl rfl ?_ (aA D.sl ?_) trivial) rfl rfl)))))
 · simp[aO]
 simp
theorem re (a b:bV) (ha:a.got.length*24≤140737488355328):Sp 136 2 [tV 0 a.V,tV 1 b.V] [tB 0 (decide (a=b))]:=by
 refine sb Tryz.func136 rfl (sq (rT [2,3] (s3 (sq (sq (rT [2,3,9] (s5 (cd rfl (fun c9=> ?_) fun c9=> ?_))))))))
 · refine sq (rT [4] (s1 (rt (aT rfl (aA D.b ?_)))))
   cases a;cases b;simp_all
 refine sk (sq (sq (rT [2,3,14] (s5 (cd rfl (fun c14=> ?_) fun c14=> ?_)))))
 · refine sq (rT [4] (s1 (rt (aT rfl (aA D.b ?_)))))
   cases a;cases b;simp_all
 refine sk (sq (sq (rT [2,3,19] (s5 (cd rfl (fun c19=> ?_) fun c19=> ?_)))))
 · refine sq (rT [4] (s1 (rt (aT rfl (aA D.b ?_)))))
   cases a;cases b;simp_all
 refine sk (sq (sq (rT [2,3,24] (s5 (cd rfl (fun c24=> ?_) fun c24=> ?_)))))
 · refine sq (rT [4] (s1 (rt (aT rfl (aA D.b ?_)))))
   cases a;cases b;simp_all
 refine sk (sq (sq (rT [2,3,29] (s5 (cd rfl (fun c29=> ?_) fun c29=> ?_)))))
 · refine sq (rT [4] (s1 (rt (aT rfl (aA D.b ?_)))))
   cases a;cases b;simp_all
 refine sk (sq (sq (rT [35] (s4 (xp (kt a.got b.got ha) (ai rfl ?_))))))
 refine s1 (cd rfl (fun c35=> ?_) fun c35=> ?_)
 · refine sq (rT [4] (s1 (rt (aT rfl (aA D.b ?_)))))
   cases a;cases b;simp_all
 refine sk (sq (rT [4] (s1 (rt (aT rfl (aA D.b ?_))))))
 cases a;cases b;simp_all
theorem ov (a b:List bV) (hg:a.length*64≤140737488355328) (hx: ∀h∈a,h.got.length*24≤140737488355328):Sp 69 2 [tD 0 (.sl (aY a)),tD 1 (.sl (aY b))] [tB 0 (decide (a=b))]:=by
 refine sb Tryz.func69 rfl (sq (rT [0,1] (s1 (sq (sq (rT [0,1,10] (s5 (cd rfl (fun c10=> ?_) fun c10=> ?_))))))))
 · refine sq (rT [4] (s1 (rt (aT rfl (aA D.b ?_)))))
   symm
   apply decide_eq_false
   intro e
   rw[e] at c10
   simp at c10
 have hlen:a.length=b.length:=by simp[aO] at c10;omega
 refine sk (sq (sq (rT [0,1,5] (s1 (bk (SW.loopW (n:=a.length) (fun m q=> ∃i:Nat,m=a.length - i∧i≤a.length∧(∀j,j<i→a.getD j .zero=b.getD j .zero)∧q=[tD 0 (.sl (aY a)),tD 1 (.sl (aY b)),tI 5 (i:Nat)]) ?_ ?_))))))
 · exact wq (σ':=[tD 0 (.sl (aY a)),tD 1 (.sl (aY b)),tI 5 (0:Nat)]) [] [] (⟨0,rfl,aNj _,fun j h=>absurd h (by omega),rfl⟩) qz
 rintro n s ⟨i,rfl,hi,hk,rfl⟩
 refine sq (sq (rT [0,1,5,14] (s4 (cd rfl (fun c14=> ?_) fun c14=> ?_))))
 · have hi2:i<a.length:=by simpa[aO] using c14
   have hga:=eH (l:=a) hi2
   have hgb:=eH (l:=b) (i:=i) (by omega)
   have hmem:a.getD i .zero∈a:=dO hi2
   refine sk (sq (bk (sq (rD [0,1,5,26] (s2 (ai (by rw[aNf,hga];exact⟨⟨by omega,by rw[aO];omega⟩,rfl⟩) (ai (by rw[aNf,hga];exact⟨aNg rfl,rfl⟩) (s2 (ai (by rw[aNf,hgb];exact⟨⟨by omega,by rw[aO];omega⟩,rfl⟩) (ai (by rw[aNf,hgb];exact⟨aNg rfl,rfl⟩) (xp (re (a.getD i .zero) (b.getD i .zero) (hx _ hmem)) (ai (by rw[aNf,hga,hgb];rfl) ?_))))))))))))
   refine s1 (ai (by kernel_rfl) (cd rfl (fun c26=> ?_) fun c26=> ?_))
   · refine sq (rT [4] (s1 (rt (aT rfl (aA D.b ?_)))))
     exact(decide_eq_false (wH (z:=bV.zero) (j:=i) (by simpa using c26))).symm
   refine sk (rT [0,1,5] (s3 ?_))
   have hs:a.getD i .zero=b.getD i .zero:=by simpa using c26
   refine wq [] [] (⟨a.length - (i+1),by omega,i+1,rfl,by omega,fun j h=>by by_cases e:j=i;exact e▸hs;exact hk j (by omega),rfl⟩) ?_
   repeat' apply ai
   all_goals first|exact qx|exact aA D.i (aH (by omega))|exact qz
 have hi3:i=a.length:=by simp[aO] at c14;omega
 refine xt (sq (rT [4] (s1 (rt (aT rfl (aA D.b ?_))))))
 subst hi3
 exact(decide_eq_true (wG (z:=bV.zero) hlen hk)).symm
theorem yU (l:List UInt8) (f:Int):Sp 65 1 [tV 0 (.e (.agg [.d (.s l),.d (.i f)]))] [tV 0 (.e (.agg [.d (.s l),.d (.i f)]))]:=by
 refine sb Tryz.func65 rfl (sq (rT [1,2] (s2 (sq (rT [1,2,3] (s1 (sq (rT [1,2,3] (s4 (sq (rT [2,3] (s4 (sq (rT [2] (s2 (rt (bG rfl rfl ?_)))))))))))))))))
 rfl
theorem cG (k:aN) (hk:KRB k):Sp 17 1 [tV 0 k.V] [tV 0 k.V]:=by
 refine sb Tryz.func17 rfl (sq (rT [1,2] (s2 (sq (rT [1,2,3] (s1 (sq (rT [1,2,3] (s4 (sq (rT [1,2,3] (s4 (sq (rT [1,2,3] (s2 (xp (yU k.log k.forced) (ai rfl ?_)))))))))))))))))
 refine s2 (sq (rT [2,3] (s2 (xp (ou k.halves hk.2.1 hk.2.2) (ai rfl ?_)))))
 refine s2 (sq (rT [2] (s2 (rt (bG rfl rfl ?_)))))
 rfl
theorem ow (l m:List UInt8) (f g:Int):Sp 68 2 [tV 0 (.e (.agg [.d (.s l),.d (.i f)])),tV 1 (.e (.agg [.d (.s m),.d (.i g)]))] [tB 0 (decide (l=m∧f=g))]:=by
 refine sb Tryz.func68 rfl (sq (rT [2,3] (s3 (sq (sq (rT [2,3,9] (s5 (cd rfl (fun c9=> ?_) fun c9=> ?_))))))))
 · refine sq (rT [4] (s1 (rt (aT rfl (aA D.b ?_)))))
   simp_all
 refine sk (sq (sq (rT [14] (s5 (cd rfl (fun c14=> ?_) fun c14=> ?_)))))
 · refine sq (rT [4] (s1 (rt (aT rfl (aA D.b ?_)))))
   simp_all
 refine sk (sq (rT [4] (s1 (rt (aT rfl (aA D.b ?_))))))
 simp_all
theorem cA (a b:aN) (ha:KRB a):Sp 19 2 [tV 0 a.V,tV 1 b.V] [tB 0 (decide (a=b))]:=by
 refine sb Tryz.func19 rfl (sq (rT [2,3] (s3 (sq (sq (rT [2,3,9] (s5 (cd rfl (fun c9=> ?_) fun c9=> ?_))))))))
 · refine sq (rT [4] (s1 (rt (aT rfl (aA D.b ?_)))))
   cases a;cases b;first|(simp_all;done)|(simp_all;grind)
 refine sk (sq (sq (rT [2,3,14] (s5 (cd rfl (fun c14=> ?_) fun c14=> ?_)))))
 · refine sq (rT [4] (s1 (rt (aT rfl (aA D.b ?_)))))
   cases a;cases b;first|(simp_all;done)|(simp_all;grind)
 refine sk (sq (sq (rT [2,3,20] (s4 (xp (ow a.log b.log a.forced b.forced) (ai rfl ?_))))))
 refine s1 (cd rfl (fun c20=> ?_) fun c20=> ?_)
 · refine sq (rT [4] (s1 (rt (aT rfl (aA D.b ?_)))))
   cases a;cases b;first|(simp_all;done)|(simp_all;grind)
 refine sk (sq (sq (rT [26] (s4 (xp (ov a.halves b.halves ha.2.1 ha.2.2) (ai rfl ?_))))))
 refine s1 (cd rfl (fun c26=> ?_) fun c26=> ?_)
 · refine sq (rT [4] (s1 (rt (aT rfl (aA D.b ?_)))))
   cases a;cases b;first|(simp_all;done)|(simp_all;grind)
 refine sk (sq (rT [4] (s1 (rt (aT rfl (aA D.b ?_))))))
 cases a;cases b;first|(simp_all;done)|(simp_all;grind)
theorem uU {B:Nat} {ds:List D} (h:oL tab B 8 3 ds): ∃n:Int,ds=[.i n]∧(Lit.int .i64 n).wf=true:=h
theorem tF (l:List UInt8) (f:Int) (hl:l.length≤140737488355328):Sp 141 1 [tV 0 (.e (.agg [.d (.s l),.d (.i f)]))] [tV 0 (.e (.agg [.d (.s (gY l f).1),.d (.i (gY l f).2)]))]:=by
 refine sb Tryz.func141 rfl (sq (rT [1,2] (s2 (sq (sq (rT [1,2,5] (s1 (xp (lU l f hl) (ai rfl ?_)))))))))
 refine s1 (cd rfl (fun c5=> ?_) fun c5=> ?_)
 · refine sq (rT [2] (s2 (rt ?_)))
   have hr:gY l f=([],0):=aB (by simpa using c5)
   refine bG rfl rfl ?_
   rw[hr]<;>rfl
 refine sk (sq (rT [2] (s7 (rt ?_))))
 have hr:gY l f=(l,(l.length:Int)):=aC (by simpa using c5)
 refine bG rfl rfl ?_
 rw[hr]<;>rfl
theorem jT (l:List UInt8) (f:Int) (hl:l.length≤140737488355328):Sp 74 1 [tV 0 (.e (.agg [.d (.s l),.d (.i f)]))] [tV 0 (.e (.agg [.d (.s (gY l f).1),.d (.i (gY l f).2)]))]:=by
 refine sb Tryz.func74 rfl (sq (rT [1,2] (s2 (sq (sq (rT [1,2,5] (s1 (xp (lV l f hl) (ai rfl ?_)))))))))
 refine s1 (cd rfl (fun c5=> ?_) fun c5=> ?_)
 · refine sq (rT [2] (s2 (rt ?_)))
   have hr:gY l f=([],0):=aB (by simpa using c5)
   refine bG rfl rfl ?_
   rw[hr]<;>rfl
 refine sk (sq (rT [2] (s7 (rt ?_))))
 have hr:gY l f=(l,(l.length:Int)):=aC (by simpa using c5)
 refine bG rfl rfl ?_
 rw[hr]<;>rfl
theorem uV (l:List UInt8) (f keep:Int) (hl:l.length≤140737488355328):Sp 67 2 [tV 0 (.e (.agg [.d (.s l),.d (.i f)])),tI 1 keep] [tV 0 (.e (.agg [.d (.s (eI l f keep).1),.d (.i (eI l f keep).2)]))]:=by
 refine sb Tryz.func67 rfl (sq (rT [1,2,4] (s2 (sq (sq (rT [1,2,4,10] (s1 (xp (lU l f hl) (ai rfl ?_)))))))))
 refine s1 (cd rfl (fun c10=> ?_) fun c10=> ?_)
 · refine sq (rT [4] (s2 (rt ?_)))
   have hr:eI l f keep=([],0):=aB (by simpa using c10)
   refine bG rfl rfl ?_
   rw[hr]<;>rfl
 have hok:cO l f=true:=by simpa using c10
 obtain⟨q1,q2,q3,q4⟩:=iO hok
 have hfa:=dq (keep:=keep) q2
 have hfl: (bR (List.take (fM l f keep).toNat l)).2≤(fM l f keep).toNat:=nk (l:=l) (f:=f) (keep:=keep)
 have hfe:wrap64 (f+(if(if wrap64 ((l.length:Int) - f)<keep then wrap64 ((l.length:Int) - f) else keep)>0 then(if wrap64 ((l.length:Int) - f)<keep then wrap64 ((l.length:Int) - f) else keep) else 0))=fM l f keep:=by
  rw[aH (n:=(l.length:Int) - f) (by omega)]
  unfold fM at hfa ⊢
  have e: (if(l.length:Int) - f<keep then(l.length:Int) - f else keep)=min keep (l.length - f):=by omega
  rw[e]
  exact aH (by split<;>omega)
 refine sk (sq (rT [4,5] (s9 (s5 (ai (by rw[hfe];exact⟨by simp,by simpa using(by omega:0≤fM l f keep),by simpa using hfa.2⟩) (s1 (sq (wa [tD 5 (.s (l.take (fM l f keep).toNat)),tP 4 4,oB 4 28 [.d (.s []),.d (.i 0)]] [] [] ?_ ?_))))))))
 · repeat' apply ai
   all_goals first|exact qx|(rw[hfe];rfl)|exact qz
 refine rT [4,5,7] (s1 (xp (jS (l.take (fM l f keep).toNat) (by rw[aNn];omega)) (ai rfl ?_)))
 refine s5 (sq (rT [4] (s2 (ai (by exact⟨by simp,by simp,by rw[aNn];simp;omega⟩) (s3 (rt ?_))))))
 have hr:eI l f keep=_:=aC hok
 refine bG rfl rfl ?_
 rw[hr,← aD9]
 rfl
theorem ij (l:List UInt8) (f keep:Int) (hl:l.length≤140737488355328):Sp 64 2 [tV 0 (.e (.agg [.d (.s l),.d (.i f)])),tI 1 keep] [tV 0 (.e (.agg [.d (.s (eI l f keep).1),.d (.i (eI l f keep).2)]))]:=by
 refine sb Tryz.func64 rfl (sq (rT [1,2,4] (s2 (sq (sq (rT [1,2,4,8] (s1 (xp (lV l f hl) (ai rfl ?_)))))))))
 refine s1 (cd rfl (fun c8=> ?_) fun c8=> ?_)
 · refine sq (rT [4] (s2 (rt ?_)))
   have hr:eI l f keep=([],0):=aB (by simpa using c8)
   refine bG rfl rfl ?_
   rw[hr]<;>rfl
 have hok:cO l f=true:=by simpa using c8
 obtain⟨q1,q2,q3,q4⟩:=iO hok
 have hfa:=dq (keep:=keep) q2
 have hfl: (bR (List.take (fM l f keep).toNat l)).2≤l.length:=aBt l f keep
 refine sk (sq (rT [1,2,4,5] (s3 (sq (sq (rT [1,2,4,5,18] (s7 (cd rfl (fun c18=> ?_) fun c18=> ?_))))))))
 · have hd:=of_decide_eq_true c18
   rw[aH (by omega)] at hd
   refine rT [1,2,4,5] (s6 (sq (sq (rT [1,2,4,5,25] (s2 (cd rfl (fun c25=> ?_) fun c25=> ?_))))))
   · have hz:=of_decide_eq_true c25
     refine rT [2,4,5] (s4 (sq (wa [tP 2 2,tP 4 4,tI 5 (fM l f keep),oB 2 28 [.d (.s l),.d (.i f)],oB 4 28 [.d (.s []),.d (.i 0)]] [] [] ?_ ?_)))
     · repeat' apply ai
       all_goals first|exact qx|exact aA D.i (by unfold fM;(try rw[aH (n:=(l.length:Int) - f) (by omega)] at*);split<;>first|omega|(rw[aH (by omega)];omega))|exact qz
     refine rT [2,4,5] (s3 (ai (by exact⟨by simp,by simpa using(by omega:0≤fM l f keep),by simpa using hfa.2⟩) (xp (fI (l.take (fM l f keep).toNat) (by rw[aNn];omega)) (ai rfl ?_))))
     refine s4 (sq (rT [4] (s3 (ai (by exact⟨by simp,by simp,by simpa using hfl⟩) (s3 (rt ?_))))))
     have hr:eI l f keep=_:=aC hok
     refine bG rfl rfl ?_
     rw[hr]
     rfl
   have hz:=of_decide_eq_false c25
   refine sk (sq (wa [tP 2 2,tP 4 4,tI 5 (fM l f keep),oB 2 28 [.d (.s l),.d (.i f)],oB 4 28 [.d (.s []),.d (.i 0)]] [] [] ?_ ?_))
   · repeat' apply ai
     all_goals first|exact qx|exact aA D.i (by unfold fM;(try rw[aH (n:=(l.length:Int) - f) (by omega)] at*);split<;>first|omega|(rw[aH (by omega)];omega))|exact qz
   refine rT [2,4,5] (s3 (ai (by exact⟨by simp,by simpa using(by omega:0≤fM l f keep),by simpa using hfa.2⟩) (xp (fI (l.take (fM l f keep).toNat) (by rw[aNn];omega)) (ai rfl ?_))))
   refine s4 (sq (rT [4] (s3 (ai (by exact⟨by simp,by simp,by simpa using hfl⟩) (s3 (rt ?_))))))
   have hr:eI l f keep=_:=aC hok
   refine bG rfl rfl ?_
   rw[hr]
   rfl
 have hd:=of_decide_eq_false c18
 rw[aH (by omega)] at hd
 refine sk (sq (sq (rT [1,2,4,5,25] (s2 (cd rfl (fun c25=> ?_) fun c25=> ?_)))))
 · have hz:=of_decide_eq_true c25
   refine rT [2,4,5] (s4 (sq (wa [tP 2 2,tP 4 4,tI 5 (fM l f keep),oB 2 28 [.d (.s l),.d (.i f)],oB 4 28 [.d (.s []),.d (.i 0)]] [] [] ?_ ?_)))
   · repeat' apply ai
     all_goals first|exact qx|exact aA D.i (by unfold fM;(try rw[aH (n:=(l.length:Int) - f) (by omega)] at*);split<;>first|omega|(rw[aH (by omega)];omega))|exact qz
   refine rT [2,4,5] (s3 (ai (by exact⟨by simp,by simpa using(by omega:0≤fM l f keep),by simpa using hfa.2⟩) (xp (fI (l.take (fM l f keep).toNat) (by rw[aNn];omega)) (ai rfl ?_))))
   refine s4 (sq (rT [4] (s3 (ai (by exact⟨by simp,by simp,by simpa using hfl⟩) (s3 (rt ?_))))))
   have hr:eI l f keep=_:=aC hok
   refine bG rfl rfl ?_
   rw[hr]
   rfl
 have hz:=of_decide_eq_false c25
 refine sk (sq (wa [tP 2 2,tP 4 4,tI 5 (fM l f keep),oB 2 28 [.d (.s l),.d (.i f)],oB 4 28 [.d (.s []),.d (.i 0)]] [] [] ?_ ?_))
 · repeat' apply ai
   all_goals first|exact qx|exact aA D.i (by unfold fM;(try rw[aH (n:=(l.length:Int) - f) (by omega)] at*);split<;>first|omega|(rw[aH (by omega)];omega))|exact qz
 refine rT [2,4,5] (s3 (ai (by exact⟨by simp,by simpa using(by omega:0≤fM l f keep),by simpa using hfa.2⟩) (xp (fI (l.take (fM l f keep).toNat) (by rw[aNn];omega)) (ai rfl ?_))))
 refine s4 (sq (rT [4] (s3 (ai (by exact⟨by simp,by simp,by simpa using hfl⟩) (s3 (rt ?_))))))
 have hr:eI l f keep=_:=aC hok
 refine bG rfl rfl ?_
 rw[hr]
 rfl
theorem yV (l:List bV) (hl:l.length≤1000000):Sp 139 1 [tD 0 (.sl (aY l))] [tO 0 0 l.length,oR 0 138 6 (aY l)]:=by
 refine sb Tryz.func139 rfl (sq (rT [0] (s1 (sq (sq (rT [0,6] (s3 (cd rfl (fun c6=> ?_) fun c6=> ?_))))))))
 · refine sq (rT [2] (s1 (SW.nilOwn 2 0 138 6 rfl rfl (rt (rq [] [] rfl ?_)))))
   repeat' apply ai
   all_goals try exact qx
   all_goals(simp[aO] at c6;simp[c6,aY])
 refine sk (sq (rT [0,3] (s2 (ai (by refine⟨rfl,by omega,?_⟩;rw[aO];show((64:Nat):Int)*_≤_;omega) (s1 (sq (rT [3] (s2 (ai (by refine⟨trivial,by simp,qg l⟩) (sq (rT [2] (s2 (rt (rq [(0,9)] [] rfl ?_))))))))))))))
 repeat' apply ai
 all_goals try exact qx
 all_goals first|(simp[aO];done)|(simp;done)
theorem rg (l:List eO) (hl:l.length≤1000000):Sp 140 1 [tD 0 (.sl (bI l))] [tD 0 (.sl (bI l))]:=by
 refine sb Tryz.func140 rfl (sq (rT [0] (s1 (sq (sq (rT [0,6] (s3 (cd rfl (fun c6=> ?_) fun c6=> ?_))))))))
 · refine sq (rT [2] (s1 (rt (fV _ [] [] rfl (cl rfl (aA D.sl ?_) trivial) rfl rfl))))
   simp[aW] at c6;simp[c6,bI]
 refine sk (sq (rT [0,3] (s2 (ai (by refine⟨rfl,by omega,?_⟩;rw[aW];show((24:Nat):Int)*_≤_;omega) (s1 (sq (rT [3] (s2 (ai (by refine⟨trivial,by simp,qZ l⟩) (sq (rT [2] (s2 (rt (fV _ [] [9] rfl (gA rfl rfl rfl ?_ (aA D.sl ?_) trivial) rfl rfl))))))))))))))
 · simp
 simp
theorem fJ (k:aN) (hb:k.halves.length≤100000∧ ∀x∈k.halves,x.got.length≤100000):Sp 73 1 [tV 0 k.V] [tV 0 k.V]:=by
 refine sb Tryz.func73 rfl (sq (rT [1,2] (s2 (sq (rT [1,2,3] (s3 (sq (rT [2,3] (s2 (dI (robj:=[]) (rl:=[(0,8)]) (bor:=[]) (yV k.halves (by omega)) rfl rfl rfl rfl ⟨fR rfl rfl trivial,rfl⟩ rfl (.inl rfl) (fun p hp=>nomatch hp) (fun j hj=>by(obtain rfl:j=0:=by simpa[eJ,bO,gW] using hj);rfl) (s2 (sq (sq (rT [2,3,12,13] (s2 (ai (by exact aO _) (s1 (bk (SW.loopW (n:=k.halves.length) (fun m q=> ∃i:Nat,m=k.halves.length - i∧i≤k.halves.length∧q=[tP 2 2,tP 3 3,tI 12 (k.halves.length:Nat),tI 13 (i:Nat),oB 2 31 [.d (.i 0),.d (.b false),.d (.s []),.d (.i 0),.nil],oB 3 31 [.d (.i k.id),.d (.b k.up),.d (.s k.log),.d (.i k.forced),.own 8 k.halves.length],oR 8 138 6 (aY k.halves)]) ?_ ?_)))))))))))))))))))
 · exact wq (σ':=[tP 2 2,tP 3 3,tI 12 (k.halves.length:Nat),tI 13 (0:Nat),oB 2 31 [.d (.i 0),.d (.b false),.d (.s []),.d (.i 0),.nil],oB 3 31 [.d (.i k.id),.d (.b k.up),.d (.s k.log),.d (.i k.forced),.own 8 k.halves.length],oR 8 138 6 (aY k.halves)]) [] [] (⟨0,rfl,aNj _,rfl⟩) qz
 rintro n s ⟨i,rfl,hi,rfl⟩
 refine sq (rT [2,3,12,13,14] (s1 (sq (cd rfl (fun c14=> ?_) fun c14=> ?_))))
 · have hi2:i<k.halves.length:=by simpa using c14
   have hg:=eH (l:=k.halves) hi2
   have hmem:k.halves.getD i .zero∈k.halves:=dO hi2
   refine sk (sq (bk (sq (rT [2,3,4,12,13] (s2 (rD [2,3,12,13] (s6 (ai (by exact⟨aO _,by omega,by omega⟩) (ai (by exact aO _) (ai (by rw[aNf,hg];exact⟨⟨aO _,by omega⟩,aNg rfl,rfl⟩) (xp (rg (k.halves.getD i .zero).got (by have:=hb.2 _ hmem;omega)) (ai (by rw[aNf,hg];rfl) ?_))))))))))))
   refine ai (by exact⟨aO _,by omega,by omega⟩) (ai (by exact aO _) (ai (by rw[aNf,hg];exact⟨aO _,by omega,rfl,aNp _⟩) (ai (by kernel_rfl) (rT [2,3,12,13] (s2 (wq [] [] (⟨k.halves.length - (i+1),by omega,i+1,rfl,by omega,rfl⟩) ?_))))))
   repeat' apply ai
   all_goals first|exact qx|exact aA D.i (by rw[aH (by omega)];omega)|(rw[aNf];exact aFx (by rw[aO];omega) (by rw[hg];rfl))|exact qz
 have hi3:i=k.halves.length:=by simp at c14;omega
 refine xt (sq (rT [2] (s2 (rt (rq [] [8] rfl ?_)))))
 repeat' apply ai
 all_goals try exact qx
 all_goals(first|with_reducible rfl|exact aO _|rfl)
theorem fC (k:aN) (hl:k.log.length≤140737488355328):Sp 27 1 [tV 0 k.V] [tV 0 ((bS k).V)]:=by
 refine sb Tryz.func27 rfl (sq (rT [1,2] (s2 (sq (sq (rT [1,2,7] (s1 (xp (cY k hl) (ai rfl ?_)))))))))
 refine s1 (cd rfl (fun c7=> ?_) fun c7=> ?_)
 · have hr:bS k= .zero:=wI (by simpa using c7)
   refine sq (rT [2] (s2 (rt (fV _ [] [] rfl ?_ rfl rfl))))
   rw[hr]
   refine qs ?_
   repeat' first|exact qx|apply ai
   all_goals rfl
 have hok:aX k=true:=by simpa using c7
 have hr:bS k=_:=dK hok
 have hlg:=(cJ hok).2.1
 refine sk (sq (rT [2,3] (s5 (xp (oQ k.id k.log (by omega)) (ai rfl ?_)))))
 refine s6 (sq (rT [2] (s2 (rt (bG rfl rfl ?_)))))
 rw[hr]
 rfl
theorem pQ (a b:bF):Sp 39 2 [tV 0 a.V,tV 1 b.V] [tB 0 (decide (a=b))]:=by
 refine sb Tryz.func39 rfl (sq (rT [2,3] (s3 (sq (sq (rT [2,3,9] (s5 (cd rfl (fun c9=> ?_) fun c9=> ?_))))))))
 · refine sq (rT [4] (s1 (rt (aT rfl (aA D.b ?_)))))
   cases a;cases b;simp_all
 refine sk (sq (sq (rT [2,3,14] (s5 (cd rfl (fun c14=> ?_) fun c14=> ?_)))))
 · refine sq (rT [4] (s1 (rt (aT rfl (aA D.b ?_)))))
   cases a;cases b;simp_all
 refine sk (sq (sq (rT [2,3,19] (s5 (cd rfl (fun c19=> ?_) fun c19=> ?_)))))
 · refine sq (rT [4] (s1 (rt (aT rfl (aA D.b ?_)))))
   cases a;cases b;simp_all
 refine sk (sq (sq (rT [2,3,24] (s5 (cd rfl (fun c24=> ?_) fun c24=> ?_)))))
 · refine sq (rT [4] (s1 (rt (aT rfl (aA D.b ?_)))))
   cases a;cases b;simp_all
 refine sk (sq (sq (rT [29] (s5 (cd rfl (fun c29=> ?_) fun c29=> ?_)))))
 · refine sq (rT [4] (s1 (rt (aT rfl (aA D.b ?_)))))
   cases a;cases b;simp_all
 refine sk (sq (rT [4] (s1 (rt (aT rfl (aA D.b ?_))))))
 cases a;cases b;simp_all
theorem yW (a b:List bF) (hg:a.length*48≤140737488355328):Sp 78 2 [tD 0 (.sl (aF a)),tD 1 (.sl (aF b))] [tB 0 (decide (a=b))]:=by
 refine sb Tryz.func78 rfl (sq (rT [0,1] (s1 (sq (sq (rT [0,1,10] (s5 (cd rfl (fun c10=> ?_) fun c10=> ?_))))))))
 · refine sq (rT [4] (s1 (rt (aT rfl (aA D.b ?_)))))
   symm
   apply decide_eq_false
   intro e
   rw[e] at c10
   simp at c10
 have hlen:a.length=b.length:=by simp[aE] at c10;omega
 refine sk (sq (sq (rT [0,1,5] (s1 (bk (SW.loopW (n:=a.length) (fun m q=> ∃i:Nat,m=a.length - i∧i≤a.length∧(∀j,j<i→a.getD j .zero=b.getD j .zero)∧q=[tD 0 (.sl (aF a)),tD 1 (.sl (aF b)),tI 5 (i:Nat)]) ?_ ?_))))))
 · exact wq (σ':=[tD 0 (.sl (aF a)),tD 1 (.sl (aF b)),tI 5 (0:Nat)]) [] [] (⟨0,rfl,aNj _,fun j h=>absurd h (by omega),rfl⟩) qz
 rintro n s ⟨i,rfl,hi,hk,rfl⟩
 refine sq (sq (rT [0,1,5,14] (s4 (cd rfl (fun c14=> ?_) fun c14=> ?_))))
 · have hi2:i<a.length:=by simpa[aE] using c14
   have hga:=aS (l:=a) hi2
   have hgb:=aS (l:=b) (i:=i) (by omega)
   have hmem:a.getD i .zero∈a:=dO hi2
   refine sk (sq (bk (sq (rD [0,1,5,26] (s2 (ai (by rw[aNf,hga];exact⟨⟨by omega,by rw[aE];omega⟩,rfl⟩) (ai (by rw[aNf,hga];exact⟨aNg rfl,rfl⟩) (s2 (ai (by rw[aNf,hgb];exact⟨⟨by omega,by rw[aE];omega⟩,rfl⟩) (ai (by rw[aNf,hgb];exact⟨aNg rfl,rfl⟩) (xp (pQ (a.getD i .zero) (b.getD i .zero)) (ai (by rw[aNf,hga,hgb];rfl) ?_))))))))))))
   refine s1 (ai (by kernel_rfl) (cd rfl (fun c26=> ?_) fun c26=> ?_))
   · refine sq (rT [4] (s1 (rt (aT rfl (aA D.b ?_)))))
     exact(decide_eq_false (wH (z:=bF.zero) (j:=i) (by simpa using c26))).symm
   refine sk (rT [0,1,5] (s3 ?_))
   have hs:a.getD i .zero=b.getD i .zero:=by simpa using c26
   refine wq [] [] (⟨a.length - (i+1),by omega,i+1,rfl,by omega,fun j h=>by by_cases e:j=i;exact e▸hs;exact hk j (by omega),rfl⟩) ?_
   repeat' apply ai
   all_goals first|exact qx|exact aA D.i (aH (by omega))|exact qz
 have hi3:i=a.length:=by simp[aE] at c14;omega
 refine xt (sq (rT [4] (s1 (rt (aT rfl (aA D.b ?_))))))
 subst hi3
 exact(decide_eq_true (wG (z:=bF.zero) hlen hk)).symm
theorem ee (rec:List UInt8):Sp 146 1 [tD 0 (.s rec)] [tB 0 (pX rec)]:=by
 refine sb Tryz.func146 rfl (sq (rT [0] (s1 (sq (rT [2] (s2 (xp (eN _ _ _) (ai rfl ?_))))))))
 refine s1 (rt (aT rfl ?_))
 rfl
theorem xC (rec:List UInt8):Sp 143 1 [tD 0 (.s rec)] [tB 0 (pX rec)]:=by
 refine sb Tryz.func143 rfl (sq (rT [0] (s1 (sq (rT [2] (s2 (xp (fH _ _ _) (ai rfl ?_))))))))
 refine s1 (rt (aT rfl ?_))
 rfl
theorem uA (rec:List UInt8) (hrec:rec.length≤900000):Sp 144 1 [tD 0 (.s rec)] [tD 0 (.s (jZ rec))]:=by
 have hdl:=bU (k:=5) (n:=rec.length) (by simp;omega)
 refine sb Tryz.func144 rfl (sq (rT [0] (s1 (sq (rT [2] (s2 (xp (rH rec.length (by omega)) (ai rfl ?_))))))))
 refine ai (by show _≤9223372036854775807;(try simp only[aNh,aNk,aNl]);omega) (s1 (ai (by show _≤9223372036854775807;(try simp only[aNh,aNk,aNl]);omega) (ai (by show _≤9223372036854775807;(try simp only[aNh,aNk,aNl]);omega) (s1 (rt (aT rfl ?_))))))
 rfl
theorem uB (rec:List UInt8) (hrec:rec.length≤900000):Sp 147 1 [tD 0 (.s rec)] [tD 0 (.s (jZ rec))]:=by
 have hdl:=bU (k:=5) (n:=rec.length) (by simp;omega)
 refine sb Tryz.func147 rfl (sq (rT [0] (s1 (sq (rT [2] (s2 (xp (yP rec.length (by omega)) (ai rfl ?_))))))))
 refine ai (by show _≤9223372036854775807;(try simp only[aNh,aNk,aNl]);omega) (s1 (ai (by show _≤9223372036854775807;(try simp only[aNh,aNk,aNl]);omega) (ai (by show _≤9223372036854775807;(try simp only[aNh,aNk,aNl]);omega) (s1 (rt (aT rfl ?_))))))
 rfl
theorem xD (l:List UInt8) (f:Int) (rec:List UInt8) (hl:l.length≤140737488355328) (hrec:rec.length≤900000):Sp 164 2 [tV 0 (.e (.agg [.d (.s l),.d (.i f)])),tD 1 (.s rec)] [tV 0 (.tup [.agg [.d (.s (cC l f rec).1.1),.d (.i (cC l f rec).1.2)],.c (.d (.b (cC l f rec).2))])]:=by
 refine sb Tryz.func164 rfl (sq (rT [1,2,4] (s3 (sq (sq (rT [1,2,4,8] (s1 (xp (lU l f hl) (ai rfl ?_)))))))))
 refine s1 (cd rfl (fun c8=> ?_) fun c8=> ?_)
 · have hr:cC l f rec=(([],0),false):=du (by simpa using c8)
   refine sq (rT [4,5] (s3 (rt (bG rfl rfl ?_))))
   rw[hr]
   rfl
 have hok:cO l f=true:=by simpa using c8
 have hl2:=(iO hok).1
 have hst:=pY hrec
 refine sk (sq (sq (rD [1,2,4,22] (s1 (xp (ee rec) (ai rfl ?_))))))
 refine s2 (y4 (xc (fun h=>(uB rec hrec)) (ai rfl (ai rk ?_))))
 refine y3 (ai pk (ai (by kernel_rfl) (cd rfl (fun c22=> ?_) fun c22=> ?_)))
 · have hr:cC l f rec=((l,f),false):=jy hok (fun h9=>by have:=(dy c22 hl2 (by omega)).1 h9;cases this)
   refine sq (rT [4,5] (s3 (rt (bG rfl rfl ?_))))
   rw[hr]
   rfl
 have hr:cC l f rec=((l++jZ rec,f),true):=dw hok ((dy c22 hl2 (by omega)).2 rfl)
 refine sk (sq (rD [4,5] (s3 (xp (uB rec hrec) (ai rfl ?_)))))
 refine ai (by show _≤9223372036854775807;(try simp only[aNh,aNk,aNl]);omega) (s5 (ai (by kernel_rfl) (rt (bG rfl rfl ?_))))
 rw[hr]
 rfl
theorem xE (l:List UInt8) (f:Int) (rec:List UInt8) (hl:l.length≤140737488355328) (hrec:rec.length≤900000):Sp 150 2 [tV 0 (.e (.agg [.d (.s l),.d (.i f)])),tD 1 (.s rec)] [tV 0 (.tup [.agg [.d (.s (cC l f rec).1.1),.d (.i (cC l f rec).1.2)],.c (.d (.b (cC l f rec).2))])]:=by
 refine sb Tryz.func150 rfl (sq (rT [1,2,4] (s3 (sq (sq (rT [1,2,4,8] (s1 (xp (lV l f hl) (ai rfl ?_)))))))))
 refine s1 (cd rfl (fun c8=> ?_) fun c8=> ?_)
 · have hr:cC l f rec=(([],0),false):=du (by simpa using c8)
   refine sq (rT [4,5] (s3 (rt (bG rfl rfl ?_))))
   rw[hr]
   rfl
 have hok:cO l f=true:=by simpa using c8
 have hl2:=(iO hok).1
 have hst:=pY hrec
 refine sk (sq (sq (rD [1,2,4,22] (s1 (xp (xC rec) (ai rfl ?_))))))
 refine s2 (y4 (xc (fun h=>(uA rec hrec)) (ai rfl (ai rk ?_))))
 refine y3 (ai pk (ai (by kernel_rfl) (cd rfl (fun c22=> ?_) fun c22=> ?_)))
 · have hr:cC l f rec=((l,f),false):=jy hok (fun h9=>by have:=(dy c22 hl2 (by omega)).1 h9;cases this)
   refine sq (rT [4,5] (s3 (rt (bG rfl rfl ?_))))
   rw[hr]
   rfl
 have hr:cC l f rec=((l++jZ rec,f),true):=dw hok ((dy c22 hl2 (by omega)).2 rfl)
 refine sk (sq (rD [4,5] (s3 (xp (uA rec hrec) (ai rfl ?_)))))
 refine ai (by show _≤9223372036854775807;(try simp only[aNh,aNk,aNl]);omega) (s5 (ai (by kernel_rfl) (rt (bG rfl rfl ?_))))
 rw[hr]
 rfl
theorem uW (l:List UInt8) (f:Int) (recs:List (List UInt8)) (hl:l.length≤140737488355328) (hn:recs.length≤900000) (hrec: ∀r∈recs,r.length≤900000):Sp 84 2 [tV 0 (.e (.agg [.d (.s l),.d (.i f)])),tD 1 (.sl (bT recs))] [tV 0 (.tup [.agg [.d (.s (dH l f recs).1.1),.d (.i (dH l f recs).1.2)],.c (.d (.b (dH l f recs).2))])]:=by
 refine sb Tryz.func84 rfl (sq (rT [1,2,4] (s3 (sq (sq (rT [1,2,4,10] (s1 (xp (lV l f hl) (ai rfl ?_)))))))))
 refine s1 (cd rfl (fun c10=> ?_) fun c10=> ?_)
 · have hr:dH l f recs=(([],0),false):=aa (by simpa using c10)
   refine sq (rT [4,5] (s3 (rt (bG rfl rfl ?_))))
   rw[hr]
   rfl
 have hok:cO l f=true:=by simpa using c10
 refine sk (sq (rT [1,2,4,6] (s1 (sq (sq (rT [1,2,4,6,7] (s1 (bk (SW.loopW (n:=recs.length) (fun m q=> ∃i:Nat,m=recs.length - i∧i≤recs.length∧(∀k,k<i→pX (recs.getD k [])=true)∧q=[tP 2 2,tP 4 4,tD 1 (.sl (bT recs)),tD 6 (.s (fF (recs.take (i)))),tI 7 (i:Nat),oB 2 28 [.d (.s l),.d (.i f)],oB 4 28 [.d (.s []),.d (.i 0)]]) ?_ ?_)))))))))
 · refine wq (σ':=[tP 2 2,tP 4 4,tD 1 (.sl (bT recs)),tD 6 (.s (fF (recs.take (0)))),tI 7 (0:Nat),oB 2 28 [.d (.s l),.d (.i f)],oB 4 28 [.d (.s []),.d (.i 0)]]) [] [] (⟨0,rfl,aNj _,fun k h=>absurd h (by omega),rfl⟩) ?_
   repeat' apply ai
   all_goals first|exact qx|rfl|exact qz
 rintro n s ⟨i,rfl,hi,hk,rfl⟩
 refine sq (sq (rT [1,2,4,6,7,15] (s4 (cd rfl (fun c15=> ?_) fun c15=> ?_))))
 · have hi2:i<recs.length:=by simpa[aL] using c15
   have hg:=gB (l:=recs) hi2
   have hmem: (recs.getD i [])∈recs:=dO hi2
   have hrq:=hrec _ hmem
   have hpt:=dx hi2
   have hple:=nn recs i
   have hps:=tT hrec
   have hsl:=pY hrq
   refine sk (sq (bk (sq (sq (rT [1,2,4,6,7,23] (s2 (ai (by rw[aNf,hg];exact⟨⟨by omega,by rw[aL];omega⟩,rfl⟩) (ai (by rw[aNf,hg];exact⟨aNg rfl,rfl⟩) (xp (xC (recs.getD i [])) (ai (by rw[aNf,hg];rfl) ?_))))))))))
   refine s1 (cd rfl (fun c23=> ?_) fun c23=> ?_)
   · have hs:pX (recs.getD i [])=false:=by
      simpa using c23
     have hr:dH l f recs=((l,f),false):=rC hok (fun h9=>zb hi2 hs h9.1)
     refine sq (rT [4,5] (s3 (rt (bG rfl rfl ?_))))
     rw[hr]
     rfl
   refine sk (rT [1,2,4,6,7] (s3 (ai (by rw[aNf,hg];exact⟨⟨by omega,by rw[aL];omega⟩,rfl⟩) (ai (by rw[aNf,hg];exact⟨aNg rfl,rfl⟩) (xp (uA (recs.getD i []) hrq) (ai (by rw[aNf,hg];rfl) ?_))))))
   refine ai (by show _≤9223372036854775807;(try simp only[aNh,aNk,aNl]);omega) (s1 (rT [1,2,4,6,7] (s3 ?_)))
   have hs:pX (recs.getD i [])=true:=by
    simpa using c23
   refine wq [] [] (⟨recs.length - (i+1),by omega,i+1,rfl,by omega,fun k h=>by by_cases e:k=i;exact e▸hs;exact hk k (by omega),rfl⟩) ?_
   repeat' apply ai
   all_goals first|exact qx|exact aA D.i (by rw[aH (by omega)];omega)|(rw[hpt];done)|(rw[hpt,aNf,hg];rfl)|omega|exact qz
 have hi3:i=recs.length:=by simp[aL] at c15;omega
 subst hi3
 have hall:=tt hk
 rw[List.take_length]
 refine xt (sq (sq (rT [2,4,6,34] (s3 (cd rfl (fun c34=> ?_) fun c34=> ?_)))))
 · have hr:dH l f recs=((l,f),false):=rC hok (fun h9=>by have h8:=of_decide_eq_true c34;omega)
   refine sq (rT [4,5] (s3 (rt (bG rfl rfl ?_))))
   rw[hr]
   rfl
 have hr:=ab hok ⟨hall,by have h8:=of_decide_eq_false c34;omega⟩
 refine sk (sq (rT [4,5] (s6 (rt (bG rfl rfl ?_)))))
 rw[hr]
 rfl
theorem pF (l:List UInt8) (f:Int) (recs:List (List UInt8)) (hl:l.length≤140737488355328) (hn:recs.length≤900000) (hrec: ∀r∈recs,r.length≤900000):Sp 86 2 [tV 0 (.e (.agg [.d (.s l),.d (.i f)])),tD 1 (.sl (bT recs))] [tV 0 (.tup [.agg [.d (.s (dH l f recs).1.1),.d (.i (dH l f recs).1.2)],.c (.d (.b (dH l f recs).2))])]:=by
 refine sb Tryz.func86 rfl (sq (rT [1,2,4] (s3 (sq (sq (rT [1,2,4,11] (s1 (xp (lU l f hl) (ai rfl ?_)))))))))
 refine s1 (cd rfl (fun c11=> ?_) fun c11=> ?_)
 · have hr:dH l f recs=(([],0),false):=aa (by simpa using c11)
   refine sq (rT [4,5] (s3 (rt (bG rfl rfl ?_))))
   rw[hr]
   rfl
 have hok:cO l f=true:=by simpa using c11
 refine sk (sq (rT [1,2,4,6] (s1 (sq (sq (rT [2,4,6,13,14,15] (s3 (bk (SW.loopW (n:=recs.length) (fun m q=> ∃i:Nat,m=recs.length - i∧i≤recs.length∧(∀k,k<i→pX (recs.getD k [])=true)∧q=[tP 2 2,tP 4 4,tD 6 (.s (fF (recs.take (i)))),tD 13 (.sl (bT recs)),tI 14 (recs.length:Nat),tI 15 (i:Nat),oB 2 28 [.d (.s l),.d (.i f)],oB 4 28 [.d (.s []),.d (.i 0)]]) ?_ ?_)))))))))
 · refine wq (σ':=[tP 2 2,tP 4 4,tD 6 (.s (fF (recs.take (0)))),tD 13 (.sl (bT recs)),tI 14 (recs.length:Nat),tI 15 (0:Nat),oB 2 28 [.d (.s l),.d (.i f)],oB 4 28 [.d (.s []),.d (.i 0)]]) [] [] (⟨0,rfl,aNj _,fun k h=>absurd h (by omega),rfl⟩) ?_
   repeat' apply ai
   all_goals first|exact qx|rfl|(rw[aL];done)|exact qz
 rintro n s ⟨i,rfl,hi,hk,rfl⟩
 refine sq (rT [2,4,6,13,14,15,16] (s1 (sq (cd rfl (fun c16=> ?_) fun c16=> ?_))))
 · have hi2:i<recs.length:=by simp at c16;omega
   have hg:=gB (l:=recs) hi2
   have hmem: (recs.getD i [])∈recs:=dO hi2
   have hrq:=hrec _ hmem
   have hpt:=dx hi2
   have hple:=nn recs i
   have hps:=tT hrec
   have hsl:=pY hrq
   refine sk (sq (bk (sq (rT [2,4,6,8,13,14,15] (ai (by rw[aNf,hg];exact⟨⟨by omega,by rw[aL];omega⟩,rfl⟩) (ai (by rw[aNf,hg];exact⟨aNg rfl,rfl⟩) (s1 (sq (sq (wa [tP 2 2,tP 4 4,tD 6 (.s (fF (recs.take i))),tD 8 (.s (recs.getD i [])),tD 13 (.sl (bT recs)),tI 14 (recs.length:Nat),tI 15 (i:Nat),oB 2 28 [.d (.s l),.d (.i f)],oB 4 28 [.d (.s []),.d (.i 0)]] [] [] ?_ ?_))))))))))
   · repeat' apply ai
     all_goals first|exact qx|(rw[aNf,hg];rfl)|exact qz
   refine rT [2,4,6,8,13,14,15,26] (s1 (xp (ee (recs.getD i [])) (ai rfl ?_)))
   refine s2 (y3 (ai pk (cd rfl (fun c26=> ?_) fun c26=> ?_)))
   · have hr:dH l f recs=((l,f),false):=rC hok (fun h9=>by
      rcases aEd c26 with h8|h8
      · exact zb hi2 h8 h9.1
      · omega)
     refine sq (rT [4,5] (s3 (rt (bG rfl rfl ?_))))
     rw[hr]
     rfl
   refine sk (rT [2,4,6,13,14,15] (s2 (xp (uB (recs.getD i []) hrq) (ai rfl ?_))))
   refine ai (by show _≤9223372036854775807;(try simp only[aNh,aNk,aNl]);omega) (s1 (rT [2,4,6,13,14,15] (s2 ?_)))
   have hs:pX (recs.getD i [])=true:=(aGe c26).1
   refine wq [] [] (⟨recs.length - (i+1),by omega,i+1,rfl,by omega,fun k h=>by by_cases e:k=i;exact e▸hs;exact hk k (by omega),rfl⟩) ?_
   repeat' apply ai
   all_goals first|exact qx|exact aA D.i (by rw[aH (by omega)];omega)|(rw[hpt];done)|(rw[hpt,aNf,hg];rfl)|omega|exact qz
 have hi3:i=recs.length:=by simp[aL] at c16;omega
 subst hi3
 have hall:=tt hk
 rw[List.take_length]
 refine xt (sq (sq (rT [2,4,6,35] (s3 (cd rfl (fun c35=> ?_) fun c35=> ?_)))))
 · have hr:dH l f recs=((l,f),false):=rC hok (fun h9=>by have h8:=of_decide_eq_true c35;omega)
   refine sq (rT [4,5] (s3 (rt (bG rfl rfl ?_))))
   rw[hr]
   rfl
 have hr:=ab hok ⟨hall,by have h8:=of_decide_eq_false c35;omega⟩
 refine sk (sq (rT [4,5] (s6 (rt (bG rfl rfl ?_)))))
 rw[hr]
 rfl
theorem ku (a b c:Int) (h: (0≤a∧a≤1000000)∧(0≤b∧b≤1000000)∧(0≤c∧c≤1000000)):Sp 95 3 [tI 0 a,tI 1 b,tI 2 c] [tD 0 (.s (jF a.toNat++[32]++jF b.toNat++[32]++jF c.toNat))]:=by
 have q1:=bU (k:=6) (n:=a.toNat) (by simp;omega)
 have q2:=bU (k:=6) (n:=b.toNat) (by simp;omega)
 have q3:=bU (k:=6) (n:=c.toNat) (by simp;omega)
 refine sb Tryz.func95 rfl (sq (rT [0,1,2] (s1 (sq (rT [6] (s1 (xp (jR a h.1) (ai rfl ?_))))))))
 refine ai (by show _≤9223372036854775807;(try simp only[aNh,aNk,aNl]);omega) (s1 (xp (jR b h.2.1) (ai rfl ?_)))
 refine ai (by show _≤9223372036854775807;(try simp only[aNh,aNk,aNl]);omega) (ai (by show _≤9223372036854775807;(try simp only[aNh,aNk,aNl]);omega) (s1 (xp (jR c h.2.2) (ai rfl ?_))))
 refine ai (by show _≤9223372036854775807;(try simp only[aNh,aNk,aNl]);omega) (s1 (rt (aT rfl ?_)))
 rfl
theorem pG (w:List UInt8) (a b c:Int) (h: (0≤a∧a≤1000000)∧(0≤b∧b≤1000000)∧(0≤c∧c≤1000000)) (hw:w.length≤900000):Sp 97 4 [tD 0 (.s w),tI 1 a,tI 2 b,tI 3 c] [tD 0 (.s (lH w ⟨a,b,c⟩))]:=by
 have q1:=bU (k:=6) (n:=a.toNat) (by simp;omega)
 have q2:=bU (k:=6) (n:=b.toNat) (by simp;omega)
 have q3:=bU (k:=6) (n:=c.toNat) (by simp;omega)
 refine sb Tryz.func97 rfl (sq (rT [0,1,2,3] (s1 (sq (rT [8] (s1 (ai (by show _≤9223372036854775807;(try simp only[aNh,aNk,aNl]);omega) (s1 (xp (oO a h.1) (ai rfl ?_))))))))))
 refine ai (by show _≤9223372036854775807;(try simp only[aNh,aNk,aNl]);omega) (ai (by show _≤9223372036854775807;(try simp only[aNh,aNk,aNl]);omega) (s1 (xp (oO b h.2.1) (ai rfl ?_))))
 refine ai (by show _≤9223372036854775807;(try simp only[aNh,aNk,aNl]);omega) (ai (by show _≤9223372036854775807;(try simp only[aNh,aNk,aNl]);omega) (s1 (xp (oO c h.2.2) (ai rfl ?_))))
 refine ai (by show _≤9223372036854775807;(try simp only[aNh,aNk,aNl]);omega) (s1 (rt (aT rfl ?_)))
 rfl
theorem aBx (k:aN) (hb:k.halves.length≤100000∧ ∀x∈k.halves,x.got.length≤100000):Sp 72 1 [tV 0 k.V] [tV 0 (.e (.agg [.d (.i k.id),.d (.b k.up),.d (.s k.log),.d (.i k.forced),.own 0 k.halves.length])),oR 0 138 6 (aY k.halves)]:=by
 refine sb Tryz.func72 rfl (sq (rT [1,2] (s2 (sq (rT [1,2,3] (s2 (sq (sq (rT [1,2,3,4] (s1 (bk (SW.loopW (n:=k.halves.length) (fun m q=> ∃i:Nat,m=k.halves.length - i∧i≤k.halves.length∧q=[tP 1 1,tP 2 2,tO 3 6 (k.halves.take (i)).length,tI 4 (i:Nat),oB 1 31 [.d (.i (k).id),.d (.b (k).up),.d (.s (k).log),.d (.i (k).forced),.d (.sl (aY (k).halves))],oB 2 31 [.d (.i 0),.d (.b false),.d (.s []),.d (.i 0),.nil],oR 6 138 6 (aY (k.halves.take (i)))]) ?_ ?_))))))))))))
 · refine wq (σ':=[tP 1 1,tP 2 2,tO 3 6 (k.halves.take (0)).length,tI 4 (0:Nat),oB 1 31 [.d (.i (k).id),.d (.b (k).up),.d (.s (k).log),.d (.i (k).forced),.d (.sl (aY (k).halves))],oB 2 31 [.d (.i 0),.d (.b false),.d (.s []),.d (.i 0),.nil],oR 6 138 6 (aY (k.halves.take (0)))]) [] [] (⟨0,rfl,aNj _,rfl⟩) ?_
   repeat' apply ai
   all_goals first|exact qx|rfl|exact qz
 rintro n s ⟨i,rfl,hi,rfl⟩
 refine sq (sq (rT [1,2,3,4,11] (s5 (cd rfl (fun c11=> ?_) fun c11=> ?_))))
 · have hi2:i<k.halves.length:=by simpa[aO] using c11
   have hg:=eH (l:=k.halves) hi2
   have hmem:k.halves.getD i .zero∈k.halves:=dO hi2
   refine sk (sq (bk (sq (rT [1,2,3,4,5] (s3 (ai (by rw[aNf,hg];exact⟨⟨by omega,by rw[aO];omega⟩,rfl⟩) (ai (by rw[aNf,hg];exact⟨aNg rfl,rfl⟩) (s2 (sq (wa [tP 1 1,tP 2 2,tO 3 6 (k.halves.take i).length,tI 4 (i:Nat),tP 5 5,oB 1 31 [.d (.i (k).id),.d (.b (k).up),.d (.s (k).log),.d (.i (k).forced),.d (.sl (aY (k).halves))],oB 2 31 [.d (.i 0),.d (.b false),.d (.s []),.d (.i 0),.nil],oB 5 138 [.d (.i (k.halves.getD i .zero).frm),.d (.i (k.halves.getD i .zero).num),.d (.i (k.halves.getD i .zero).to),.d (.i (k.halves.getD i .zero).til),.d (.i (k.halves.getD i .zero).size),.d (.sl (bI (k.halves.getD i .zero).got))],oR 6 138 6 (aY (k.halves.take i))] [] [] ?_ ?_))))))))))
   · repeat' apply ai
     all_goals first|exact qx|(rw[aNf,hg];rfl)|exact qz
   refine rT [1,2,3,4,5] (ai (by simp) (s2 (ai (by refine⟨trivial,rfl,?_,?_⟩<;>first|exact qZ _|(simp only[aW,aNl,Nat.zero_add];have:=hb.2 _ hmem;show _*24≤_;omega)) (s2 (wa [tP 1 1,tP 2 2,tO 3 6 (k.halves.take i).length,tI 4 (i:Nat),tP 5 5,oB 1 31 [.d (.i (k).id),.d (.b (k).up),.d (.s (k).log),.d (.i (k).forced),.d (.sl (aY (k).halves))],oB 2 31 [.d (.i 0),.d (.b false),.d (.s []),.d (.i 0),.nil],oB 5 138 [.d (.i (k.halves.getD i .zero).frm),.d (.i (k.halves.getD i .zero).num),.d (.i (k.halves.getD i .zero).to),.d (.i (k.halves.getD i .zero).til),.d (.i (k.halves.getD i .zero).size),.d (.sl (bI (k.halves.getD i .zero).got))],oR 6 138 6 (aY (k.halves.take i))] [] [19] ?_ ?_)))))
   · repeat' apply ai
     all_goals first|exact qx|(simp[aW];done)|rfl|exact qz
   refine rT [1,2,3,4] (s2 (ai (by exact⟨by simp,aNg rfl⟩) (ai (by exact⟨rfl,aO _,by intro r hr;rw[List.mem_singleton.1 hr];rfl,by simp only[aNh,aNk,aNl,aO,aNn];show _*64≤_;omega⟩) (s1 (rT [1,2,3,4] (s3 ?_))))))
   have hts:=gK (z:=bV.zero) hi2
   refine wq [] [] (⟨k.halves.length - (i+1),by omega,i+1,rfl,by omega,rfl⟩) ?_
   repeat' apply ai
   all_goals first|exact qx|exact aA D.i (by rw[aH (by omega)];omega)|(rw[hts,aNh];rfl)|(rw[hts];simp only[aY,List.map_append,List.map_cons,List.map_nil];rfl)|(rw[aO];done)|(simp[aO];done)|(simp[aO,aNn];omega)|exact qz
 have hi3:i=k.halves.length:=by simp[aO] at c11;omega
 subst hi3
 refine xt (sq (rT [1,2] (s3 (sq (rT [2] (s2 (rt ?_)))))))
 rw[List.take_length]
 exact fV _ [(0,6)] [] rfl (bK rfl (aI rfl (aI rfl (aI rfl (aI rfl (eX rfl rfl rfl aR))))) (dV rfl rfl trivial)) rfl rfl
theorem eU (k:aN) (hb:k.halves.length≤100000∧ ∀x∈k.halves,x.got.length≤100000):Ab.Spec Tryz.prog 72 1 [(.t 0,.v k.V)] [(.t 0,.v k.V)]:=
 Spec.told (rl:=[]) (bor:=[0]) (aBx k hb) (bK rfl (aI rfl (aI rfl (aI rfl (aI rfl (gJ rfl rfl (aO _) rfl aR))))) trivial) rfl rfl
theorem xF (k:bH) (hk:KB k):Sp 85 1 [tV 0 k.V] [tD 0 (.sl (bT (gG k)))]:=by
 refine sb Tryz.func85 rfl (sq (rT [1] (s2 (sq (rT [1,3] (s2 (sq (sq (rT [1,3,11] (s1 (xp (tY k hk.1 hk.2.1 hk.2.2) (ai rfl ?_))))))))))))
 refine s1 (cd rfl (fun c11=> ?_) fun c11=> ?_)
 · have hno: ¬dG k=true:=by simpa using c11
   refine sq (rT [2] (s2 (rt (fV _ [] [8] rfl (gA rfl rfl rfl ?_ (aA D.sl ?_) trivial) rfl rfl))))
   · rfl
   rw[yJ hno];rfl
 have hok:dG k=true:=by simpa using c11
 have h6:=cV hok
 obtain⟨⟨_,ht,hn,_,_,_⟩,_⟩:=(bW k).1 hok
 have q1:=bU (k:=6) (n:=k.time.toNat) (by simp;omega)
 have q2:=bU (k:=6) (n:=k.next.toNat) (by simp;omega)
 have hnl:=nx k
 refine sk (SW.midW (fun q=>q=[tP 1 1,tO 3 8 (sG k).length,oB 1 44 [.d (.i k.id),.d (.i k.time),.d (.i k.next),.d (.sl (aF k.held)),.d (.sl (aJ k.marks)),.d (.sl (aF k.inbox))],oR 8 9 1 (bT (sG k))]) ?_ ?_)
 · refine sq (rT [1,3,15] (s3 (cd rfl (fun c15=> ?_) fun c15=> ?_)))
   · have hq:=tv (of_decide_eq_true c15)
     refine rT [1,3] (s3 (xp (jR k.time (by omega)) (ai rfl ?_)))
     refine ai (by show _≤9223372036854775807;(try simp only[aNh,aNk,aNl]);omega) (s1 (ai (by exact⟨rfl,rfl,by simp,by show(0+1)*16≤_;omega⟩) (s1 (wq [] [] (rfl) ?_))))
     repeat' apply ai
     all_goals first|exact qx|exact aA D.i (by rw[aH (by omega)];omega)|(rw[hq];done)|(rw[hq];rfl)|(rw[hq,aNh];rfl)|(rw[hq,aNh];done)|(rw[hq];simp[aL];done)|(rw[hq];exact dW _ _)|(rw[aL];done)|(simp[aL];done)|exact qz
   have hq:=zc (of_decide_eq_false c15)
   refine sk (wq [] [] (rfl) ?_)
   repeat' apply ai
   all_goals first|exact qx|exact aA D.i (by rw[aH (by omega)];omega)|(rw[hq];done)|(rw[hq];rfl)|(rw[hq,aNh];rfl)|(rw[hq,aNh];done)|(rw[hq];simp[aL];done)|(rw[hq];exact dW _ _)|(rw[aL];done)|(simp[aL];done)|exact qz
 rintro s rfl
 refine SW.midW (fun q=>q=[tP 1 1,tO 3 8 (uT k).length,oB 1 44 [.d (.i k.id),.d (.i k.time),.d (.i k.next),.d (.sl (aF k.held)),.d (.sl (aJ k.marks)),.d (.sl (aF k.inbox))],oR 8 9 1 (bT (uT k))]) ?_ ?_
 · refine sq (rT [1,3,25] (s3 (cd rfl (fun c25=> ?_) fun c25=> ?_)))
   · have hq:=tw (of_decide_eq_true c25)
     have hnl2: (sG k).length≤1:=by unfold sG;split<;>simp
     refine rT [1,3] (s3 (xp (jR k.next (by omega)) (ai rfl ?_)))
     refine ai (by show _≤9223372036854775807;(try simp only[aNh,aNk,aNl]);omega) (s1 (ai (by refine⟨rfl,aL _,by simp,?_⟩;skip;show(_+1)*16≤_;omega) (s1 (wq [] [] (rfl) ?_))))
     repeat' apply ai
     all_goals first|exact qx|exact aA D.i (by rw[aH (by omega)];omega)|(rw[hq];done)|(rw[hq];rfl)|(rw[hq,aNh];rfl)|(rw[hq,aNh];done)|(rw[hq];simp[aL];done)|(rw[hq];exact dW _ _)|(rw[aL];done)|(simp[aL];done)|exact qz
   have hq:=zd (of_decide_eq_false c25)
   refine sk (wq [] [] (rfl) ?_)
   repeat' apply ai
   all_goals first|exact qx|exact aA D.i (by rw[aH (by omega)];omega)|(rw[hq];done)|(rw[hq];rfl)|(rw[hq,aNh];rfl)|(rw[hq,aNh];done)|(rw[hq];simp[aL];done)|(rw[hq];exact dW _ _)|(rw[aL];done)|(simp[aL];done)|exact qz
 rintro s rfl
 refine sq (sq (rT [1,3,4] (s1 (bk (SW.loopW (n:=k.marks.length) (fun m q=> ∃i:Nat,m=k.marks.length - i∧i≤k.marks.length∧q=[tP 1 1,tO 3 8 (mP k (i)).length,tI 4 (i:Nat),oB 1 44 [.d (.i k.id),.d (.i k.time),.d (.i k.next),.d (.sl (aF k.held)),.d (.sl (aJ k.marks)),.d (.sl (aF k.inbox))],oR 8 9 1 (bT (mP k (i)))]) ?_ ?_)))))
 · refine wq (σ':=[tP 1 1,tO 3 8 (mP k (0)).length,tI 4 (0:Nat),oB 1 44 [.d (.i k.id),.d (.i k.time),.d (.i k.next),.d (.sl (aF k.held)),.d (.sl (aJ k.marks)),.d (.sl (aF k.inbox))],oR 8 9 1 (bT (mP k (0)))]) [] [] (⟨0,rfl,aNj _,rfl⟩) ?_
   repeat' apply ai
   all_goals first|exact qx|rfl|(rw[np];done)|(rw[aG];done)|(rw[aE];done)|exact qz
 rintro n s ⟨i,rfl,hi,rfl⟩
 refine sq (sq (rT [1,3,4,37] (s5 (cd rfl (fun c37=> ?_) fun c37=> ?_))))
 · have hi2:i<k.marks.length:=by simp[aG] at c37;omega
   have hg:=bP (l:=k.marks) hi2
   have hms:=oa hok hi2
   have hml:=ny k i
   have w1:=bU (k:=6) (n:=(k.marks.getD i .zero).frm.toNat) (by show _<10000000;omega)
   have w2:=bU (k:=6) (n:=(k.marks.getD i .zero).num.toNat) (by show _<10000000;omega)
   have w3:=bU (k:=6) (n:=(k.marks.getD i .zero).til.toNat) (by show _<10000000;omega)
   refine sk (sq (bk (sq (rT [1,3,4,5] (s3 (ai (by rw[aNf,hg];exact⟨⟨by omega,by rw[aG];omega⟩,rfl⟩) (ai (by rw[aNf,hg];exact⟨aNg rfl,rfl⟩) (s2 (wa [tP 1 1,tO 3 8 (mP k i).length,tI 4 (i:Nat),tP 5 5,oB 1 44 [.d (.i k.id),.d (.i k.time),.d (.i k.next),.d (.sl (aF k.held)),.d (.sl (aJ k.marks)),.d (.sl (aF k.inbox))],oB 5 162 [.d (.i ((k.marks.getD i .zero)).frm),.d (.i ((k.marks.getD i .zero)).num),.d (.i ((k.marks.getD i .zero)).til)],oR 8 9 1 (bT (mP k i))] [] [] ?_ ?_)))))))))
   · repeat' apply ai
     all_goals first|exact qx|(rw[aNf,hg];rfl)|exact qz
   refine rD [1,3,4] (s3 (xp (jR (k.marks.getD i .zero).frm (by omega)) (ai rfl ?_)))
   refine ai (by show _≤9223372036854775807;(try simp only[aNh,aNk,aNl]);omega) (ai (by show _≤9223372036854775807;(try simp only[aNh,aNk,aNl]);omega) (s2 (xp (jR (k.marks.getD i .zero).num (by omega)) (ai rfl ?_))))
   refine ai (by show _≤9223372036854775807;(try simp only[aNh,aNk,aNl]);omega) (ai (by show _≤9223372036854775807;(try simp only[aNh,aNk,aNl]);omega) (s2 (xp (jR (k.marks.getD i .zero).til (by omega)) (ai rfl ?_))))
   refine ai (by show _≤9223372036854775807;(try simp only[aNh,aNk,aNl]);omega) (s1 (ai (by refine⟨rfl,aL _,by simp,?_⟩;skip;show(_+1)*16≤_;omega) (s1 (ai (by kernel_rfl) (rT [1,3,4] (s3 ?_))))))
   have hq:=nt hi2
   refine wq [] [] (⟨k.marks.length - (i+1),by omega,i+1,rfl,by omega,rfl⟩) ?_
   repeat' apply ai
   all_goals first|exact qx|exact aA D.i (by rw[aH (by omega)];omega)|(rw[hq];done)|(rw[hq];rfl)|(rw[hq,aNh];rfl)|(rw[hq,aNh];done)|(rw[hq];simp[aL];done)|(rw[hq];exact dW _ _)|(rw[aL];done)|(simp[aL];done)|exact qz
 have hi3:i=k.marks.length:=by simp[aG] at c37;omega
 subst hi3
 clear hi
 refine xt (sq (sq (rT [1,3,6] (s1 (bk (SW.loopW (n:=k.held.length) (fun m q=> ∃i:Nat,m=k.held.length - i∧i≤k.held.length∧q=[tP 1 1,tO 3 8 (nT k (i)).length,tI 6 (i:Nat),oB 1 44 [.d (.i k.id),.d (.i k.time),.d (.i k.next),.d (.sl (aF k.held)),.d (.sl (aJ k.marks)),.d (.sl (aF k.inbox))],oR 8 9 1 (bT (nT k (i)))]) ?_ ?_))))))
 · refine wq (σ':=[tP 1 1,tO 3 8 (nT k (0)).length,tI 6 (0:Nat),oB 1 44 [.d (.i k.id),.d (.i k.time),.d (.i k.next),.d (.sl (aF k.held)),.d (.sl (aJ k.marks)),.d (.sl (aF k.inbox))],oR 8 9 1 (bT (nT k (0)))]) [] [] (⟨0,rfl,aNj _,rfl⟩) ?_
   repeat' apply ai
   all_goals first|exact qx|rfl|(rw[nq];done)|(rw[aG];done)|(rw[aE];done)|exact qz
 rintro n s ⟨i,rfl,hi,rfl⟩
 refine sq (sq (rT [1,3,6,66] (s5 (cd rfl (fun c66=> ?_) fun c66=> ?_))))
 · have hi2:i<k.held.length:=by simp[aE] at c66;omega
   have hg:=aS (l:=k.held) hi2
   have hmem: (k.held.getD i .zero)∈k.held:=dO hi2
   have hnt:=hk.2.1 _ hmem
   have hwl:=lR (k.held.getD i .zero)
   have hml:=nz k i
   refine sk (sq (bk (rT [1,3,6] (s4 (ai (by rw[aNf,hg];exact⟨⟨by omega,by rw[aE];omega⟩,rfl⟩) (ai (by rw[aNf,hg];exact⟨aNg rfl,rfl⟩) (xp (mJ (k.held.getD i .zero) hnt) (ai (by rw[aNf,hg];rfl) ?_))))))))
   refine ai (by show _≤9223372036854775807;(try simp only[aNh,aNk,aNl]);omega) (s1 (ai (by refine⟨rfl,aL _,by simp,?_⟩;skip;show(_+1)*16≤_;omega) (s1 (rT [1,3,6] (s3 ?_)))))
   have hq:=nu hi2
   refine wq [] [] (⟨k.held.length - (i+1),by omega,i+1,rfl,by omega,rfl⟩) ?_
   repeat' apply ai
   all_goals first|exact qx|exact aA D.i (by rw[aH (by omega)];omega)|(rw[hq];done)|(rw[hq];rfl)|(rw[hq,aNh];rfl)|(rw[hq,aNh];done)|(rw[hq];simp[aL];done)|(rw[hq];exact dW _ _)|(rw[aL];done)|(simp[aL];done)|exact qz
 have hi3:i=k.held.length:=by simp[aE] at c66;omega
 subst hi3
 clear hi
 refine xt (sq (sq (rT [1,3,7] (s1 (bk (SW.loopW (n:=k.inbox.length) (fun m q=> ∃i:Nat,m=k.inbox.length - i∧i≤k.inbox.length∧q=[tP 1 1,tO 3 8 (mQ k (i)).length,tI 7 (i:Nat),oB 1 44 [.d (.i k.id),.d (.i k.time),.d (.i k.next),.d (.sl (aF k.held)),.d (.sl (aJ k.marks)),.d (.sl (aF k.inbox))],oR 8 9 1 (bT (mQ k (i)))]) ?_ ?_))))))
 · refine wq (σ':=[tP 1 1,tO 3 8 (mQ k (0)).length,tI 7 (0:Nat),oB 1 44 [.d (.i k.id),.d (.i k.time),.d (.i k.next),.d (.sl (aF k.held)),.d (.sl (aJ k.marks)),.d (.sl (aF k.inbox))],oR 8 9 1 (bT (mQ k (0)))]) [] [] (⟨0,rfl,aNj _,rfl⟩) ?_
   repeat' apply ai
   all_goals first|exact qx|rfl|(rw[nr];done)|(rw[aG];done)|(rw[aE];done)|exact qz
 rintro n s ⟨i,rfl,hi,rfl⟩
 refine sq (sq (rT [1,3,7,83] (s5 (cd rfl (fun c83=> ?_) fun c83=> ?_))))
 · have hi2:i<k.inbox.length:=by simp[aE] at c83;omega
   have hg:=aS (l:=k.inbox) hi2
   have hmem: (k.inbox.getD i .zero)∈k.inbox:=dO hi2
   have hnt:=hk.2.2 _ hmem
   have hwl:=lR (k.inbox.getD i .zero)
   have hml:=dz k i
   refine sk (sq (bk (rT [1,3,7] (s4 (ai (by rw[aNf,hg];exact⟨⟨by omega,by rw[aE];omega⟩,rfl⟩) (ai (by rw[aNf,hg];exact⟨aNg rfl,rfl⟩) (xp (mJ (k.inbox.getD i .zero) hnt) (ai (by rw[aNf,hg];rfl) ?_))))))))
   refine ai (by show _≤9223372036854775807;(try simp only[aNh,aNk,aNl]);omega) (s1 (ai (by refine⟨rfl,aL _,by simp,?_⟩;skip;show(_+1)*16≤_;omega) (s1 (rT [1,3,7] (s3 ?_)))))
   have hq:=nw hi2
   refine wq [] [] (⟨k.inbox.length - (i+1),by omega,i+1,rfl,by omega,rfl⟩) ?_
   repeat' apply ai
   all_goals first|exact qx|exact aA D.i (by rw[aH (by omega)];omega)|(rw[hq];done)|(rw[hq];rfl)|(rw[hq,aNh];rfl)|(rw[hq,aNh];done)|(rw[hq];simp[aL];done)|(rw[hq];exact dW _ _)|(rw[aL];done)|(simp[aL];done)|exact qz
 have hi3:i=k.inbox.length:=by simp[aE] at c83;omega
 subst hi3
 clear hi
 refine xt (sq (rT [2] (s2 (rt (fV _ [] [8] rfl (gA rfl rfl rfl ?_ (aA D.sl ?_) trivial) rfl rfl)))))
 · exact aL _
 rw[wJ hok]
theorem qJ (k:bH) (hk:KB k):Sp 87 1 [tV 0 k.V] [tD 0 (.sl (bT (gG k)))]:=by
 refine sb Tryz.func87 rfl (sq (rT [1] (s2 (sq (sq (rT [1,12] (s1 (xp (nB k hk.2.1 hk.2.2) (ai rfl ?_)))))))))
 refine s1 (cd rfl (fun c12=> ?_) fun c12=> ?_)
 · have hno: ¬dG k=true:=by simpa using c12
   refine sq (rT [2] (s1 (rt (fV _ [] [] rfl (cl rfl (aA D.sl ?_) trivial) rfl rfl))))
   rw[yJ hno];rfl
 have hok:dG k=true:=by simpa using c12
 have h6:=cV hok
 obtain⟨⟨_,ht,hn,_,_,_⟩,_⟩:=(bW k).1 hok
 have q1:=bU (k:=6) (n:=k.time.toNat) (by simp;omega)
 have q2:=bU (k:=6) (n:=k.next.toNat) (by simp;omega)
 have hnl:=nx k
 refine sk (sq (rT [1,3] (s1 (SW.midW (fun q=>q=[tP 1 1,tO 3 100 (sG k).length,oB 1 44 [.d (.i k.id),.d (.i k.time),.d (.i k.next),.d (.sl (aF k.held)),.d (.sl (aJ k.marks)),.d (.sl (aF k.inbox))],oR 100 9 1 (bT (sG k))]) ?_ ?_))))
 · refine sq (SW.nilOwn 3 100 9 1 rfl rfl (rT [1,3,15] (s3 (cd rfl (fun c15=> ?_) fun c15=> ?_))))
   · have hq:=tv (of_decide_eq_true c15)
     refine rT [1,3] (s3 (xp (oO k.time (by omega)) (ai rfl ?_)))
     refine ai (by show _≤9223372036854775807;(try simp only[aNh,aNk,aNl]);omega) (s1 (ai (by exact⟨rfl,rfl,by simp,by show(0+1)*16≤_;omega⟩) (s1 (wq [] [] (rfl) ?_))))
     repeat' apply ai
     all_goals first|exact qx|exact aA D.i (by rw[aH (by omega)];omega)|(rw[hq];done)|(rw[hq];rfl)|(rw[hq,aNh];rfl)|(rw[hq,aNh];done)|(rw[hq];simp[aL];done)|(rw[hq];exact dW _ _)|(rw[aL];done)|(simp[aL];done)|exact qz
   have hq:=zc (of_decide_eq_false c15)
   refine sk (wq [] [] (rfl) ?_)
   repeat' apply ai
   all_goals first|exact qx|exact aA D.i (by rw[aH (by omega)];omega)|(rw[hq];done)|(rw[hq];rfl)|(rw[hq,aNh];rfl)|(rw[hq,aNh];done)|(rw[hq];simp[aL];done)|(rw[hq];exact dW _ _)|(rw[aL];done)|(simp[aL];done)|exact qz
 rintro s rfl
 refine SW.midW (fun q=>q=[tP 1 1,tO 3 100 (uT k).length,oB 1 44 [.d (.i k.id),.d (.i k.time),.d (.i k.next),.d (.sl (aF k.held)),.d (.sl (aJ k.marks)),.d (.sl (aF k.inbox))],oR 100 9 1 (bT (uT k))]) ?_ ?_
 · refine sq (rT [1,3,25] (s3 (cd rfl (fun c25=> ?_) fun c25=> ?_)))
   · have hq:=tw (of_decide_eq_true c25)
     have hnl2: (sG k).length≤1:=by unfold sG;split<;>simp
     refine rT [1,3] (s3 (xp (oO k.next (by omega)) (ai rfl ?_)))
     refine ai (by show _≤9223372036854775807;(try simp only[aNh,aNk,aNl]);omega) (s1 (ai (by refine⟨rfl,aL _,by simp,?_⟩;skip;show(_+1)*16≤_;omega) (s1 (wq [] [] (rfl) ?_))))
     repeat' apply ai
     all_goals first|exact qx|exact aA D.i (by rw[aH (by omega)];omega)|(rw[hq];done)|(rw[hq];rfl)|(rw[hq,aNh];rfl)|(rw[hq,aNh];done)|(rw[hq];simp[aL];done)|(rw[hq];exact dW _ _)|(rw[aL];done)|(simp[aL];done)|exact qz
   have hq:=zd (of_decide_eq_false c25)
   refine sk (wq [] [] (rfl) ?_)
   repeat' apply ai
   all_goals first|exact qx|exact aA D.i (by rw[aH (by omega)];omega)|(rw[hq];done)|(rw[hq];rfl)|(rw[hq,aNh];rfl)|(rw[hq,aNh];done)|(rw[hq];simp[aL];done)|(rw[hq];exact dW _ _)|(rw[aL];done)|(simp[aL];done)|exact qz
 rintro s rfl
 refine sq (sq (rT [1,3,34,35,36] (s4 (bk (SW.loopW (n:=k.marks.length) (fun m q=> ∃i:Nat,m=k.marks.length - i∧i≤k.marks.length∧q=[tP 1 1,tO 3 100 (mP k (i)).length,tD 34 (.sl (aJ k.marks)),tI 35 (k.marks.length:Nat),tI 36 (i:Nat),oB 1 44 [.d (.i k.id),.d (.i k.time),.d (.i k.next),.d (.sl (aF k.held)),.d (.sl (aJ k.marks)),.d (.sl (aF k.inbox))],oR 100 9 1 (bT (mP k (i)))]) ?_ ?_)))))
 · refine wq (σ':=[tP 1 1,tO 3 100 (mP k (0)).length,tD 34 (.sl (aJ k.marks)),tI 35 (k.marks.length:Nat),tI 36 (0:Nat),oB 1 44 [.d (.i k.id),.d (.i k.time),.d (.i k.next),.d (.sl (aF k.held)),.d (.sl (aJ k.marks)),.d (.sl (aF k.inbox))],oR 100 9 1 (bT (mP k (0)))]) [] [] (⟨0,rfl,aNj _,rfl⟩) ?_
   repeat' apply ai
   all_goals first|exact qx|rfl|(rw[np];done)|(rw[aG];done)|(rw[aE];done)|exact qz
 rintro n s ⟨i,rfl,hi,rfl⟩
 refine sq (rT [1,3,34,35,36,37] (s1 (sq (cd rfl (fun c37=> ?_) fun c37=> ?_))))
 · have hi2:i<k.marks.length:=by simp[aG] at c37;omega
   have hg:=bP (l:=k.marks) hi2
   have hms:=oa hok hi2
   have hml:=ny k i
   have w1:=bU (k:=6) (n:=(k.marks.getD i .zero).frm.toNat) (by show _<10000000;omega)
   have w2:=bU (k:=6) (n:=(k.marks.getD i .zero).num.toNat) (by show _<10000000;omega)
   have w3:=bU (k:=6) (n:=(k.marks.getD i .zero).til.toNat) (by show _<10000000;omega)
   refine sk (sq (bk (sq (rT [1,3,5,34,35,36] (ai (by rw[aNf,hg];exact⟨⟨by omega,by rw[aG];omega⟩,rfl⟩) (ai (by rw[aNf,hg];exact⟨aNg rfl,rfl⟩) (s2 (wa [tP 1 1,tO 3 100 (mP k (i)).length,tD 34 (.sl (aJ k.marks)),tI 35 (k.marks.length:Nat),tI 36 (i:Nat),tP 5 5,oB 1 44 [.d (.i k.id),.d (.i k.time),.d (.i k.next),.d (.sl (aF k.held)),.d (.sl (aJ k.marks)),.d (.sl (aF k.inbox))],oB 5 162 [.d (.i ((k.marks.getD i .zero)).frm),.d (.i ((k.marks.getD i .zero)).num),.d (.i ((k.marks.getD i .zero)).til)],oR 100 9 1 (bT (mP k (i)))] [] [] ?_ ?_))))))))
   · repeat' apply ai
     all_goals first|exact qx|(rw[aNf,hg];rfl)|exact qz
   refine rT [1,3,34,35,36] (s7 (xp (pG gU (k.marks.getD i .zero).frm (k.marks.getD i .zero).num (k.marks.getD i .zero).til (by omega) (by decide)) (ai rfl ?_)))
   refine s1 (ai (by refine⟨rfl,aL _,by simp,?_⟩;skip;show(_+1)*16≤_;omega) (s1 (rT [1,3,34,35,36] (s2 ?_))))
   have hq:=nt hi2
   refine wq [] [] (⟨k.marks.length - (i+1),by omega,i+1,rfl,by omega,rfl⟩) ?_
   repeat' apply ai
   all_goals first|exact qx|exact aA D.i (by rw[aH (by omega)];omega)|(rw[hq];done)|(rw[hq];rfl)|(rw[hq,aNh];rfl)|(rw[hq,aNh];done)|(rw[hq];simp[aL];done)|(rw[hq];exact dW _ _)|(rw[aL];done)|(simp[aL];done)|exact qz
 have hi3:i=k.marks.length:=by simp[aG] at c37;omega
 subst hi3
 clear hi
 refine xt (sq (sq (rT [1,3,52,53,54] (s4 (bk (SW.loopW (n:=k.held.length) (fun m q=> ∃i:Nat,m=k.held.length - i∧i≤k.held.length∧q=[tP 1 1,tO 3 100 (nT k (i)).length,tD 52 (.sl (aF k.held)),tI 53 (k.held.length:Nat),tI 54 (i:Nat),oB 1 44 [.d (.i k.id),.d (.i k.time),.d (.i k.next),.d (.sl (aF k.held)),.d (.sl (aJ k.marks)),.d (.sl (aF k.inbox))],oR 100 9 1 (bT (nT k (i)))]) ?_ ?_))))))
 · refine wq (σ':=[tP 1 1,tO 3 100 (nT k (0)).length,tD 52 (.sl (aF k.held)),tI 53 (k.held.length:Nat),tI 54 (0:Nat),oB 1 44 [.d (.i k.id),.d (.i k.time),.d (.i k.next),.d (.sl (aF k.held)),.d (.sl (aJ k.marks)),.d (.sl (aF k.inbox))],oR 100 9 1 (bT (nT k (0)))]) [] [] (⟨0,rfl,aNj _,rfl⟩) ?_
   repeat' apply ai
   all_goals first|exact qx|rfl|(rw[nq];done)|(rw[aG];done)|(rw[aE];done)|exact qz
 rintro n s ⟨i,rfl,hi,rfl⟩
 refine sq (rT [1,3,52,53,54,55] (s1 (sq (cd rfl (fun c55=> ?_) fun c55=> ?_))))
 · have hi2:i<k.held.length:=by simp[aE] at c55;omega
   have hg:=aS (l:=k.held) hi2
   have hmem: (k.held.getD i .zero)∈k.held:=dO hi2
   have hnt:=hk.2.1 _ hmem
   have hwl:=lR (k.held.getD i .zero)
   have hml:=nz k i
   refine sk (sq (bk (sq (rT [1,3,7,52,53,54] (ai (by rw[aNf,hg];exact⟨⟨by omega,by rw[aE];omega⟩,rfl⟩) (ai (by rw[aNf,hg];exact⟨aNg rfl,rfl⟩) (s2 (wa [tP 1 1,tO 3 100 (nT k (i)).length,tD 52 (.sl (aF k.held)),tI 53 (k.held.length:Nat),tI 54 (i:Nat),tP 7 7,oB 1 44 [.d (.i k.id),.d (.i k.time),.d (.i k.next),.d (.sl (aF k.held)),.d (.sl (aJ k.marks)),.d (.sl (aF k.inbox))],oB 7 52 [.d (.i ((k.held.getD i .zero)).frm),.d (.i ((k.held.getD i .zero)).num),.d (.i ((k.held.getD i .zero)).to),.d (.i ((k.held.getD i .zero)).til),.d (.s ((k.held.getD i .zero)).text)],oR 100 9 1 (bT (nT k (i)))] [] [] ?_ ?_))))))))
   · repeat' apply ai
     all_goals first|exact qx|(rw[aNf,hg];rfl)|exact qz
   refine rT [1,3,52,53,54] (s2 (xp (kD (k.held.getD i .zero) hnt) (ai rfl ?_)))
   refine ai (by show _≤9223372036854775807;(try simp only[aNh,aNk,aNl]);omega) (s1 (ai (by refine⟨rfl,aL _,by simp,?_⟩;skip;show(_+1)*16≤_;omega) (s1 (rT [1,3,52,53,54] (s2 ?_)))))
   have hq:=nu hi2
   refine wq [] [] (⟨k.held.length - (i+1),by omega,i+1,rfl,by omega,rfl⟩) ?_
   repeat' apply ai
   all_goals first|exact qx|exact aA D.i (by rw[aH (by omega)];omega)|(rw[hq];done)|(rw[hq];rfl)|(rw[hq,aNh];rfl)|(rw[hq,aNh];done)|(rw[hq];simp[aL];done)|(rw[hq];exact dW _ _)|(rw[aL];done)|(simp[aL];done)|exact qz
 have hi3:i=k.held.length:=by simp[aE] at c55;omega
 subst hi3
 clear hi
 refine xt (sq (sq (rT [3,66,67,68] (s4 (bk (SW.loopW (n:=k.inbox.length) (fun m q=> ∃i:Nat,m=k.inbox.length - i∧i≤k.inbox.length∧q=[tO 3 100 (mQ k (i)).length,tD 66 (.sl (aF k.inbox)),tI 67 (k.inbox.length:Nat),tI 68 (i:Nat),oB 1 44 [.d (.i k.id),.d (.i k.time),.d (.i k.next),.d (.sl (aF k.held)),.d (.sl (aJ k.marks)),.d (.sl (aF k.inbox))],oR 100 9 1 (bT (mQ k (i)))]) ?_ ?_))))))
 · refine wq (σ':=[tO 3 100 (mQ k (0)).length,tD 66 (.sl (aF k.inbox)),tI 67 (k.inbox.length:Nat),tI 68 (0:Nat),oB 1 44 [.d (.i k.id),.d (.i k.time),.d (.i k.next),.d (.sl (aF k.held)),.d (.sl (aJ k.marks)),.d (.sl (aF k.inbox))],oR 100 9 1 (bT (mQ k (0)))]) [] [] (⟨0,rfl,aNj _,rfl⟩) ?_
   repeat' apply ai
   all_goals first|exact qx|rfl|(rw[nr];done)|(rw[aG];done)|(rw[aE];done)|exact qz
 rintro n s ⟨i,rfl,hi,rfl⟩
 refine sq (rT [3,66,67,68,69] (s1 (sq (cd rfl (fun c69=> ?_) fun c69=> ?_))))
 · have hi2:i<k.inbox.length:=by simp[aE] at c69;omega
   have hg:=aS (l:=k.inbox) hi2
   have hmem: (k.inbox.getD i .zero)∈k.inbox:=dO hi2
   have hnt:=hk.2.2 _ hmem
   have hwl:=lR (k.inbox.getD i .zero)
   have hml:=dz k i
   refine sk (sq (bk (sq (rT [3,9,66,67,68] (ai (by rw[aNf,hg];exact⟨⟨by omega,by rw[aE];omega⟩,rfl⟩) (ai (by rw[aNf,hg];exact⟨aNg rfl,rfl⟩) (s2 (wa [tO 3 100 (mQ k (i)).length,tD 66 (.sl (aF k.inbox)),tI 67 (k.inbox.length:Nat),tI 68 (i:Nat),tP 9 9,oB 1 44 [.d (.i k.id),.d (.i k.time),.d (.i k.next),.d (.sl (aF k.held)),.d (.sl (aJ k.marks)),.d (.sl (aF k.inbox))],oB 9 52 [.d (.i ((k.inbox.getD i .zero)).frm),.d (.i ((k.inbox.getD i .zero)).num),.d (.i ((k.inbox.getD i .zero)).to),.d (.i ((k.inbox.getD i .zero)).til),.d (.s ((k.inbox.getD i .zero)).text)],oR 100 9 1 (bT (mQ k (i)))] [] [] ?_ ?_))))))))
   · repeat' apply ai
     all_goals first|exact qx|(rw[aNf,hg];rfl)|exact qz
   refine rT [3,66,67,68] (s2 (xp (kD (k.inbox.getD i .zero) hnt) (ai rfl ?_)))
   refine ai (by show _≤9223372036854775807;(try simp only[aNh,aNk,aNl]);omega) (s1 (ai (by refine⟨rfl,aL _,by simp,?_⟩;skip;show(_+1)*16≤_;omega) (s1 (rT [3,66,67,68] (s2 ?_)))))
   have hq:=nw hi2
   refine wq [] [] (⟨k.inbox.length - (i+1),by omega,i+1,rfl,by omega,rfl⟩) ?_
   repeat' apply ai
   all_goals first|exact qx|exact aA D.i (by rw[aH (by omega)];omega)|(rw[hq];done)|(rw[hq];rfl)|(rw[hq,aNh];rfl)|(rw[hq,aNh];done)|(rw[hq];simp[aL];done)|(rw[hq];exact dW _ _)|(rw[aL];done)|(simp[aL];done)|exact qz
 have hi3:i=k.inbox.length:=by simp[aE] at c69;omega
 subst hi3
 clear hi
 have hil:=dz k k.inbox.length
 refine xt (sq (rT [2] (s1 (dI (robj:=[(100,.row 9 1 (bT (mQ k k.inbox.length)))]) (rl:=[(0,80)]) (bor:=[100]) (wN (mQ k k.inbox.length) (by omega)) rfl rfl rfl rfl ⟨gA rfl rfl rfl (aL _) rfl trivial,rfl⟩ rfl (.inr (ld _)) (aV ⟨rfl,trivial⟩) (fun j hj=>by(obtain rfl:j=0:=by simpa[eJ,bO,gW] using hj);rfl) (s1 (rt (fV _ [] [80] rfl (gA rfl rfl rfl ?_ (aA D.sl ?_) trivial) rfl rfl)))))))
 · exact aL _
 rw[wJ hok]
end Go.Proofs.YtmabaopgkimfmaaGreatDoor
