/- Plain functions, and contracts of the functions that the law reaches. -/
import Derived.Test.YtmabaopgkimfmaaGreatDoorB2
set_option maxHeartbeats 12800000
namespace Go.Proofs.YtmabaopgkimfmaaGreatDoor
open Int renaming toNat_natCast→aXy
open List renaming length_append→aXz,length_cons→aX1,length_nil→aX2,length_take→aX4,getD_eq_getElem?_getD→aX6,length_drop→aX7,getElem?_eq_getElem→aX9,getElem?_eq_some_iff→aYa,range→aYb,mem_map→aYc,all_eq_true→aYd,take_length→aYe
open Nat renaming le_of_ble_eq_true→aX0,zero_le→aX5,le_refl→aX8
open Bool renaming and_eq_true→aX3
open Go Go.Ab Go.RowKit
set_option linter.unusedVariables false
set_option linter.unusedSimpArgs false
set_option maxRecDepth 9000
theorem gn (k:bH) (n:bI) (hb:k.held.length≤100000∧k.marks.length≤100000∧k.inbox.length≤100000) (hn:n.text.length≤140737488355328):Sp 246 2 [tV 0 k.V,tV 1 n.V] [tV 0 (.tup [.agg [.d (.i ((fL k n).1).id),.d (.i ((fL k n).1).time),.d (.i ((fL k n).1).next),.d (.sl (aI ((fL k n).1).held)),.d (.sl (aS ((fL k n).1).marks)),.d (.sl (aI ((fL k n).1).inbox))],.c (.d (.b (fL k n).2))])]:=by
 refine sb Tryz.func246 rfl (sq (rT [2,3,4] (s4 (sq (sq (rT [2,3,4,56] (s1 (xp (sY n hn) (ai rfl ?_)))))))))
 refine s2 (y4 (y1 (ai pk (s1 (y4 (y2 (xc (fun h=>(nQ k.held _ _ (by omega))) (ai rfl (ai rk ?_)))))))))
 refine y1 (ai pk (s1 (y4 (y2 (xc (fun h=>(nQ k.inbox _ _ (by omega))) (ai rfl (ai rk ?_)))))))
 refine y1 (ai pk (s1 (y4 (y2 (xc (fun h=>(sZ k.marks _ _ (by omega))) (ai rfl (ai rk ?_)))))))
 refine y1 (ai pk (s1 (y4 (y4 (y1 (ai pk (cd rfl (fun c56=> ?_) fun c56=> ?_)))))))
 · have ha:=ww hb c56
   refine sq (rT [4,5] (s3 (rt ?_)))
   have hr:fL k n=(k,false):=aB (bn ha)
   refine bJ rfl rfl ?_
   rw[hr]<;>rfl
 have ha:=ww hb c56
 refine sk (sq (sq (rT [2,3,4,62] (s5 (cd rfl (fun c62=> ?_) fun c62=> ?_)))))
 · refine sq (rT [2,3,4] (s3 (xp (tE k.inbox n hb.2.2) (ai rfl ?_))))
   refine s2 (rT [2,4] (s9 (xp (xN k.marks ⟨n.frm,n.num,n.til⟩ hb.2.1) (ai rfl ?_))))
   refine s2 (sq (rT [4,5] (s3 (rt ?_))))
   first|have hr:=aCd ha c62|have hr:=aCe ha c62
   refine bJ rfl rfl ?_
   rw[hr]<;>rfl
 refine rT [2,4] (s3 (xp (tE k.held n hb.1) (ai rfl ?_)))
 refine s2 (sq (rT [4,5] (s3 (rt ?_))))
 first|have hr:=aCd ha c62|have hr:=aCe ha c62
 refine bJ rfl rfl ?_
 rw[hr]<;>rfl
theorem aEs (k:bH) (w:List UInt8) (n:Int) (hb:k.held.length≤100000∧k.marks.length≤100000∧k.inbox.length≤100000):Sp 205 3 [tV 0 k.V,tD 1 (.s w),tI 2 n] [tV 0 (.tup [.agg [.d (.i ((lE k w n).1).id),.d (.i ((lE k w n).1).time),.d (.i ((lE k w n).1).next),.d (.sl (aI ((lE k w n).1).held)),.d (.sl (aS ((lE k w n).1).marks)),.d (.sl (aI ((lE k w n).1).inbox))],.c (.d (.b (lE k w n).2))])]:=by
 refine sb Tryz.func205 rfl (sq (rT [1,2,3,6] (s3 (sq (bk (sq (rT [1,2,3,6,8] (s3 (y4 (ai pk (s1 (cd rfl (fun c8=> ?_) fun c8=> ?_))))))))))))
 · refine sq (rT [6,7] (s2 (xp (zc k n hb) (ai rfl ?_))))
   refine s2 (rt ?_)
   have hr:lE k w n=(kZ k n,true):=aC c8
   refine bJ rfl rfl ?_
   rw[hr]<;>rfl
 refine sq (rT [2,3,6,20] (s3 (y4 (ai pk (s1 (cd rfl (fun c20=> ?_) fun c20=> ?_))))))
 · refine sq (rT [3,6] (s3 (sq (rT [6,7] (s3 (rt ?_))))))
   have hr:lE k w n=({k with next:=n},true):=(aB (bn c8)).trans (aC c20)
   refine bJ rfl rfl ?_
   rw[hr]<;>rfl
 refine sk (sq (rT [6,7] (s3 (rt ?_))))
 have hr:lE k w n=(k,false):=(aB (bn c8)).trans (aB (bn c20))
 refine bJ rfl rfl ?_
 rw[hr]<;>rfl
theorem aA1 (k:bH) (w:List UInt8) (n:bI) (hb:k.held.length≤100000∧k.marks.length≤100000∧k.inbox.length≤100000) (hn:n.text.length≤140737488355328):Sp 207 3 [tV 0 k.V,tD 1 (.s w),tV 2 n.V] [tV 0 (.tup [.agg [.d (.i ((fT k w n).1).id),.d (.i ((fT k w n).1).time),.d (.i ((fT k w n).1).next),.d (.sl (aI ((fT k w n).1).held)),.d (.sl (aS ((fT k w n).1).marks)),.d (.sl (aI ((fT k w n).1).inbox))],.c (.d (.b (fT k w n).2))])]:=by
 refine sb Tryz.func207 rfl (sq (rT [1,3,5,6] (s4 (sq (bk (sq (rT [1,3,5,6,8] (s3 (y4 (y1 (ai pk (s1 (y4 (y1 (ai pk (s1 (cd rfl (fun c8=> ?_) fun c8=> ?_)))))))))))))))))
 · refine sq (rT [3,5,6] (s5 (sq (rT [6,7] (s2 (xp (gn {k with next:=wrap64 (k.next+1)} n hb hn) (ai rfl ?_)))))))
   refine s4 (rt ?_)
   have hr:fT k w n=fL {k with next:=wrap64 (k.next+1)} n:=aC c8
   refine bJ rfl rfl ?_
   rw[hr]<;>rfl
 refine sq (rT [1,3,5,6,34] (s3 (y4 (y1 (ai pk (s1 (cd rfl (fun c34=> ?_) fun c34=> ?_)))))))
 · refine sq (rT [6,7] (s2 (xp (gn k n hb hn) (ai rfl ?_))))
   refine s4 (rt ?_)
   have hr:fT k w n=fL k n:=(aB (bn c8)).trans (aC c34)
   refine bJ rfl rfl ?_
   rw[hr]<;>rfl
 refine sq (rT [1,3,5,6,49] (s6 (xp (nQ k.held _ _ (by omega)) (ai rfl ?_))))
 refine s2 (y4 (y2 (xc (fun h=>(nQ k.inbox _ _ (by omega))) (ai rfl (ai rk ?_)))))
 refine y1 (ai pk (s1 (cd rfl (fun c49=> ?_) fun c49=> ?_)))
 · refine sk (sq (rT [6,7] (s3 (rt ?_))))
   have hr:fT k w n=(k,false):=by
    first|exact(aB (bn c8)).trans ((aB (bn c34)).trans (aC c49))|exact(aB (bn c8)).trans ((aB (bn c34)).trans ((aB (bn c49)).trans ((aB (bn c68)).trans (aB (bn c77)))))
   refine bJ rfl rfl ?_
   rw[hr]<;>rfl
 refine sq (rT [1,3,5,6,68] (s3 (cd rfl (fun c68=> ?_) fun c68=> ?_)))
 · refine sq (rT [3,6] (s3 (xp (tE k.held n hb.1) (ai rfl ?_))))
   refine s2 (sq (rT [6,7] (s3 (rt ?_))))
   have hr:fT k w n=({k with held:=kK k.held n},true):=(aB (bn c8)).trans ((aB (bn c34)).trans ((aB (bn c49)).trans (aC c68)))
   refine bJ rfl rfl ?_
   rw[hr]<;>rfl
 refine sq (rT [3,5,6,77] (s3 (cd rfl (fun c77=> ?_) fun c77=> ?_)))
 · refine sq (rT [3,6] (s3 (xp (tE k.inbox n hb.2.2) (ai rfl ?_))))
   refine s2 (sq (rT [6,7] (s3 (rt ?_))))
   have hr:fT k w n=({k with inbox:=kK k.inbox n},true):=(aB (bn c8)).trans ((aB (bn c34)).trans ((aB (bn c49)).trans ((aB (bn c68)).trans (aC c77))))
   refine bJ rfl rfl ?_
   rw[hr]<;>rfl
 refine sk (sq (rT [6,7] (s3 (rt ?_))))
 have hr:fT k w n=(k,false):=by
  first|exact(aB (bn c8)).trans ((aB (bn c34)).trans (aC c49))|exact(aB (bn c8)).trans ((aB (bn c34)).trans ((aB (bn c49)).trans ((aB (bn c68)).trans (aB (bn c77)))))
 refine bJ rfl rfl ?_
 rw[hr]<;>rfl
theorem aA2 (k:bH) (w:List UInt8) (m:cD) (hb:k.held.length≤100000∧k.marks.length≤100000∧k.inbox.length≤100000):Sp 210 3 [tV 0 k.V,tD 1 (.s w),tV 2 m.V] [tV 0 (.tup [.agg [.d (.i ((jA k w m).1).id),.d (.i ((jA k w m).1).time),.d (.i ((jA k w m).1).next),.d (.sl (aI ((jA k w m).1).held)),.d (.sl (aS ((jA k w m).1).marks)),.d (.sl (aI ((jA k w m).1).inbox))],.c (.d (.b (jA k w m).2))])]:=by
 refine sb Tryz.func210 rfl (sq (rT [1,3,5,6] (s4 (sq (rD [1,3,5,6,8,9] (s6 (xp (nQ k.held _ _ (by omega)) (ai rfl ?_))))))))
 refine s6 (xp (nQ k.inbox _ _ (by omega)) (ai rfl ?_))
 refine s2 (ai (by kernel_rfl) (sq (rT [1,3,5,6,8,9,10] (s6 (xp (sZ k.marks _ _ (by omega)) (ai rfl ?_))))))
 refine s2 (sq (bk (sq (rD [1,3,5,6,8,9,10,33] (s3 (y2 (ai pk (s1 (y3 (ai (fun h=>(by skip;have hp:0≤bD k.held m.frm m.num:=(by have h8:=h;simp only[gb,aX3,aD] at h8;exact h8.2);have hr:=fX k.held m.frm m.num;rw[aX (by omega)];exact⟨⟨hp,by rw[aH];omega⟩,rfl⟩)) (ai rk (y1 (ai (fun h=>(by have hp:0≤bD k.held m.frm m.num:=(by have h8:=h;simp only[gb,aX3,aD] at h8;exact h8.2);have hr:=fX k.held m.frm m.num;rw[aX (by omega)];exact⟨aX0 rfl,rfl⟩)) (ai rk (y3 (ai pk (s1 (ai (by kernel_rfl) (cd rfl (fun c33=> ?_) fun c33=> ?_)))))))))))))))))))
 · have hc: (w==oD&&decide (0≤bD k.held m.frm m.num)&&(k.held.getD (bD k.held m.frm m.num).toNat .zero).til==m.til)=true:=by
    have h9:=c33
    by_cases hp:0≤bD k.held m.frm m.num
    · have hr:=fX k.held m.frm m.num
      rw[aX (by omega)] at h9
      exact h9
    · rw[show decide (bD k.held m.frm m.num≥0)=false from decide_eq_false hp,Bool.and_false,Bool.false_and] at h9
      rw[show decide (0≤bD k.held m.frm m.num)=false from decide_eq_false hp,Bool.and_false,Bool.false_and]<;>exact h9
   have hp:0≤bD k.held m.frm m.num:=by
    simp only[aX3,aD] at hc
    exact hc.1.2
   have hr:=fX k.held m.frm m.num
   refine sq (rT [3,5,6] (s3 (xp (dq k.held (bD k.held m.frm m.num) ⟨hp,by omega⟩ hb.1) (ai rfl ?_))))
   refine s2 (sq (rT [3,6] (s3 (xp (xN k.marks m hb.2.1) (ai rfl ?_)))))
   refine s2 (sq (rT [6,7] (s3 (rt ?_))))
   have hr:jA k w m=({k with held:=iB k.held (bD k.held m.frm m.num).toNat,marks:=qA k.marks m},true):=aC hc
   refine bJ rfl rfl ?_
   rw[hr]<;>rfl
 have hc: (w==oD&&decide (0≤bD k.held m.frm m.num)&&(k.held.getD (bD k.held m.frm m.num).toNat .zero).til==m.til)=false:=by
  have h9:=c33
  by_cases hp:0≤bD k.held m.frm m.num
  · have hr:=fX k.held m.frm m.num
    rw[aX (by omega)] at h9
    exact h9
  · rw[show decide (bD k.held m.frm m.num≥0)=false from decide_eq_false hp,Bool.and_false,Bool.false_and] at h9
    rw[show decide (0≤bD k.held m.frm m.num)=false from decide_eq_false hp,Bool.and_false,Bool.false_and]<;>exact h9
 have hc1:=hc
 clear hc
 refine sq (rD [1,3,5,6,9,10,62] (s3 (y2 (ai pk (s1 (y3 (ai (fun h=>(by skip;have hp:0≤bD k.inbox m.frm m.num:=(by have h8:=h;simp only[gb,aX3,aD] at h8;exact h8.2);have hr:=fX k.inbox m.frm m.num;rw[aX (by omega)];exact⟨⟨hp,by rw[aH];omega⟩,rfl⟩)) (ai rk (y1 (ai (fun h=>(by have hp:0≤bD k.inbox m.frm m.num:=(by have h8:=h;simp only[gb,aX3,aD] at h8;exact h8.2);have hr:=fX k.inbox m.frm m.num;rw[aX (by omega)];exact⟨aX0 rfl,rfl⟩)) (ai rk (y3 (ai pk (s1 (ai (by kernel_rfl) (cd rfl (fun c62=> ?_) fun c62=> ?_))))))))))))))))
 · have hc: (w==nI&&decide (0≤bD k.inbox m.frm m.num)&&(k.inbox.getD (bD k.inbox m.frm m.num).toNat .zero).til==m.til)=true:=by
    have h9:=c62
    by_cases hp:0≤bD k.inbox m.frm m.num
    · have hr:=fX k.inbox m.frm m.num
      rw[aX (by omega)] at h9
      exact h9
    · rw[show decide (bD k.inbox m.frm m.num≥0)=false from decide_eq_false hp,Bool.and_false,Bool.false_and] at h9
      rw[show decide (0≤bD k.inbox m.frm m.num)=false from decide_eq_false hp,Bool.and_false,Bool.false_and]<;>exact h9
   have hp:0≤bD k.inbox m.frm m.num:=by
    simp only[aX3,aD] at hc
    exact hc.1.2
   have hr:=fX k.inbox m.frm m.num
   refine sq (rT [3,6] (s3 (xp (dq k.inbox (bD k.inbox m.frm m.num) ⟨hp,by omega⟩ hb.2.2) (ai rfl ?_))))
   refine s2 (sq (rT [6,7] (s3 (rt ?_))))
   have hr:jA k w m=({k with inbox:=iB k.inbox (bD k.inbox m.frm m.num).toNat},true):=(aB (bn hc1)).trans (aC hc)
   refine bJ rfl rfl ?_
   rw[hr]<;>rfl
 have hc: (w==nI&&decide (0≤bD k.inbox m.frm m.num)&&(k.inbox.getD (bD k.inbox m.frm m.num).toNat .zero).til==m.til)=false:=by
  have h9:=c62
  by_cases hp:0≤bD k.inbox m.frm m.num
  · have hr:=fX k.inbox m.frm m.num
    rw[aX (by omega)] at h9
    exact h9
  · rw[show decide (bD k.inbox m.frm m.num≥0)=false from decide_eq_false hp,Bool.and_false,Bool.false_and] at h9
    rw[show decide (0≤bD k.inbox m.frm m.num)=false from decide_eq_false hp,Bool.and_false,Bool.false_and]<;>exact h9
 refine sq (rT [3,5,6,86] (s3 (y2 (ai pk (s1 (cd rfl (fun c86=> ?_) fun c86=> ?_))))))
 · have hm: (w==iL&&decide (hD k.marks m.frm m.num<0))=true:=by
    have h9:=c86
    rw[aB6,Bool.not_not] at h9
    exact h9
   refine sq (rT [3,6] (s3 (xp (xN k.marks m hb.2.1) (ai rfl ?_))))
   refine s2 (sq (rT [6,7] (s3 (rt ?_))))
   have hr:jA k w m=({k with marks:=qA k.marks m},true):=(aB (bn hc1)).trans ((aB (bn hc)).trans (aC hm))
   refine bJ rfl rfl ?_
   rw[hr]<;>rfl
 have hm: (w==iL&&decide (hD k.marks m.frm m.num<0))=false:=by
  have h9:=c86
  rw[aB6,Bool.not_not] at h9
  exact h9
 refine sk (sq (rT [6,7] (s3 (rt ?_))))
 have hr:jA k w m=(k,false):=(aB (bn hc1)).trans ((aB (bn hc)).trans (aB (bn hm)))
 refine bJ rfl rfl ?_
 rw[hr]<;>rfl
theorem aEt (k:bH) (rec:List UInt8) (hb:k.held.length≤100000∧k.marks.length≤100000∧k.inbox.length≤100000) (hr:rec.length≤900000):Sp 170 2 [tV 0 k.V,tD 1 (.s rec)] [tV 0 (.tup [.agg [.d (.i ((eS k rec).1).id),.d (.i ((eS k rec).1).time),.d (.i ((eS k rec).1).next),.d (.sl (aI ((eS k rec).1).held)),.d (.sl (aS ((eS k rec).1).marks)),.d (.sl (aI ((eS k rec).1).inbox))],.c (.d (.b (eS k rec).2))])]:=by
 have hl1:=uX rec
 have hl2:=ew rec
 have hl3:=zR (aT rec)
 refine sb Tryz.func170 rfl (sq (rT [1,2,4] (s3 (sq (rT [2,4,6,7,8] (s1 (xp (aA0 rec (by omega)) (ai rfl ?_))))))))
 refine s7 (sq (sq (rT [2,4,6,7,22] (s2 (cd rfl (fun c22=> ?_) fun c22=> ?_)))))
 · have hs:gC rec=false:=by simpa using c22
   refine sq (rT [4,5] (s3 (rt ?_)))
   have hr:eS k rec=(k,false):=aMi hs
   refine bJ rfl rfl ?_
   rw[hr]<;>rfl
 have hs:gC rec=true:=by simpa using c22
 refine sk (sq (sq (rT [2,4,6,7,24] (s1 (bk (SW.midW (fun q=>q=[tP 2 2,tP 4 4,tD 6 (.s (bK rec)),tD 7 (.s (aT rec)),tD 24 (.s (bK rec)),tB 25 (bK rec==jD||bK rec==jL),oB 2 44 [.d (.i k.id),.d (.i k.time),.d (.i k.next),.d (.sl (aI k.held)),.d (.sl (aS k.marks)),.d (.sl (aI k.inbox))],oB 4 44 [.d (.i 0),.d (.i 0),.d (.i 0),.nil,.nil,.nil]]) ?_ ?_))))))
 · refine sq (rT [2,4,6,7,24,25] (s2 (cd rfl (fun c25=> ?_) fun c25=> ?_)))
   · refine sk (wq [] [] (rfl) ?_)
     repeat' apply ai
     all_goals first|exact qx|(refine aA D.b ?_;simp_all[jD,jL,iE,gL,iC,fS,oD,nI,iL])|exact qz
   refine rT [2,4,6,7,24,25] (s2 (wq [] [] (rfl) ?_))
   repeat' apply ai
   all_goals first|exact qx|(refine aA D.b ?_;simp_all[jD,jL,iE,gL,iC,fS,oD,nI,iL])|exact qz
 rintro s rfl
 refine cd rfl (fun c25=> ?_) fun c25=> ?_
 · refine sq (rT [2,4,6,9,10] (s1 (xp (aC0 (aT rec) (by omega)) (ai rfl ?_))))
   refine s5 (sq (rT [2,4,6,9,33] (s1 (cd rfl (fun c33=> ?_) fun c33=> ?_))))
   · refine sq (rT [4,5] (s3 (xp (aEs k (bK rec) (jG (aT rec)) hb) (ai rfl ?_))))
     refine s4 (rt ?_)
     have hr:eS k rec=_:=wx hs c25 c33
     refine bJ rfl rfl ?_
     rw[hr]<;>rfl
   refine sk (sq (rT [4,5] (s3 (rt ?_))))
   have hr2:eS k rec=(k,false):=by
    first|exact fb hs c25 c33|exact sE hs c25 c40 c50|exact zS hs c25 c40 c57 hm3|exact li hs c25 c40 c57
   refine bJ rfl rfl ?_
   rw[hr2]<;>rfl
 refine SW.midW (fun q=>q=[tP 2 2,tP 4 4,tD 6 (.s (bK rec)),tD 7 (.s (aT rec)),tD 24 (.s (bK rec)),tB 40 (bK rec==iE||bK rec==gL||bK rec==iC||bK rec==fS),oB 2 44 [.d (.i k.id),.d (.i k.time),.d (.i k.next),.d (.sl (aI k.held)),.d (.sl (aS k.marks)),.d (.sl (aI k.inbox))],oB 4 44 [.d (.i 0),.d (.i 0),.d (.i 0),.nil,.nil,.nil]]) ?_ ?_
 · refine sq (rT [2,4,6,7,24,40] (s2 (cd rfl (fun c40=> ?_) fun c40=> ?_)))
   · refine sk (wq [] [] (rfl) ?_)
     repeat' apply ai
     all_goals first|exact qx|(refine aA D.b ?_;simp_all[jD,jL,iE,gL,iC,fS,oD,nI,iL])|exact qz
   refine sq (rT [2,4,6,7,24,40] (s2 (cd rfl (fun c40_2=> ?_) fun c40_2=> ?_)))
   · refine sk (wq [] [] (rfl) ?_)
     repeat' apply ai
     all_goals first|exact qx|(refine aA D.b ?_;simp_all[jD,jL,iE,gL,iC,fS,oD,nI,iL])|exact qz
   refine sq (rT [2,4,6,7,24,40] (s2 (cd rfl (fun c40_3=> ?_) fun c40_3=> ?_)))
   · refine sk (wq [] [] (rfl) ?_)
     repeat' apply ai
     all_goals first|exact qx|(refine aA D.b ?_;simp_all[jD,jL,iE,gL,iC,fS,oD,nI,iL])|exact qz
   refine rT [2,4,6,7,24,40] (s2 (wq [] [] (rfl) ?_))
   repeat' apply ai
   all_goals first|exact qx|(refine aA D.b ?_;simp_all[jD,jL,iE,gL,iC,fS,oD,nI,iL])|exact qz
 rintro s rfl
 refine cd rfl (fun c40=> ?_) fun c40=> ?_
 · refine sq (rT [2,4,6,11,12] (s1 (xp (tt (aT rec) (by omega)) (ai rfl ?_))))
   refine s6 (sq (rT [2,4,6,11,50] (s1 (cd rfl (fun c50=> ?_) fun c50=> ?_))))
   · refine sq (rT [4,5] (s3 (xp (aA1 k (bK rec) (eG (aT rec)).1 hb (by omega)) (ai rfl ?_))))
     refine s4 (rt ?_)
     have hr:eS k rec=_:=aCf hs c25 c40 c50
     refine bJ rfl rfl ?_
     rw[hr]<;>rfl
   refine sk (sq (rT [4,5] (s3 (rt ?_))))
   have hr2:eS k rec=(k,false):=by
    first|exact fb hs c25 c33|exact sE hs c25 c40 c50|exact zS hs c25 c40 c57 hm3|exact li hs c25 c40 c57
   refine bJ rfl rfl ?_
   rw[hr2]<;>rfl
 refine SW.midW (fun q=>q=[tP 2 2,tP 4 4,tD 6 (.s (bK rec)),tD 7 (.s (aT rec)),tB 57 (bK rec==oD||bK rec==nI||bK rec==iL),oB 2 44 [.d (.i k.id),.d (.i k.time),.d (.i k.next),.d (.sl (aI k.held)),.d (.sl (aS k.marks)),.d (.sl (aI k.inbox))],oB 4 44 [.d (.i 0),.d (.i 0),.d (.i 0),.nil,.nil,.nil]]) ?_ ?_
 · refine sq (rT [2,4,6,7,24,57] (s2 (cd rfl (fun c57=> ?_) fun c57=> ?_)))
   · refine sk (wq [] [] (rfl) ?_)
     repeat' apply ai
     all_goals first|exact qx|(refine aA D.b ?_;simp_all[jD,jL,iE,gL,iC,fS,oD,nI,iL])|exact qz
   refine sq (rT [2,4,6,7,24,57] (s2 (cd rfl (fun c57_2=> ?_) fun c57_2=> ?_)))
   · refine sk (wq [] [] (rfl) ?_)
     repeat' apply ai
     all_goals first|exact qx|(refine aA D.b ?_;simp_all[jD,jL,iE,gL,iC,fS,oD,nI,iL])|exact qz
   refine rT [2,4,6,7,57] (s2 (wq [] [] (rfl) ?_))
   repeat' apply ai
   all_goals first|exact qx|(refine aA D.b ?_;simp_all[jD,jL,iE,gL,iC,fS,oD,nI,iL])|exact qz
 rintro s rfl
 refine cd rfl (fun c57=> ?_) fun c57=> ?_
 · refine sq (rT [2,4,6,13,14] (s1 (xp (tq (aT rec) (by omega)) (ai rfl ?_))))
   refine xp (bm (dL (aT rec)) (by have:=aMh (aT rec);omega) (fun x hx=>by have:=aPa (aT rec) x hx;omega)) (ai rfl ?_)
   refine s5 (sq (rT [2,4,6,13,72] (s2 (y3 (ai pk (cd rfl (fun c72=> ?_) fun c72=> ?_))))))
   · have hm3:=aCh c72
     have hm4:=hm3
     rw[aX3,beq_iff_eq] at hm4
     obtain⟨hno,hl4⟩:=hm4
     have e0:toI (((dE (lD (dL (aT rec)))).getD 0 []).getD 0 (.i 0))=jG ((dL (aT rec)).getD 0 []):=aD2 hno (by omega)
     have e1:toI (((dE (lD (dL (aT rec)))).getD 1 []).getD 0 (.i 0))=jG ((dL (aT rec)).getD 1 []):=aD2 hno (by omega)
     have e2:toI (((dE (lD (dL (aT rec)))).getD 2 []).getD 0 (.i 0))=jG ((dL (aT rec)).getD 2 []):=aD2 hno (by omega)
     refine sq (rD [4,5] (s3 (ai (by exact kt (l:=lD (dL (aT rec))) (by omega) (by rw[iM hno];omega)) (ai (by have:=iV (l:=lD (dL (aT rec))) (i:=0) (by rw[iM hno];omega);first|(rw[show((0:Int)).toNat=((0:Nat):Int).toNat from rfl,this];exact⟨aX0 rfl,rfl⟩)) (s1 (ai (by exact kt (l:=lD (dL (aT rec))) (by omega) (by rw[iM hno];omega)) (ai (by have:=iV (l:=lD (dL (aT rec))) (i:=1) (by rw[iM hno];omega);first|(rw[show((1:Int)).toNat=((1:Nat):Int).toNat from rfl,this];exact⟨aX0 rfl,rfl⟩)) (s1 (ai (by exact kt (l:=lD (dL (aT rec))) (by omega) (by rw[iM hno];omega)) (ai (by have:=iV (l:=lD (dL (aT rec))) (i:=2) (by rw[iM hno];omega);first|(rw[show((2:Int)).toNat=((2:Nat):Int).toNat from rfl,this];exact⟨aX0 rfl,rfl⟩)) (s1 (xp (aA2 k (bK rec) (three (dL (aT rec))) hb) (ai (by exact aXs e0 e1 e2) ?_)))))))))))))
     refine s4 (ai (by kernel_rfl) (rt ?_))
     have hr:eS k rec=_:=aCg hs c25 c40 c57 hm3
     refine bJ rfl rfl ?_
     rw[hr]<;>rfl
   have hm3:=aCh c72
   refine sk (sq (rT [4,5] (s3 (rt ?_))))
   have hr2:eS k rec=(k,false):=by
    first|exact fb hs c25 c33|exact sE hs c25 c40 c50|exact zS hs c25 c40 c57 hm3|exact li hs c25 c40 c57
   refine bJ rfl rfl ?_
   rw[hr2]<;>rfl
 refine sk (sq (rT [4,5] (s3 (rt ?_))))
 have hr2:eS k rec=(k,false):=by
  first|exact fb hs c25 c33|exact sE hs c25 c40 c50|exact zS hs c25 c40 c57 hm3|exact li hs c25 c40 c57
 refine bJ rfl rfl ?_
 rw[hr2]<;>rfl
theorem qf (id:Int):Sp 112 1 [tI 0 id] [tV 0 ((dS id).V)]:=by
 refine sb Tryz.func112 rfl (sq (rT [0,2] (s1 (sq (sq (rT [0,2,5] (s1 (xp (jO _) (ai rfl ?_)))))))))
 refine s1 (cd rfl (fun c5=> ?_) fun c5=> ?_)
 · have hr:dS id= .zero:=aB (by simpa using c5)
   refine sq (rT [2] (s2 (rt ?_)))
   rw[hr]
   exact rq [] [] rfl qz
 have hr:dS id=⟨id,0,1,[],[],[]⟩:=aC (by simpa using c5)
 refine sk (sq (rT [2] (s3 (rt ?_))))
 rw[hr]
 exact rq [] [] rfl qz
theorem go (k:bH) (rec:List UInt8) (hk:KB k) (hr:rec.length≤900000):Sp 113 2 [tV 0 k.V,tD 1 (.s rec)] [tV 0 (.tup [.agg [.d (.i ((cV k rec).1).id),.d (.i ((cV k rec).1).time),.d (.i ((cV k rec).1).next),.d (.sl (aI ((cV k rec).1).held)),.d (.sl (aS ((cV k rec).1).marks)),.d (.sl (aI ((cV k rec).1).inbox))],.c (.d (.b (cV k rec).2))])]:=by
 refine sb Tryz.func113 rfl (sq (rT [1,2,4] (s3 (sq (sq (rT [1,2,4,10] (s1 (xp (xL k hk.2.1 hk.2.2) (ai rfl ?_)))))))))
 refine s1 (cd rfl (fun c10=> ?_) fun c10=> ?_)
 · refine sq (rT [4,5] (s3 (rt ?_)))
   have hr:cV k rec=(.zero,false):=aB (by simpa using c10)
   rw[hr]
   exact rq [] [] rfl qz
 have hok:dI k=true:=by simpa using c10
 refine sk (sq (rT [2,4,6,7] (s1 (xp (uC k (by have:=hk.1;omega)) (ai rfl ?_)))))
 refine s1 (xp (aEt k rec hk.1 hr) (ai rfl ?_))
 refine s6 (sq (sq (rT [2,4,6,25] (s3 (y1 (xc (fun h=>xL (eS k rec).1 (pb (fD hok) (by omega)).2.1 (pb (fD hok) (by omega)).2.2) (ai rfl (ai rk ?_))))))))
 refine y1 (ai pk (cd rfl (fun c25=> ?_) fun c25=> ?_))
 · refine sq (rT [4,5] (s1 (xp (uC k (by have:=hk.1;omega)) (ai rfl ?_))))
   refine s2 (rt ?_)
   have hr:cV k rec=(k,false):=(aC hok).trans (aB (by intro h;rw[aX3] at h;rw[h.1,h.2] at c25;cases c25))
   rw[hr]
   exact rq [] [] rfl qz
 refine sk (sq (rT [4,5] (s1 (xp (uC (eS k rec).1 (by have:=(pb (fD hok) (show rec.length≤1000000 by omega)).1;omega)) (ai rfl ?_)))))
 refine s2 (rt ?_)
 have hr:cV k rec=((eS k rec).1,true):=(aC hok).trans (aC (by simpa using c25))
 rw[hr]
 exact rq [] [] rfl qz
theorem xO (id:Int) (l:List (List UInt8)) (hl:l.length≤900000) (hx: ∀x∈l,x.length≤900000):Sp 50 2 [tI 0 id,tD 1 (.sl (bF l))] [tV 0 (.tup [.agg [.d (.i ((eI id l).1).id),.d (.i ((eI id l).1).time),.d (.i ((eI id l).1).next),.d (.sl (aI ((eI id l).1).held)),.d (.sl (aS ((eI id l).1).marks)),.d (.sl (aI ((eI id l).1).inbox))],.c (.d (.b (eI id l).2))])]:=by
 refine sb Tryz.func50 rfl (sq (rT [0,1,4] (s2 (sq (sq (rT [0,1,4,13] (s1 (xp (jO _) (ai rfl ?_)))))))))
 refine s1 (cd rfl (fun c13=> ?_) fun c13=> ?_)
 · refine sq (rT [4,5] (s3 (rt ?_)))
   have hr:eI id l=(.zero,false):=aB (by simpa using c13)
   rw[hr]
   exact rq [] [] rfl qz
 have hnode:eR id=true:=by simpa using c13
 refine sk (sq (rT [1,4,6] (s1 (xp (qf id) (ai rfl ?_)))))
 refine s2 (sq (sq (rT [4,6,17,18,19] (s3 (bk (SW.loopW (n:=l.length) (fun m s=> ∃(i:Nat) (q:bH),m=l.length - i∧i≤l.length∧K6 q∧gN (dS id) l=gN q (l.drop i)∧s=[tP 4 4,tP 6 6,tD 17 (.sl (bF l)),tI 18 (l.length:Nat),tI 19 (i:Nat),oB 4 44 [.d (.i 0),.d (.i 0),.d (.i 0),.nil,.nil,.nil],oB 6 44 [.d (.i (q).id),.d (.i (q).time),.d (.i (q).next),.d (.sl (aI (q).held)),.d (.sl (aS (q).marks)),.d (.sl (aI (q).inbox))]]) ?_ ?_))))))
 · refine wq (σ':=[tP 4 4,tP 6 6,tD 17 (.sl (bF l)),tI 18 (l.length:Nat),tI 19 (0:Nat),oB 4 44 [.d (.i 0),.d (.i 0),.d (.i 0),.nil,.nil,.nil],oB 6 44 [.d (.i (dS id).id),.d (.i (dS id).time),.d (.i (dS id).next),.d (.sl (aI (dS id).held)),.d (.sl (aS (dS id).marks)),.d (.sl (aI (dS id).inbox))]]) [] [] (⟨0,dS id,rfl,aX5 _,lj id,rfl,rfl⟩) ?_
   repeat' apply ai
   all_goals first|exact qx|rfl|(rw[aP];done)|exact qz
 rintro n s ⟨i,q,rfl,hi,hq,hgo,rfl⟩
 refine sq (rT [4,6,17,18,19,20] (s1 (sq (cd rfl (fun c20=> ?_) fun c20=> ?_))))
 · have hi2:i<l.length:=by simpa using c20
   have hg:=fZ (l:=l) hi2
   have hmem:l.getD i []∈l:=dQ hi2
   refine sk (sq (bk (sq (rT [4,6,8,17,18,19] (ai (by rw[aXy,hg];exact⟨⟨by omega,by rw[aP];omega⟩,rfl⟩) (ai (by rw[aXy,hg];exact⟨aX0 rfl,rfl⟩) (s1 (sq (wa [tP 4 4,tP 6 6,tD 8 (.s (l.getD i [])),tD 17 (.sl (bF l)),tI 18 (l.length:Nat),tI 19 (i:Nat),oB 4 44 [.d (.i 0),.d (.i 0),.d (.i 0),.nil,.nil,.nil],oB 6 44 [.d (.i (q).id),.d (.i (q).time),.d (.i (q).next),.d (.sl (aI (q).held)),.d (.sl (aS (q).marks)),.d (.sl (aI (q).inbox))]] [] [] ?_ ?_)))))))))
   · repeat' apply ai
     all_goals first|exact qx|(rw[aXy,hg];rfl)|exact qz
   refine rT [4,6,9,10,17,18,19] (s2 (xp (go q (l.getD i []) hq.seven.big (hx _ hmem)) (ai rfl ?_)))
   refine s6 (sq (sq (rT [4,6,9,17,18,19,30] (s2 (cd rfl (fun c30=> ?_) fun c30=> ?_)))))
   · have hno: (cV q (l.getD i [])).2=false:=by simpa using c30
     rw[List.drop_eq_getElem_cons hi2,gN,show l[i]=l.getD i [] by rw[aX6,aX9 hi2];rfl,hno] at hgo
     refine sq (rT [4,5] (s3 (rt ?_)))
     have hr:eI id l=(.zero,false):=(aC hnode).trans (hgo.trans (aB (by simp)))
     rw[hr]
     exact rq [] [] rfl qz
   have hno: (cV q (l.getD i [])).2=true:=by simpa using c30
   rw[List.drop_eq_getElem_cons hi2,gN,show l[i]=l.getD i [] by rw[aX6,aX9 hi2];rfl,aC hno] at hgo
   refine sk (rT [4,6,17,18,19] (s2 (rT [4,6,17,18,19] (s2 (wq [] [] (⟨l.length - (i+1),by omega,i+1,(cV q (l.getD i [])).1,rfl,by omega,aCj,hgo,rfl⟩) ?_)))))
   repeat' apply ai
   all_goals first|exact qx|exact aA D.i (aF (by omega))|exact qz
 have hi3:i=l.length:=by simp at c20;omega
 subst hi3
 refine xt (sq (rT [4,5] (s3 (rt ?_))))
 have hr:eI id l=(q,true):=(aC hnode).trans (hgo.trans (by rw[List.drop_length];rfl))
 rw[hr]
 exact rq [] [] rfl qz
theorem tv (k:bH) (n:bI) (hb:k.held.length≤100000∧k.marks.length≤100000∧k.inbox.length≤100000) (hn:n.text.length≤140737488355328):Sp 252 2 [tV 0 k.V,tV 1 n.V] [tB 0 (il k n)]:=by
 refine sb Tryz.func252 rfl (sq (rT [2,3] (s3 (sq (rT [4] (s1 (xp (xK n hn) (ai rfl ?_))))))))
 refine s1 (y4 (y1 (ai pk (s1 (y4 (y2 (xc (fun h=>(gG k.held _ _ (by omega))) (ai rfl (ai rk ?_)))))))))
 refine y1 (ai pk (s1 (y4 (y2 (xc (fun h=>(oH k.marks _ _ (by omega))) (ai rfl (ai rk ?_)))))))
 refine y1 (ai pk (s1 (y4 (y2 (xc (fun h=>(gG k.inbox _ _ (by omega))) (ai rfl (ai rk ?_)))))))
 refine y1 (ai pk (s1 (rt (bQ rfl (aA D.b ?_)))))
 rfl
theorem dt (k:bH) (n:bI) (hb:k.held.length≤100000∧k.marks.length≤100000∧k.inbox.length≤100000) (hn:n.text.length≤140737488355328):Sp 231 2 [tV 0 k.V,tV 1 n.V] [tV 0 (.tup [.agg [.d (.i ((nJ k n).1).id),.d (.i ((nJ k n).1).time),.d (.i ((nJ k n).1).next),.d (.sl (aI ((nJ k n).1).held)),.d (.sl (aS ((nJ k n).1).marks)),.d (.sl (aI ((nJ k n).1).inbox))],.c (.d (.b (nJ k n).2))])]:=by
 refine sb Tryz.func231 rfl (sq (rT [2,3,4] (s4 (sq (sq (rT [2,3,4,9] (s2 (xp (tv k n hb hn) (ai rfl ?_)))))))))
 refine s1 (cd rfl (fun c9=> ?_) fun c9=> ?_)
 · refine sq (rT [4,5] (s3 (rt ?_)))
   have hr:nJ k n=_:=aPd c9
   refine bJ rfl rfl ?_
   rw[hr]<;>rfl
 refine sk (sq (sq (rT [2,3,4,15] (s5 (cd rfl (fun c15=> ?_) fun c15=> ?_)))))
 · refine sq (rT [2,4] (s3 (xp (nT k.held n hb.1) (ai rfl ?_))))
   refine s2 (sq (rD [4,5] (s9 (s2 (ai (by kernel_rfl) (rt ?_))))))
   have hr:nJ k n=_:=aPe hb c9 c15
   refine bJ rfl rfl ?_
   rw[hr]<;>rfl
 refine sk (sq (rT [2,3,4] (s3 (xp (nT k.inbox n hb.2.2) (ai rfl ?_)))))
 refine s2 (sq (rT [2,4] (s9 (xp (rO k.marks ⟨n.frm,n.num,n.til⟩ hb.2.1) (ai rfl ?_)))))
 refine s2 (sq (rD [4,5] (s9 (s2 (ai (by kernel_rfl) (rt ?_))))))
 have hr:nJ k n=_:=aPf hb c9 c15
 refine bJ rfl rfl ?_
 rw[hr]<;>rfl
theorem aA3 (k:bH) (a b:Int) (hb:k.held.length≤100000∧k.marks.length≤100000∧k.inbox.length≤100000):Sp 234 3 [tV 0 k.V,tI 1 a,tI 2 b] [tV 0 (.tup [.agg [.d (.i ((kz k a b).1).id),.d (.i ((kz k a b).1).time),.d (.i ((kz k a b).1).next),.d (.sl (aI ((kz k a b).1).held)),.d (.sl (aS ((kz k a b).1).marks)),.d (.sl (aI ((kz k a b).1).inbox))],.c (.d (.b (kz k a b).2))])]:=by
 refine sb Tryz.func234 rfl (sq (rT [1,2,3,6] (s3 (sq (rT [1,2,3,6,8] (s4 (xp (gG k.held a b (by omega)) (ai rfl ?_))))))))
 refine s1 (sq (sq (rT [1,2,3,6,8,16] (s2 (cd rfl (fun c16=> ?_) fun c16=> ?_)))))
 · have hr:kz k a b=(k,false):=aB (by simpa using c16)
   refine sq (rT [6,7] (s3 (rt ?_)))
   rw[hr]
   exact rq [] [] rfl qz
 have hp:0≤bD k.held a b:=by simpa using c16
 have hr0:=fX k.held a b
 obtain⟨i,hi⟩:=Int.eq_ofNat_of_zero_le hp
 rw[hi] at hr0
 have hw:wrap64 ((i:Int)+1)=((i+1:Nat):Int):=by rw[aF (by omega)];omega
 have hr:kz k a b=_:=aC hp
 have hg:=aX (l:=k.held) (i:=i) (by omega)
 have et:toI (((aI k.held).getD (bD k.held a b).toNat []).getD 3 (.i 0))=(k.held.getD i .zero).til:=by rw[hi,aXy,hg];rfl
 refine sk (sq (rT [1,2,3,6,8,9] (s3 (ai (by rw[hi,aXy,hg];exact⟨⟨by omega,by rw[aH];omega⟩,rfl⟩) (ai (by rw[hi,aXy,hg];exact⟨aX0 rfl,rfl⟩) (s2 (sq (rD [1,2,3,6,9] (ai (by simp) (s3 (ai (by rw[hi];(try rw[hw]);exact⟨by rw[aH];exact⟨by first|(simp;done)|(simp;omega),by first|(simp;done)|(simp;omega),by first|(simp;done)|(simp;omega)⟩,gI _⟩) (ai (by rw[hi];(try rw[hw]);exact⟨by first|trivial|rfl|(simp;done),by first|rfl|(simp[aH];done),by first|exact kM _ _ _|(simp;done),by(try simp only[aXz,aX1,aX2,aX4,aX7,aH,jY,jZ,kA,kB]);show _*48≤_;omega⟩) (s4 (ai (by rw[hi];(try rw[hw]);exact⟨by rw[aH];exact⟨by first|(simp;done)|(simp;omega),by first|(simp;done)|(simp;omega),by first|(simp;done)|(simp;omega)⟩,gI _⟩) (ai (by rw[hi];(try rw[hw]);exact⟨by first|trivial|rfl|(simp;done),by first|rfl|(simp[aH];done),by first|exact kM _ _ _|(simp;done),by(try simp only[aXz,aX1,aX2,aX4,aX7,aH,jY,jZ,kA,kB]);show _*48≤_;omega⟩) (s2 (ai (by kernel_rfl) (sq (rT [3,6] (s7 (xp (rO k.marks ⟨a,b,(k.held.getD i .zero).til⟩ hb.2.1) (ai (by exact aPc rfl rfl et) ?_))))))))))))))))))))))
 refine s2 (sq (rT [6,7] (s3 (rt ?_))))
 rw[hr]
 refine rq [] [23] rfl ?_
 repeat' apply ai
 all_goals try exact qx
 all_goals(first|with_reducible rfl|(rw[hi,hw,vN,zQ,aXy];simp[aI,iB,List.map_take,List.map_drop];done)|(rw[hi];rfl)|rfl)
theorem aA4 (k:bH) (a b:Int) (hb:k.held.length≤100000∧k.marks.length≤100000∧k.inbox.length≤100000):Sp 235 3 [tV 0 k.V,tI 1 a,tI 2 b] [tV 0 (.tup [.agg [.d (.i ((lc k a b).1).id),.d (.i ((lc k a b).1).time),.d (.i ((lc k a b).1).next),.d (.sl (aI ((lc k a b).1).held)),.d (.sl (aS ((lc k a b).1).marks)),.d (.sl (aI ((lc k a b).1).inbox))],.c (.d (.b (lc k a b).2))])]:=by
 refine sb Tryz.func235 rfl (sq (rT [1,2,3,6] (s3 (sq (rT [3,6,8] (s4 (xp (gG k.inbox a b (by omega)) (ai rfl ?_))))))))
 refine s1 (sq (sq (rT [3,6,8,15] (s2 (cd rfl (fun c15=> ?_) fun c15=> ?_)))))
 · have hr:lc k a b=(k,false):=aB (by simpa using c15)
   refine sq (rT [6,7] (s3 (rt ?_)))
   rw[hr]
   exact rq [] [] rfl qz
 have hp:0≤bD k.inbox a b:=by simpa using c15
 have hr0:=fX k.inbox a b
 obtain⟨i,hi⟩:=Int.eq_ofNat_of_zero_le hp
 rw[hi] at hr0
 have hw:wrap64 ((i:Int)+1)=((i+1:Nat):Int):=by rw[aF (by omega)];omega
 have hr:lc k a b=_:=aC hp
 refine sk (sq (rD [3,6] (ai (by simp) (s3 (ai (by rw[hi];(try rw[hw]);exact⟨by rw[aH];exact⟨by first|(simp;done)|(simp;omega),by first|(simp;done)|(simp;omega),by first|(simp;done)|(simp;omega)⟩,gI _⟩) (ai (by rw[hi];(try rw[hw]);exact⟨by first|trivial|rfl|(simp;done),by first|rfl|(simp[aH];done),by first|exact kM _ _ _|(simp;done),by(try simp only[aXz,aX1,aX2,aX4,aX7,aH,jY,jZ,kA,kB]);show _*48≤_;omega⟩) (s4 (ai (by rw[hi];(try rw[hw]);exact⟨by rw[aH];exact⟨by first|(simp;done)|(simp;omega),by first|(simp;done)|(simp;omega),by first|(simp;done)|(simp;omega)⟩,gI _⟩) (ai (by rw[hi];(try rw[hw]);exact⟨by first|trivial|rfl|(simp;done),by first|rfl|(simp[aH];done),by first|exact kM _ _ _|(simp;done),by(try simp only[aXz,aX1,aX2,aX4,aX7,aH,jY,jZ,kA,kB]);show _*48≤_;omega⟩) (s2 (ai (by kernel_rfl) (sq (rT [6,7] (s3 (rt ?_)))))))))))))))
 rw[hr]
 refine rq [] [17] rfl ?_
 repeat' apply ai
 all_goals try exact qx
 all_goals(first|with_reducible rfl|(rw[hi,hw,vN,zQ,aXy];simp[aI,iB,List.map_take,List.map_drop];done)|rfl)
theorem aJq (m:Nat) (hm:1≤m∧m≤1000000):Sp 89 1 [tI 0 (-(m:Int))] [tD 0 (.s (45::kH m))]:=by
 refine sb Tryz.func89 rfl (sq (rT [0] (s1 (sq (sq (rT [0,4] (s2 (cd rfl (fun c4=> ?_) fun c4=> ?_))))))))
 · simp at c4
   omega
 refine sk (sq (sq (rT [0,6] (s2 (cd rfl (fun c6=> ?_) fun c6=> ?_)))))
 · refine sq (rT [2] (s2 (xp (uR m (by omega)) (ai (by exact aKu (show wrap64 (0 - -(m:Int))=m by rw[aF (by omega)];omega)) ?_))))
   refine ai (by have:=aKp m;show _≤9223372036854775807;simp only[aX1,aX2];omega) (s1 (rt (bQ rfl (aA D.s ?_))))
   rfl
 simp at c6
 omega
theorem vU (n:Int) (h: -1≤n∧n≤9999):Sp 89 1 [tI 0 n] [tD 0 (.s (mB n))]:=by
 unfold mB
 by_cases h0:n<0
 · obtain rfl:n= -1:=by omega
   exact aJq 1 (by omega)
 rw[aB h0]
 exact kW n (by omega)
theorem aA5 (k:bH) (rec:List UInt8) (hb:k.held.length≤100000∧k.marks.length≤100000∧k.inbox.length≤100000) (hr:rec.length≤900000):Sp 194 2 [tV 0 k.V,tD 1 (.s rec)] [tV 0 (.tup [.agg [.d (.i ((gS k rec).1).id),.d (.i ((gS k rec).1).time),.d (.i ((gS k rec).1).next),.d (.sl (aI ((gS k rec).1).held)),.d (.sl (aS ((gS k rec).1).marks)),.d (.sl (aI ((gS k rec).1).inbox))],.c (.d (.b (gS k rec).2))])]:=by
 have hl1:=uX rec
 have hl2:=ew rec
 have hl3:=zR (aT rec)
 have e0:toI (((dE (fG 3 (aT rec))).getD 0 []).getD 0 (.i 0))=dU (aT rec) 0:=xa (by omega)
 have e1:toI (((dE (fG 3 (aT rec))).getD 1 []).getD 0 (.i 0))=dU (aT rec) 1:=xa (by omega)
 have e2:toI (((dE (fG 3 (aT rec))).getD 2 []).getD 0 (.i 0))=dU (aT rec) 2:=xa (by omega)
 refine sb Tryz.func194 rfl (sq (rT [1,2,4] (s3 (sq (rT [2,4,6,7] (s1 (xp (gl rec (by omega)) (ai rfl ?_))))))))
 refine s5 (sq (sq (rT [2,4,6,7,25] (s1 (bk (sq (rT [2,4,6,7,25,26] (s2 (cd rfl (fun c26=> ?_) fun c26=> ?_)))))))))
 · refine sq (rT [2,4,8] (s1 (xp (uS (aT rec) (by omega)) (ai rfl ?_))))
   refine s1 (sq (sq (rT [2,4,8,33] (s4 (cd rfl (fun c33=> ?_) fun c33=> ?_)))))
   · refine sq (rT [4,5] (s3 (rt ?_)))
     have hr:gS k rec=(k,false):=(aC c26).trans (aC (by simpa using c33))
     refine bJ rfl rfl ?_
     rw[hr]<;>rfl
   refine sk (sq (rT [4,5] (s2 (xp (zd k (hF (aT rec)) hb) (ai rfl ?_)))))
   refine s2 (rt ?_)
   have hr:gS k rec=_:=(aC c26).trans (aB (by simpa using c33))
   refine bJ rfl rfl ?_
   rw[hr]<;>rfl
 refine sq (rT [2,4,6,7,25,38] (s2 (cd rfl (fun c38=> ?_) fun c38=> ?_)))
 · refine sq (rT [2,4,9,10] (s1 (xp (uB (aT rec) (by omega)) (ai rfl ?_))))
   refine s6 (sq (sq (rT [2,4,9,60] (s3 (y4 (y1 (ai pk (s1 (y4 (y1 (ai pk (cd rfl (fun c60=> ?_) fun c60=> ?_))))))))))))
   · refine sq (rT [4,5] (s3 (rt ?_)))
     have hr:gS k rec=(k,false):=(aB (bn c26)).trans ((aC c38).trans (aC c60))
     refine bJ rfl rfl ?_
     rw[hr]<;>rfl
   refine sk (sq (rT [2,4,9] (s5 (sq (rT [4,5] (s2 (xp (dt {k with next:=wrap64 (k.next+1)} (eG (aT rec)).1 hb (by omega)) (ai rfl ?_))))))))
   refine s4 (rt ?_)
   have hr:gS k rec=_:=(aB (bn c26)).trans ((aC c38).trans (aB (bn c60)))
   refine bJ rfl rfl ?_
   rw[hr]<;>rfl
 refine sq (rT [2,4,6,7,25,71] (s2 (cd rfl (fun c71=> ?_) fun c71=> ?_)))
 · refine sq (rT [2,4,11,12] (s1 (xp (uB (aT rec) (by omega)) (ai rfl ?_))))
   refine s6 (sq (sq (rT [2,4,11,86] (s3 (y4 (y1 (ai pk (cd rfl (fun c86=> ?_) fun c86=> ?_))))))))
   · refine sq (rT [4,5] (s3 (rt ?_)))
     have hr:gS k rec=(k,false):=(aB (bn c26)).trans ((aB (bn c38)).trans ((aC c71).trans (aC c86)))
     refine bJ rfl rfl ?_
     rw[hr]<;>rfl
   refine sk (sq (rT [4,5] (s2 (xp (dt k (eG (aT rec)).1 hb (by omega)) (ai rfl ?_)))))
   refine s4 (rt ?_)
   have hr:gS k rec=_:=(aB (bn c26)).trans ((aB (bn c38)).trans ((aC c71).trans (aB (bn c86))))
   refine bJ rfl rfl ?_
   rw[hr]<;>rfl
 refine sq (rT [2,4,6,7,25,93] (s2 (cd rfl (fun c93=> ?_) fun c93=> ?_)))
 · refine sq (rT [2,4,13] (s1 (xp (uS (aT rec) (by omega)) (ai rfl ?_))))
   refine s1 (sq (sq (rT [2,4,13,100] (s4 (cd rfl (fun c100=> ?_) fun c100=> ?_)))))
   · refine sq (rT [4,5] (s3 (rt ?_)))
     have hr:gS k rec=(k,false):=(aB (bn c26)).trans ((aB (bn c38)).trans ((aB (bn c71)).trans ((aC c93).trans (aC (by simpa using c100)))))
     refine bJ rfl rfl ?_
     rw[hr]<;>rfl
   refine sk (sq (rT [2,4] (s3 (sq (rT [4,5] (s3 (rt ?_)))))))
   have hr:gS k rec=_:=(aB (bn c26)).trans ((aB (bn c38)).trans ((aB (bn c71)).trans ((aC c93).trans (aB (by simpa using c100)))))
   refine bJ rfl rfl ?_
   rw[hr]<;>rfl
 refine SW.midW (fun q=>q=[tP 2 2,tP 4 4,tD 6 (.s (bK rec)),tD 7 (.s (aT rec)),tB 105 (bK rec==iC||bK rec==fS),oB 2 44 [.d (.i k.id),.d (.i k.time),.d (.i k.next),.d (.sl (aI k.held)),.d (.sl (aS k.marks)),.d (.sl (aI k.inbox))],oB 4 44 [.d (.i 0),.d (.i 0),.d (.i 0),.nil,.nil,.nil]]) ?_ ?_
 · refine sq (rT [2,4,6,7,25,105] (s2 (cd rfl (fun c105=> ?_) fun c105=> ?_)))
   · refine sk (wq [] [] (rfl) ?_)
     repeat' apply ai
     all_goals first|exact qx|(refine aA D.b ?_;simp_all[iC,fS])|exact qz
   refine rT [2,4,6,7,105] (s2 (wq [] [] (rfl) ?_))
   repeat' apply ai
   all_goals first|exact qx|(refine aA D.b ?_;simp_all[iC,fS])|exact qz
 rintro s rfl
 refine cd rfl (fun c105=> ?_) fun c105=> ?_
 · refine sq (rT [2,4,6,14,15] (s1 (xp (uB (aT rec) (by omega)) (ai rfl ?_))))
   refine s6 (sq (sq (rT [2,4,6,14,134] (s3 (y4 (y2 (xc (fun h=>(gG k.held _ _ (by omega))) (ai rfl (ai rk ?_)))))))))
   refine y1 (ai pk (s1 (y4 (y2 (xc (fun h=>(gG k.inbox _ _ (by omega))) (ai rfl (ai rk ?_)))))))
   refine y1 (ai pk (cd rfl (fun c134=> ?_) fun c134=> ?_))
   · refine sq (rT [4,5] (s3 (rt ?_)))
     have hr:gS k rec=(k,false):=(aB (bn c26)).trans ((aB (bn c38)).trans ((aB (bn c71)).trans ((aB (bn c93)).trans ((aC c105).trans (aC c134)))))
     refine bJ rfl rfl ?_
     rw[hr]<;>rfl
   refine sk (sq (sq (rT [2,4,14,137] (s2 (cd rfl (fun c137=> ?_) fun c137=> ?_)))))
   · refine rT [2,4] (s3 (xp (nT k.held (eG (aT rec)).1 hb.1) (ai rfl ?_)))
     refine s2 (sq (rT [4,5] (s3 (rt ?_))))
     first|have hr:gS k rec=_:=(aB (bn c26)).trans ((aB (bn c38)).trans ((aB (bn c71)).trans ((aB (bn c93)).trans ((aC c105).trans ((aB (bn c134)).trans (aC c137))))))|have hr:gS k rec=_:=(aB (bn c26)).trans ((aB (bn c38)).trans ((aB (bn c71)).trans ((aB (bn c93)).trans ((aC c105).trans ((aB (bn c134)).trans (aB (bn c137)))))))
     refine bJ rfl rfl ?_
     rw[hr]<;>rfl
   refine rT [2,4] (s3 (xp (nT k.inbox (eG (aT rec)).1 hb.2.2) (ai rfl ?_)))
   refine s2 (sq (rT [4,5] (s3 (rt ?_))))
   first|have hr:gS k rec=_:=(aB (bn c26)).trans ((aB (bn c38)).trans ((aB (bn c71)).trans ((aB (bn c93)).trans ((aC c105).trans ((aB (bn c134)).trans (aC c137))))))|have hr:gS k rec=_:=(aB (bn c26)).trans ((aB (bn c38)).trans ((aB (bn c71)).trans ((aB (bn c93)).trans ((aC c105).trans ((aB (bn c134)).trans (aB (bn c137)))))))
   refine bJ rfl rfl ?_
   rw[hr]<;>rfl
 refine sk (sq (rT [2,4,6,7,16,17] (s1 (xp (gm (aT rec) 3 (by omega) (by omega)) (ai rfl ?_)))))
 refine s5 (sq (sq (rD [2,4,6,16,175] (s3 (y2 (ai (fun h=>(by exact kt (l:=fG 3 (aT rec)) (by omega) (by rw[bR];omega))) (ai rk (ai (fun h=>(by have:=iV (l:=fG 3 (aT rec)) (i:=0) (by rw[bR];omega);rw[show((0:Int)).toNat=((0:Nat):Int).toNat from rfl,this];exact⟨aX0 rfl,rfl⟩)) (ai rk (xc (fun h=>vU (dU (aT rec) 0) (gT _ _)) (ai (by exact aKu e0) (ai rk ?_))))))))))))
 refine ai (fun h=>(by have q0:=mD (gT (aT rec) 0);have q1:=mD (gT (aT rec) 1);have q2:=mD (gT (aT rec) 2);show _≤9223372036854775807;simp only[aXz,aX1,aX2];omega)) (ai rk (y1 (ai (fun h=>(by exact kt (l:=fG 3 (aT rec)) (by omega) (by rw[bR];omega))) (ai rk (ai (fun h=>(by have:=iV (l:=fG 3 (aT rec)) (i:=1) (by rw[bR];omega);rw[show((1:Int)).toNat=((1:Nat):Int).toNat from rfl,this];exact⟨aX0 rfl,rfl⟩)) (ai rk (xc (fun h=>vU (dU (aT rec) 1) (gT _ _)) (ai (by exact aKu e1) (ai rk ?_)))))))))
 refine ai (fun h=>(by have q0:=mD (gT (aT rec) 0);have q1:=mD (gT (aT rec) 1);have q2:=mD (gT (aT rec) 2);show _≤9223372036854775807;simp only[aXz,aX1,aX2];omega)) (ai rk (ai (fun h=>(by have q0:=mD (gT (aT rec) 0);have q1:=mD (gT (aT rec) 1);have q2:=mD (gT (aT rec) 2);show _≤9223372036854775807;simp only[aXz,aX1,aX2];omega)) (ai rk (y1 (ai (fun h=>(by exact kt (l:=fG 3 (aT rec)) (by omega) (by rw[bR];omega))) (ai rk (ai (fun h=>(by have:=iV (l:=fG 3 (aT rec)) (i:=2) (by rw[bR];omega);rw[show((2:Int)).toNat=((2:Nat):Int).toNat from rfl,this];exact⟨aX0 rfl,rfl⟩)) (ai rk (xc (fun h=>vU (dU (aT rec) 2) (gT _ _)) (ai (by exact aKu e2) (ai rk ?_)))))))))))
 refine ai (fun h=>(by have q0:=mD (gT (aT rec) 0);have q1:=mD (gT (aT rec) 1);have q2:=mD (gT (aT rec) 2);show _≤9223372036854775807;simp only[aXz,aX1,aX2];omega)) (ai rk (y1 (ai pk (ai (by kernel_rfl) (cd rfl (fun c175=> ?_) fun c175=> ?_)))))
 · refine sq (rT [4,5] (s3 (rt ?_)))
   have hr:gS k rec=(k,false):=(aB (bn c26)).trans ((aB (bn c38)).trans ((aB (bn c71)).trans ((aB (bn c93)).trans ((aB (bn c105)).trans (aC c175)))))
   refine bJ rfl rfl ?_
   rw[hr]<;>rfl
 refine sk (sq (sq (rT [2,4,16,177] (s1 (bk (sq (rT [2,4,16,177,178] (s2 (cd rfl (fun c178=> ?_) fun c178=> ?_)))))))))
 · refine sq (rD [2,4,16,18] (s3 (ai (by exact kt (l:=fG 3 (aT rec)) (by omega) (by rw[bR];omega)) (ai (by have:=iV (l:=fG 3 (aT rec)) (i:=0) (by rw[bR];omega);rw[show((0:Int)).toNat=((0:Nat):Int).toNat from rfl,this];exact⟨aX0 rfl,rfl⟩) (s1 (ai (by exact kt (l:=fG 3 (aT rec)) (by omega) (by rw[bR];omega)) (ai (by have:=iV (l:=fG 3 (aT rec)) (i:=1) (by rw[bR];omega);rw[show((1:Int)).toNat=((1:Nat):Int).toNat from rfl,this];exact⟨aX0 rfl,rfl⟩) (xp (gG k.held (dU (aT rec) 0) (dU (aT rec) 1) (by omega)) (ai (by exact wz e0 e1) ?_)))))))))
   refine s1 (ai (by kernel_rfl) (sq (sq (rD [2,4,16,202] (s3 (y3 (ai (fun h=>(by have hp:0≤bD k.held (dU (aT rec) 0) (dU (aT rec) 1):=(by have h8:=h;simp[gb] at h8;omega);have hr:=fX k.held (dU (aT rec) 0) (dU (aT rec) 1);rw[aX (by omega)];exact⟨⟨hp,by rw[aH];omega⟩,rfl⟩)) (ai rk (y1 (ai (fun h=>(by have hp:0≤bD k.held (dU (aT rec) 0) (dU (aT rec) 1):=(by have h8:=h;simp[gb] at h8;omega);have hr:=fX k.held (dU (aT rec) 0) (dU (aT rec) 1);rw[aX (by omega)];exact⟨aX0 rfl,rfl⟩)) (ai rk (y1 (ai (fun h=>(by exact kt (l:=fG 3 (aT rec)) (by omega) (by rw[bR];omega))) (ai rk (ai (fun h=>(by have:=iV (l:=fG 3 (aT rec)) (i:=2) (by rw[bR];omega);rw[show((2:Int)).toNat=((2:Nat):Int).toNat from rfl,this];exact⟨aX0 rfl,rfl⟩)) (ai rk (y1 (ai pk (ai (by kernel_rfl) (cd rfl (fun c202=> ?_) fun c202=> ?_))))))))))))))))))))
   · have hq:=fd (y:=(k.held.getD (bD k.held (dU (aT rec) 0) (dU (aT rec) 1)).toNat .zero).til != (dU (aT rec) 2)) c202 (fun hp=>by have hr:=fX k.held (dU (aT rec) 0) (dU (aT rec) 1);rw[aX (by omega)];exact aA (fun z=>((k.held.getD (bD k.held (dU (aT rec) 0) (dU (aT rec) 1)).toNat .zero).til != z)) e2)
     refine sq (rT [4,5] (s3 (rt ?_)))
     have hr:gS k rec=(k,false):=(aB (bn c26)).trans ((aB (bn c38)).trans ((aB (bn c71)).trans ((aB (bn c93)).trans ((aB (bn c105)).trans ((aB (bn c175)).trans ((aC c178).trans (aC hq)))))))
     refine bJ rfl rfl ?_
     rw[hr]<;>rfl
   have hq:=fd (y:=(k.held.getD (bD k.held (dU (aT rec) 0) (dU (aT rec) 1)).toNat .zero).til != (dU (aT rec) 2)) c202 (fun hp=>by have hr:=fX k.held (dU (aT rec) 0) (dU (aT rec) 1);rw[aX (by omega)];exact aA (fun z=>((k.held.getD (bD k.held (dU (aT rec) 0) (dU (aT rec) 1)).toNat .zero).til != z)) e2)
   refine sk (sq (rD [4,5] (s2 (ai (by exact kt (l:=fG 3 (aT rec)) (by omega) (by rw[bR];omega)) (ai (by have:=iV (l:=fG 3 (aT rec)) (i:=0) (by rw[bR];omega);rw[show((0:Int)).toNat=((0:Nat):Int).toNat from rfl,this];exact⟨aX0 rfl,rfl⟩) (s1 (ai (by exact kt (l:=fG 3 (aT rec)) (by omega) (by rw[bR];omega)) (ai (by have:=iV (l:=fG 3 (aT rec)) (i:=1) (by rw[bR];omega);rw[show((1:Int)).toNat=((1:Nat):Int).toNat from rfl,this];exact⟨aX0 rfl,rfl⟩) (xp (aA3 k (dU (aT rec) 0) (dU (aT rec) 1) hb) (ai (by exact wz e0 e1) ?_))))))))))
   refine s4 (ai (by kernel_rfl) (rt ?_))
   have hr:gS k rec=_:=(aB (bn c26)).trans ((aB (bn c38)).trans ((aB (bn c71)).trans ((aB (bn c93)).trans ((aB (bn c105)).trans ((aB (bn c175)).trans ((aC c178).trans (aB (bn hq))))))))
   refine bJ rfl rfl ?_
   rw[hr]<;>rfl
 refine sq (rT [2,4,16,177,214] (s2 (cd rfl (fun c214=> ?_) fun c214=> ?_)))
 · refine sq (rD [2,4,16,19] (s3 (ai (by exact kt (l:=fG 3 (aT rec)) (by omega) (by rw[bR];omega)) (ai (by have:=iV (l:=fG 3 (aT rec)) (i:=0) (by rw[bR];omega);rw[show((0:Int)).toNat=((0:Nat):Int).toNat from rfl,this];exact⟨aX0 rfl,rfl⟩) (s1 (ai (by exact kt (l:=fG 3 (aT rec)) (by omega) (by rw[bR];omega)) (ai (by have:=iV (l:=fG 3 (aT rec)) (i:=1) (by rw[bR];omega);rw[show((1:Int)).toNat=((1:Nat):Int).toNat from rfl,this];exact⟨aX0 rfl,rfl⟩) (xp (gG k.inbox (dU (aT rec) 0) (dU (aT rec) 1) (by omega)) (ai (by exact wz e0 e1) ?_)))))))))
   refine s1 (ai (by kernel_rfl) (sq (sq (rD [2,4,16,238] (s3 (y3 (ai (fun h=>(by have hp:0≤bD k.inbox (dU (aT rec) 0) (dU (aT rec) 1):=(by have h8:=h;simp[gb] at h8;omega);have hr:=fX k.inbox (dU (aT rec) 0) (dU (aT rec) 1);rw[aX (by omega)];exact⟨⟨hp,by rw[aH];omega⟩,rfl⟩)) (ai rk (y1 (ai (fun h=>(by have hp:0≤bD k.inbox (dU (aT rec) 0) (dU (aT rec) 1):=(by have h8:=h;simp[gb] at h8;omega);have hr:=fX k.inbox (dU (aT rec) 0) (dU (aT rec) 1);rw[aX (by omega)];exact⟨aX0 rfl,rfl⟩)) (ai rk (y1 (ai (fun h=>(by exact kt (l:=fG 3 (aT rec)) (by omega) (by rw[bR];omega))) (ai rk (ai (fun h=>(by have:=iV (l:=fG 3 (aT rec)) (i:=2) (by rw[bR];omega);rw[show((2:Int)).toNat=((2:Nat):Int).toNat from rfl,this];exact⟨aX0 rfl,rfl⟩)) (ai rk (y1 (ai pk (ai (by kernel_rfl) (cd rfl (fun c238=> ?_) fun c238=> ?_))))))))))))))))))))
   · have hq:=fd (y:=(k.inbox.getD (bD k.inbox (dU (aT rec) 0) (dU (aT rec) 1)).toNat .zero).til != (dU (aT rec) 2)) c238 (fun hp=>by have hr:=fX k.inbox (dU (aT rec) 0) (dU (aT rec) 1);rw[aX (by omega)];exact aA (fun z=>((k.inbox.getD (bD k.inbox (dU (aT rec) 0) (dU (aT rec) 1)).toNat .zero).til != z)) e2)
     refine sq (rT [4,5] (s3 (rt ?_)))
     have hr:gS k rec=(k,false):=(aB (bn c26)).trans ((aB (bn c38)).trans ((aB (bn c71)).trans ((aB (bn c93)).trans ((aB (bn c105)).trans ((aB (bn c175)).trans ((aB (bn c178)).trans ((aC c214).trans (aC hq))))))))
     refine bJ rfl rfl ?_
     rw[hr]<;>rfl
   have hq:=fd (y:=(k.inbox.getD (bD k.inbox (dU (aT rec) 0) (dU (aT rec) 1)).toNat .zero).til != (dU (aT rec) 2)) c238 (fun hp=>by have hr:=fX k.inbox (dU (aT rec) 0) (dU (aT rec) 1);rw[aX (by omega)];exact aA (fun z=>((k.inbox.getD (bD k.inbox (dU (aT rec) 0) (dU (aT rec) 1)).toNat .zero).til != z)) e2)
   refine sk (sq (rD [4,5] (s2 (ai (by exact kt (l:=fG 3 (aT rec)) (by omega) (by rw[bR];omega)) (ai (by have:=iV (l:=fG 3 (aT rec)) (i:=0) (by rw[bR];omega);rw[show((0:Int)).toNat=((0:Nat):Int).toNat from rfl,this];exact⟨aX0 rfl,rfl⟩) (s1 (ai (by exact kt (l:=fG 3 (aT rec)) (by omega) (by rw[bR];omega)) (ai (by have:=iV (l:=fG 3 (aT rec)) (i:=1) (by rw[bR];omega);rw[show((1:Int)).toNat=((1:Nat):Int).toNat from rfl,this];exact⟨aX0 rfl,rfl⟩) (xp (aA4 k (dU (aT rec) 0) (dU (aT rec) 1) hb) (ai (by exact wz e0 e1) ?_))))))))))
   refine s4 (ai (by kernel_rfl) (rt ?_))
   have hr:gS k rec=_:=(aB (bn c26)).trans ((aB (bn c38)).trans ((aB (bn c71)).trans ((aB (bn c93)).trans ((aB (bn c105)).trans ((aB (bn c175)).trans ((aB (bn c178)).trans ((aC c214).trans (aB (bn hq)))))))))
   refine bJ rfl rfl ?_
   rw[hr]<;>rfl
 refine sq (rT [2,4,16,250] (s2 (cd rfl (fun c250=> ?_) fun c250=> ?_)))
 · refine sq (sq (rD [2,4,16,261] (s3 (ai (by exact kt (l:=fG 3 (aT rec)) (by omega) (by rw[bR];omega)) (ai (by have:=iV (l:=fG 3 (aT rec)) (i:=0) (by rw[bR];omega);rw[show((0:Int)).toNat=((0:Nat):Int).toNat from rfl,this];exact⟨aX0 rfl,rfl⟩) (s1 (ai (by exact kt (l:=fG 3 (aT rec)) (by omega) (by rw[bR];omega)) (ai (by have:=iV (l:=fG 3 (aT rec)) (i:=1) (by rw[bR];omega);rw[show((1:Int)).toNat=((1:Nat):Int).toNat from rfl,this];exact⟨aX0 rfl,rfl⟩) (xp (oH k.marks (dU (aT rec) 0) (dU (aT rec) 1) (by omega)) (ai (by exact wz e0 e1) ?_))))))))))
   refine s1 (ai (by kernel_rfl) (cd rfl (fun c261=> ?_) fun c261=> ?_))
   · refine sq (rT [4,5] (s3 (rt ?_)))
     have hr:gS k rec=(k,false):=(aB (bn c26)).trans ((aB (bn c38)).trans ((aB (bn c71)).trans ((aB (bn c93)).trans ((aB (bn c105)).trans ((aB (bn c175)).trans ((aB (bn c178)).trans ((aB (bn c214)).trans ((aC c250).trans (aC (of_decide_eq_true c261))))))))))
     refine bJ rfl rfl ?_
     rw[hr]<;>rfl
   refine sk (sq (rD [2,4] (s3 (ai (by exact kt (l:=fG 3 (aT rec)) (by omega) (by rw[bR];omega)) (ai (by have:=iV (l:=fG 3 (aT rec)) (i:=0) (by rw[bR];omega);rw[show((0:Int)).toNat=((0:Nat):Int).toNat from rfl,this];exact⟨aX0 rfl,rfl⟩) (s1 (ai (by exact kt (l:=fG 3 (aT rec)) (by omega) (by rw[bR];omega)) (ai (by have:=iV (l:=fG 3 (aT rec)) (i:=1) (by rw[bR];omega);rw[show((1:Int)).toNat=((1:Nat):Int).toNat from rfl,this];exact⟨aX0 rfl,rfl⟩) (s1 (ai (by exact kt (l:=fG 3 (aT rec)) (by omega) (by rw[bR];omega)) (ai (by have:=iV (l:=fG 3 (aT rec)) (i:=2) (by rw[bR];omega);rw[show((2:Int)).toNat=((2:Nat):Int).toNat from rfl,this];exact⟨aX0 rfl,rfl⟩) (s1 (xp (rO k.marks ⟨(dU (aT rec) 0),(dU (aT rec) 1),(dU (aT rec) 2)⟩ hb.2.1) (ai (by exact aPc e0 e1 e2) ?_))))))))))))))
   refine s2 (ai (by kernel_rfl) (sq (rT [4,5] (s3 (rt ?_)))))
   have hr:gS k rec=_:=(aB (bn c26)).trans ((aB (bn c38)).trans ((aB (bn c71)).trans ((aB (bn c93)).trans ((aB (bn c105)).trans ((aB (bn c175)).trans ((aB (bn c178)).trans ((aB (bn c214)).trans ((aC c250).trans (aB (of_decide_eq_false c261))))))))))
   refine bJ rfl rfl ?_
   rw[hr]<;>rfl
 refine sk (sq (rT [4,5] (s3 (rt ?_))))
 have hr:gS k rec=(k,false):=(aB (bn c26)).trans ((aB (bn c38)).trans ((aB (bn c71)).trans ((aB (bn c93)).trans ((aB (bn c105)).trans ((aB (bn c175)).trans ((aB (bn c178)).trans ((aB (bn c214)).trans (aB (bn c250)))))))))
 refine bJ rfl rfl ?_
 rw[hr]<;>rfl
theorem qg (id:Int):Sp 184 1 [tI 0 id] [tV 0 ((dS id).V)]:=by
 refine sb Tryz.func184 rfl (sq (rT [0,2] (s1 (sq (sq (rT [0,2,5] (s1 (xp (dX _) (ai rfl ?_)))))))))
 refine s1 (cd rfl (fun c5=> ?_) fun c5=> ?_)
 · have hr:dS id= .zero:=aB (by simpa using c5)
   refine sq (rT [2] (s2 (rt ?_)))
   rw[hr]
   exact rq [] [] rfl qz
 have hr:dS id=⟨id,0,1,[],[],[]⟩:=aC (by simpa using c5)
 refine sk (sq (rT [2] (s3 (rt ?_))))
 rw[hr]
 exact rq [] [] rfl qz
theorem gp (k:bH) (rec:List UInt8) (hk:KB k) (hr:rec.length≤900000):Sp 149 2 [tV 0 k.V,tD 1 (.s rec)] [tV 0 (.tup [.agg [.d (.i ((pO k rec).1).id),.d (.i ((pO k rec).1).time),.d (.i ((pO k rec).1).next),.d (.sl (aI ((pO k rec).1).held)),.d (.sl (aS ((pO k rec).1).marks)),.d (.sl (aI ((pO k rec).1).inbox))],.c (.d (.b (pO k rec).2))])]:=by
 refine sb Tryz.func149 rfl (sq (rT [1,2,4] (s3 (sq (sq (rT [1,2,4,10] (s1 (xp (xM k hk.1 hk.2.1 hk.2.2) (ai rfl ?_)))))))))
 refine s1 (cd rfl (fun c10=> ?_) fun c10=> ?_)
 · refine sq (rT [4,5] (s3 (rt ?_)))
   have hr:pO k rec=(.zero,false):=aB (by simpa using c10)
   rw[hr]
   exact rq [] [] rfl qz
 have hok:dI k=true:=by simpa using c10
 refine sk (sq (rT [2,4,6,7] (s1 (xp (vT k (by have:=hk.1;omega)) (ai rfl ?_)))))
 refine s1 (xp (aA5 k rec hk.1 hr) (ai rfl ?_))
 refine s6 (sq (sq (rT [2,4,6,25] (s3 (y1 (xc (fun h=>xM (gS k rec).1 (fe (fD hok) (by omega)).big.1 (fe (fD hok) (by omega)).2.1 (fe (fD hok) (by omega)).2.2) (ai rfl (ai rk ?_))))))))
 refine y1 (ai pk (cd rfl (fun c25=> ?_) fun c25=> ?_))
 · refine sq (rT [4,5] (s1 (xp (vT k (by have:=hk.1;omega)) (ai rfl ?_))))
   refine s2 (rt ?_)
   have hr:pO k rec=(k,false):=(aC hok).trans (aB (by intro h;rw[aX3] at h;rw[h.1,h.2] at c25;cases c25))
   rw[hr]
   exact rq [] [] rfl qz
 refine sk (sq (rT [4,5] (s1 (xp (vT (gS k rec).1 (by have:=(fe (fD hok) (show rec.length≤1000000 by omega)).1;omega)) (ai rfl ?_)))))
 refine s2 (rt ?_)
 have hr:pO k rec=((gS k rec).1,true):=(aC hok).trans (aC (by simpa using c25))
 rw[hr]
 exact rq [] [] rfl qz
theorem aPu (k:bH) (rec:List UInt8) (hk:KB k) (hr:rec.length≤900000):Ab.Spec Tryz.prog 149 2 [(.t 0,.v (k.V)),(.t 1,.v (Dv (.s rec)))] [(.t 0,.v (.tup [.agg [.d (.i ((cV k rec).1).id),.d (.i ((cV k rec).1).time),.d (.i ((cV k rec).1).next),.d (.sl (aI ((cV k rec).1).held)),.d (.sl (aS ((cV k rec).1).marks)),.d (.sl (aI ((cV k rec).1).inbox))],.c (.d (.b (cV k rec).2))]))]:=pc k rec▸gp k rec hk hr
theorem xP (id:Int) (l:List (List UInt8)) (hl:l.length≤900000) (hx: ∀x∈l,x.length≤900000):Sp 133 2 [tI 0 id,tD 1 (.sl (bF l))] [tV 0 (.tup [.agg [.d (.i ((eI id l).1).id),.d (.i ((eI id l).1).time),.d (.i ((eI id l).1).next),.d (.sl (aI ((eI id l).1).held)),.d (.sl (aS ((eI id l).1).marks)),.d (.sl (aI ((eI id l).1).inbox))],.c (.d (.b (eI id l).2))])]:=by
 refine sb Tryz.func133 rfl (sq (rT [0,1,4] (s2 (sq (rT [0,1,4,6] (s1 (xp (qg id) (ai rfl ?_))))))))
 refine s2 (sq (sq (rT [1,4,6,14] (s1 (xp (dX _) (ai rfl ?_))))))
 refine s1 (cd rfl (fun c14=> ?_) fun c14=> ?_)
 · refine sq (rT [4,5] (s3 (rt ?_)))
   have hr:eI id l=(.zero,false):=aB (by simpa using c14)
   have hz:dS id= .zero:=aB (by simpa using c14)
   rw[hr,hz]
   exact rq [] [] rfl qz
 have hnode:eR id=true:=by simpa using c14
 refine sk (sq (sq (rT [1,4,6,7] (s1 (bk (SW.loopW (n:=l.length) (fun m s=> ∃(i:Nat) (q:bH),m=l.length - i∧i≤l.length∧K6 q∧gN (dS id) l=gN q (l.drop i)∧s=[tD 1 (.sl (bF l)),tP 4 4,tP 6 6,tI 7 (i:Nat),oB 4 44 [.d (.i 0),.d (.i 0),.d (.i 0),.nil,.nil,.nil],oB 6 44 [.d (.i (q).id),.d (.i (q).time),.d (.i (q).next),.d (.sl (aI (q).held)),.d (.sl (aS (q).marks)),.d (.sl (aI (q).inbox))]]) ?_ ?_))))))
 · refine wq (σ':=[tD 1 (.sl (bF l)),tP 4 4,tP 6 6,tI 7 (0:Nat),oB 4 44 [.d (.i 0),.d (.i 0),.d (.i 0),.nil,.nil,.nil],oB 6 44 [.d (.i (dS id).id),.d (.i (dS id).time),.d (.i (dS id).next),.d (.sl (aI (dS id).held)),.d (.sl (aS (dS id).marks)),.d (.sl (aI (dS id).inbox))]]) [] [] (⟨0,dS id,rfl,aX5 _,lj id,rfl,rfl⟩) ?_
   repeat' apply ai
   all_goals first|exact qx|rfl|(rw[aP];done)|exact qz
 rintro n s ⟨i,q,rfl,hi,hq,hgo,rfl⟩
 refine sq (sq (rT [1,4,6,7,19] (s4 (cd rfl (fun c19=> ?_) fun c19=> ?_))))
 · have hi2:i<l.length:=by simpa[aP] using c19
   have hg:=fZ (l:=l) hi2
   have hmem:l.getD i []∈l:=dQ hi2
   have es:toS (((bF l).getD (i:Int).toNat []).getD 0 (.i 0))=l.getD i []:=by rw[aXy,hg];rfl
   refine sk (sq (bk (sq (rD [1,4,6,7,8,9] (s3 (ai (by rw[aXy,hg];exact⟨⟨by omega,by rw[aP];omega⟩,rfl⟩) (ai (by rw[aXy,hg];exact⟨aX0 rfl,rfl⟩) (xp (aPu q (l.getD i []) hq.seven.big (hx _ hmem)) (ai (by exact aXt es) ?_)))))))))
   refine s6 (ai (by kernel_rfl) (sq (sq (rT [1,4,6,7,8,32] (s2 (cd rfl (fun c32=> ?_) fun c32=> ?_))))))
   · have hno: (cV q (l.getD i [])).2=false:=by simpa using c32
     rw[List.drop_eq_getElem_cons hi2,gN,show l[i]=l.getD i [] by rw[aX6,aX9 hi2];rfl,hno] at hgo
     refine sq (rT [4,5] (s3 (rt ?_)))
     have hr:eI id l=(.zero,false):=(aC hnode).trans (hgo.trans (aB (by simp)))
     rw[hr]
     exact rq [] [] rfl qz
   have hno: (cV q (l.getD i [])).2=true:=by simpa using c32
   rw[List.drop_eq_getElem_cons hi2,gN,show l[i]=l.getD i [] by rw[aX6,aX9 hi2];rfl,aC hno] at hgo
   refine sk (rT [1,4,6,7] (s2 (rT [1,4,6,7] (s3 (wq [] [] (⟨l.length - (i+1),by omega,i+1,(cV q (l.getD i [])).1,rfl,by omega,aCj,hgo,rfl⟩) ?_)))))
   repeat' apply ai
   all_goals first|exact qx|exact aA D.i (aF (by omega))|exact qz
 have hi3:i=l.length:=by simp[aP] at c19;omega
 subst hi3
 refine xt (sq (rT [4,5] (s3 (rt ?_))))
 have hr:eI id l=(q,true):=(aC hnode).trans (hgo.trans (by rw[List.drop_length];rfl))
 rw[hr]
 exact rq [] [] rfl qz
theorem kC (s:List UInt8) (hl:s.length≤1000000):Sp 49 1 [tD 0 (.s s)] [tV 0 (.tup [.c (.d (.sl (bF (bG s).1))),.c (.d (.i ((bG s).2:Nat)))])]:=by
 refine Spec.told (rl:=[]) (bor:=[0]) (qc s hl) ?_ rfl rfl
 refine qs ?_
 repeat' first|exact qx|apply ai
 all_goals first|rfl|exact aP _
theorem gM (s:List UInt8) (hl:s.length≤1000000):Sp 132 1 [tD 0 (.s s)] [tV 0 (.tup [.c (.d (.sl (bF (bG s).1))),.c (.d (.i ((bG s).2:Nat)))])]:=by
 refine Spec.told (rl:=[]) (bor:=[0]) (qb s hl) ?_ rfl rfl
 refine qs ?_
 repeat' first|exact qx|apply ai
 all_goals first|rfl|exact aP _
theorem oI (l:List UInt8) (f:Int) (hl:l.length≤140737488355328):Sp 118 1 [tV 0 (.e (.agg [.d (.s l),.d (.i f)]))] [tB 0 (dF l f)]:=by
 refine sb Tryz.func118 rfl (sq (rT [1] (s2 (sq (sq (rT [1,19] (s5 (y4 (y1 (xc (fun h=>(gQ _ _ _)) (ai rfl (ai rk ?_))))))))))))
 refine y1 (ai pk (cd rfl (fun c19=> ?_) fun c19=> ?_))
 · refine sq (rT [2] (s1 (rt (bQ rfl (aA D.b ?_)))))
   exact(xi c19).symm
 obtain⟨⟨h1,h2,h3⟩,hs⟩:=sm c19
 refine sk (sq (rT [1,4] (s2 (xp (kC l (by omega)) (ai rfl ?_)))))
 refine s5 (sq (rT [1,4,6] (s4 (ai (by exact⟨by simp,by simpa using h2,by simpa using h3⟩) (xp (kC (l.take f.toNat) (by rw[aX4];omega)) (ai rfl ?_))))))
 refine s5 (sq (rT [2] (s6 (y4 (ai pk (s1 (rt (bQ rfl (aA D.b ?_)))))))))
 exact hs.symm
theorem oJ (l:List UInt8) (f:Int) (hl:l.length≤140737488355328):Sp 131 1 [tV 0 (.e (.agg [.d (.s l),.d (.i f)]))] [tB 0 (dF l f)]:=by
 refine sb Tryz.func131 rfl (sq (rT [1] (s2 (sq (sq (rT [1,19] (s5 (y4 (y1 (xc (fun h=>(dR _ _ _)) (ai rfl (ai rk ?_))))))))))))
 refine y1 (ai pk (cd rfl (fun c19=> ?_) fun c19=> ?_))
 · refine sq (rT [2] (s1 (rt (bQ rfl (aA D.b ?_)))))
   exact(xi c19).symm
 obtain⟨⟨h1,h2,h3⟩,hs⟩:=sm c19
 refine sk (sq (rT [1,4] (s2 (xp (gM l (by omega)) (ai rfl ?_)))))
 refine s5 (sq (rT [1,4,6] (s4 (ai (by exact⟨by simp,by simpa using h2,by simpa using h3⟩) (xp (gM (l.take f.toNat) (by rw[aX4];omega)) (ai rfl ?_))))))
 refine s5 (sq (rT [2] (s6 (y4 (ai pk (s1 (rt (bQ rfl (aA D.b ?_)))))))))
 exact hs.symm
theorem rP (id:Int) (s:List UInt8) (hl:s.length≤900000):Sp 77 2 [tI 0 id,tD 1 (.s s)] [tV 0 (.tup [.agg [.d (.i ((eI id (bG s).1).1).id),.d (.i ((eI id (bG s).1).1).time),.d (.i ((eI id (bG s).1).1).next),.d (.sl (aI ((eI id (bG s).1).1).held)),.d (.sl (aS ((eI id (bG s).1).1).marks)),.d (.sl (aI ((eI id (bG s).1).1).inbox))],.c (.d (.b (eI id (bG s).1).2))])]:=by
 refine sb Tryz.func77 rfl (sq (rT [0,1,4] (s2 (sq (rT [0,4,6] (s1 (xp (kC s (by omega)) (ai rfl ?_))))))))
 refine s5 (sq (rT [4,5] (s2 (xp (xO id (bG s).1 (kE s hl).1 (kE s hl).2) (ai rfl ?_)))))
 exact s4 (rt (bJ rfl rfl rfl))
theorem gW (k:aK) (hl:k.log.length≤900000):Sp 76 1 [tV 0 k.V] [tV 0 (.tup [.agg [.d (.i ((bA k).1).id),.d (.i ((bA k).1).time),.d (.i ((bA k).1).next),.d (.sl (aI ((bA k).1).held)),.d (.sl (aS ((bA k).1).marks)),.d (.sl (aI ((bA k).1).inbox))],.c (.d (.b (bA k).2))])]:=by
 refine sb Tryz.func76 rfl (sq (rT [1,2] (s3 (sq (rT [1,2,4] (s3 (xp (gM k.log (by omega)) (ai rfl ?_))))))))
 refine s5 (sq (rT [2,3] (s3 (xp (xP k.id (bG k.log).1 (kE k.log hl).1 (kE k.log hl).2) (ai rfl ?_)))))
 exact s4 (rt (bJ rfl rfl rfl))
theorem wR (b n:Int):Sp 156 2 [tI 0 b,tI 1 n] [tB 0 (tW b n)]:=by
 refine sb Tryz.func156 rfl (sq (rT [0,1] (s1 (sq (rT [4] (s1 (xp (dR _ _ _) (ai rfl ?_))))))))
 refine s1 (y1 (xc (fun h=>(dR _ _ _)) (ai rfl (ai rk ?_))))
 refine ai pk (s1 (rt (bQ rfl ?_)))
 rfl
theorem pQ (n:Int) (hn:0≤n∧n≤140737488355328):Sp 157 1 [tI 0 n] [tI 0 ((n+3) / 4)]:=by
 refine sb Tryz.func157 rfl (sq (rT [0] (s1 (sq (rT [2] (s3 (ai (by decide) (s1 (rt (bQ rfl (aA D.i ?_)))))))))))
 rw[aF (n:=n+4) (by omega),aF (n:=n+4 - 1) (by omega),Int.tdiv_eq_ediv_of_nonneg (by omega),aF (by omega)]
 omega
theorem du (b:Int) (m:iJ):Sp 185 2 [tI 0 b,tV 1 m.V] [tB 0 (tW b m.num&&decide ((m.data.length:Int)=4))]:=by
 refine sb Tryz.func185 rfl (sq (rT [0,3] (s2 (sq (rT [4] (s3 (xp (wR _ _) (ai rfl ?_))))))))
 refine s1 (y4 (ai pk (s1 (rt (bQ rfl (aA D.b ?_))))))
 show(_&&_)=_
 congr 1
theorem aA6 (h:dW):Sp 119 1 [tV 0 h.V] [tB 0 (mT h)]:=by
 refine sb Tryz.func119 rfl (sq (rT [1] (s2 (sq (sq (rT [1,40] (s2 (xp (jO _) (ai rfl ?_)))))))))
 refine s2 (y2 (xc (fun h=>(jO _)) (ai rfl (ai rk ?_))))
 refine y1 (ai pk (s1 (y2 (xc (fun h=>(gQ _ _ _)) (ai rfl (ai rk ?_))))))
 refine y1 (ai pk (s1 (y2 (xc (fun h=>(gQ _ _ _)) (ai rfl (ai rk ?_))))))
 refine y1 (ai pk (s1 (y2 (xc (fun h=>(gQ _ _ _)) (ai rfl (ai rk ?_))))))
 refine y1 (ai pk (s1 (y4 (ai pk (cd rfl (fun c40=> ?_) fun c40=> ?_)))))
 · have hh:=lu c40
   refine sq (rT [2] (s1 (rt (bQ rfl (aA D.b ?_)))))
   rw[mT,hh];rfl
 have hh:=lu c40
 obtain⟨p1,p2,p3,p4,p5,p6⟩:=mF hh
 refine sk (sq (sq (rT [1,42,43,44] (s4 (bk (SW.loopW (n:=h.got.length) (fun m q=> ∃i:Nat,m=h.got.length - i∧i≤h.got.length∧(∀k,k<i→oS h.got k=true)∧q=[tP 1 1,tD 42 (.sl (cN h.got)),tI 43 (h.got.length:Nat),tI 44 (i:Nat),oB 1 138 [.d (.i (h).frm),.d (.i (h).num),.d (.i (h).to),.d (.i (h).til),.d (.i (h).size),.d (.sl (cN (h).got))]]) ?_ ?_))))))
 · refine wq (σ':=[tP 1 1,tD 42 (.sl (cN h.got)),tI 43 (h.got.length:Nat),tI 44 (0:Nat),oB 1 138 [.d (.i (h).frm),.d (.i (h).num),.d (.i (h).to),.d (.i (h).til),.d (.i (h).size),.d (.sl (cN (h).got))]]) [] [] (⟨0,rfl,aX5 _,fun k h=>absurd h (by omega),rfl⟩) ?_
   repeat' apply ai
   all_goals first|exact qx|rfl|(rw[bL];done)|exact qz
 rintro n s ⟨i,rfl,hi,hk,rfl⟩
 refine sq (rT [1,42,43,44,45] (s1 (sq (cd rfl (fun c45=> ?_) fun c45=> ?_))))
 · have hi2:i<h.got.length:=by simpa using c45
   have hg:=mS (l:=h.got) hi2
   refine sk (sq (bk (sq (rT [1,3,4,42,43,44] (s1 (ai (by rw[aXy,hg];exact⟨⟨by omega,by rw[bL];omega⟩,rfl⟩) (ai (by rw[aXy,hg];exact⟨aX0 rfl,rfl⟩) (s3 (sq (sq (wa [tP 1 1,tI 3 (i:Nat),tP 4 4,tD 42 (.sl (cN h.got)),tI 43 (h.got.length:Nat),tI 44 (i:Nat),oB 1 138 [.d (.i (h).frm),.d (.i (h).num),.d (.i (h).to),.d (.i (h).til),.d (.i (h).size),.d (.sl (cN (h).got))],oB 4 86 [.d (.i (h.got.getD i .zero).num),.d (.s (h.got.getD i .zero).data)]] [] [] ?_ ?_)))))))))))
   · repeat' apply ai
     all_goals first|exact qx|(rw[aXy,hg];rfl)|exact qz
   refine rT [1,3,4,42,43,44,58] (s2 (xp (gQ _ _ _) (ai rfl ?_)))
   refine s2 (y4 (ai pk (cd rfl (fun c58=> ?_) fun c58=> ?_)))
   · have hm:wJ (h.got.getD i .zero)=false:=by
      unfold wJ
      rw[← Bool.not_eq_true',Bool.not_and]
      exact mixC c58
     have hs:=sh hm
     refine sq (rT [2] (s1 (rt (bQ rfl (aA D.b ?_)))))
     rw[mT,hh,Bool.not_false,Bool.true_and,fW hi2 hs]
   have hm:wJ (h.got.getD i .zero)=true:=aXu c58
   refine sk (sq (rT [1,4,42,43,44,62,63,64] (s3 (ai (by exact⟨by rw[bL];exact⟨by first|(simp;done)|(simp;omega),by first|(simp;done)|(simp;omega),by first|(simp;done)|(simp;omega)⟩,rC _⟩) (s2 (bk (SW.loopW (n:=i) (fun m q=> ∃j:Nat,m=i - j∧j≤i∧(∀k,k<j→((h.got.getD k .zero).num==(h.got.getD i .zero).num)=false)∧q=[tP 1 1,tP 4 4,tD 42 (.sl (cN h.got)),tI 43 (h.got.length:Nat),tI 44 (i:Nat),tD 62 (.sl ((cN h.got).take i)),tI 63 (i:Nat),tI 64 (j:Nat),oB 1 138 [.d (.i (h).frm),.d (.i (h).num),.d (.i (h).to),.d (.i (h).til),.d (.i (h).size),.d (.sl (cN (h).got))],oB 4 86 [.d (.i (h.got.getD i .zero).num),.d (.s (h.got.getD i .zero).data)]]) ?_ ?_)))))))
   · refine wq (σ':=[tP 1 1,tP 4 4,tD 42 (.sl (cN h.got)),tI 43 (h.got.length:Nat),tI 44 (i:Nat),tD 62 (.sl ((cN h.got).take i)),tI 63 (i:Nat),tI 64 (0:Nat),oB 1 138 [.d (.i (h).frm),.d (.i (h).num),.d (.i (h).to),.d (.i (h).til),.d (.i (h).size),.d (.sl (cN (h).got))],oB 4 86 [.d (.i (h.got.getD i .zero).num),.d (.s (h.got.getD i .zero).data)]]) [] [] (⟨0,rfl,aX5 _,fun k h=>absurd h (by omega),rfl⟩) ?_
     repeat' apply ai
     all_goals first|exact qx|rfl|(rw[zQ];done)|(rw[zQ,aX4,bL];refine aA D.i ?_;omega)|exact qz
   rintro n s ⟨j,rfl,hj,hkj,rfl⟩
   refine sq (rT [1,4,42,43,44,62,63,64,65] (s1 (sq (cd rfl (fun c65=> ?_) fun c65=> ?_))))
   · have hj2:j<i:=by simpa using c65
     have hg2: ((cN h.got).take i).getD j []=(h.got.getD j .zero).row:=by rw[yH hj2,mS (by omega)]
     refine sk (sq (bk (sq (rT [1,4,6,42,43,44,62,63,64] (ai (by rw[aXy,hg2];exact⟨⟨by omega,by rw[aX4,bL];omega⟩,rfl⟩) (ai (by rw[aXy,hg2];exact⟨aX0 rfl,rfl⟩) (s2 (sq (rT [1,4,42,43,44,62,63,64,72] (s5 (cd rfl (fun c72=> ?_) fun c72=> ?_)))))))))))
     · have hq: ((h.got.getD j .zero).num==(h.got.getD i .zero).num)=true:=by
        have h9:=c72
        rw[aXy,hg2] at h9
        exact h9
       have hs:=xh hj2 hq
       refine sq (rT [2] (s1 (rt (bQ rfl (aA D.b ?_)))))
       rw[mT,hh,Bool.not_false,Bool.true_and,fW hi2 hs]
     refine sk (rT [1,4,42,43,44,62,63,64] (s2 ?_))
     have hq: ((h.got.getD j .zero).num==(h.got.getD i .zero).num)=false:=by
      have h9:=c72
      rw[aXy,hg2] at h9
      exact h9
     refine wq [] [] (⟨i - (j+1),by omega,j+1,rfl,by omega,fun k h=>by by_cases e:k=j;exact e▸hq;exact hkj k (by omega),rfl⟩) ?_
     repeat' apply ai
     all_goals first|exact qx|exact aA D.i (aF (by omega))|exact qz
   have hj3:j=i:=by simp at c65;omega
   subst hj3
   have hs:=sg hm hkj
   refine xt (rT [1,42,43,44] (s2 (wq [] [] (⟨h.got.length - (j+1),by omega,j+1,rfl,by omega,fun k h=>by by_cases e:k=j;exact e▸hs;exact hk k (by omega),rfl⟩) ?_)))
   repeat' apply ai
   all_goals first|exact qx|exact aA D.i (aF (by omega))|exact qz
 have hi3:i=h.got.length:=by simp at c45;omega
 refine xt (sq (rT [2] (s1 (rt (bQ rfl (aA D.b ?_))))))
 rw[mT,hh,Bool.not_false,Bool.true_and]
 subst hi3
 exact(iT hk).symm
theorem qh (h:dW):Sp 134 1 [tV 0 h.V] [tB 0 (mT h)]:=by
 refine sb Tryz.func134 rfl (sq (rT [1] (s2 (sq (sq (rT [1,38] (s2 (xp (dX _) (ai rfl ?_)))))))))
 refine s2 (y2 (xc (fun h=>(dX _)) (ai rfl (ai rk ?_))))
 refine y1 (ai pk (s1 (y2 (xc (fun h=>(dR _ _ _)) (ai rfl (ai rk ?_))))))
 refine y1 (ai pk (s1 (y2 (xc (fun h=>(dR _ _ _)) (ai rfl (ai rk ?_))))))
 refine y1 (ai pk (s1 (y2 (xc (fun h=>(dR _ _ _)) (ai rfl (ai rk ?_))))))
 refine y1 (ai pk (s1 (y4 (ai pk (cd rfl (fun c38=> ?_) fun c38=> ?_)))))
 · have hh:=lu c38
   refine sq (rT [2] (s1 (rt (bQ rfl (aA D.b ?_)))))
   rw[mT,hh];rfl
 have hh:=lu c38
 obtain⟨p1,p2,p3,p4,p5,p6⟩:=mF hh
 have hb1:iQ ((h.size+3) / 4) 1 6=true:=by simp only[iQ,aX3,aD];omega
 refine sk (sq (sq (rT [1,3] (s1 (bk (SW.loopW (n:=h.got.length) (fun m q=> ∃i:Nat,m=h.got.length - i∧i≤h.got.length∧(∀k,k<i→oS h.got k=true)∧q=[tP 1 1,tI 3 (i:Nat),oB 1 138 [.d (.i (h).frm),.d (.i (h).num),.d (.i (h).to),.d (.i (h).til),.d (.i (h).size),.d (.sl (cN (h).got))]]) ?_ ?_))))))
 · exact wq (σ':=[tP 1 1,tI 3 (0:Nat),oB 1 138 [.d (.i (h).frm),.d (.i (h).num),.d (.i (h).to),.d (.i (h).til),.d (.i (h).size),.d (.sl (cN (h).got))]]) [] [] (⟨0,rfl,aX5 _,fun k h=>absurd h (by omega),rfl⟩) qz
 rintro n s ⟨i,rfl,hi,hk,rfl⟩
 refine sq (sq (rT [1,3,43] (s5 (cd rfl (fun c43=> ?_) fun c43=> ?_))))
 · have hi2:i<h.got.length:=by simpa[bL] using c43
   have hg:=mS (l:=h.got) hi2
   refine sk (sq (bk (sq (sq (rD [1,3,55] (s2 (xp (pQ h.size (by omega)) (ai rfl ?_))))))))
   refine s3 (ai (by rw[aXy,hg];exact⟨⟨by omega,by rw[bL];omega⟩,rfl⟩) (ai (by rw[aXy,hg];exact⟨aX0 rfl,rfl⟩) (xp (du ((h.size+3) / 4) (h.got.getD i .zero)) (ai (by rw[aXy,hg];rfl) ?_))))
   refine s1 (ai (by kernel_rfl) (cd rfl (fun c55=> ?_) fun c55=> ?_))
   · have hm:wJ (h.got.getD i .zero)=false:=by
      have h9:=c55
      rw[tW,hb1,Bool.true_and] at h9
      simpa only[wJ,Bool.not_eq_true'] using h9
     have hs:=sh hm
     refine sq (rT [2] (s1 (rt (bQ rfl (aA D.b ?_)))))
     rw[mT,hh,Bool.not_false,Bool.true_and,fW hi2 hs]
   have hm:wJ (h.got.getD i .zero)=true:=by
    have h9:=c55
    rw[tW,hb1,Bool.true_and] at h9
    simpa only[wJ,Bool.not_eq_false'] using h9
   refine sk (sq (rT [1,3,4] (s1 (bk (SW.loopW (n:=i) (fun m q=> ∃j:Nat,m=i - j∧j≤i∧(∀k,k<j→((h.got.getD k .zero).num==(h.got.getD i .zero).num)=false)∧q=[tP 1 1,tI 3 (i:Nat),tI 4 (j:Nat),oB 1 138 [.d (.i (h).frm),.d (.i (h).num),.d (.i (h).to),.d (.i (h).til),.d (.i (h).size),.d (.sl (cN (h).got))]]) ?_ ?_)))))
   · exact wq (σ':=[tP 1 1,tI 3 (i:Nat),tI 4 (0:Nat),oB 1 138 [.d (.i (h).frm),.d (.i (h).num),.d (.i (h).to),.d (.i (h).til),.d (.i (h).size),.d (.sl (cN (h).got))]]) [] [] (⟨0,rfl,aX5 _,fun k h=>absurd h (by omega),rfl⟩) qz
   rintro n s ⟨j,rfl,hj,hkj,rfl⟩
   refine sq (sq (rT [1,3,4,58] (s3 (cd rfl (fun c58=> ?_) fun c58=> ?_))))
   · have hj2:j<i:=by simpa using c58
     have hg2:=mS (l:=h.got) (i:=j) (by omega)
     refine sk (sq (bk (sq (rD [1,3,4,73] (s3 (ai (by rw[aXy,hg2];exact⟨⟨by omega,by rw[bL];omega⟩,rfl⟩) (s1 (ai (by rw[aXy,hg2];exact⟨aX0 rfl,rfl⟩) (s3 (ai (by rw[aXy,hg];exact⟨⟨by omega,by rw[bL];omega⟩,rfl⟩) (s1 (ai (by rw[aXy,hg];exact⟨aX0 rfl,rfl⟩) (s1 (ai (by kernel_rfl) (cd rfl (fun c73=> ?_) fun c73=> ?_)))))))))))))))
     · have hq: ((h.got.getD j .zero).num==(h.got.getD i .zero).num)=true:=by
        have h9:=c73
        rw[aXy,aXy,hg2,hg] at h9
        exact h9
       have hs:=xh hj2 hq
       refine sq (rT [2] (s1 (rt (bQ rfl (aA D.b ?_)))))
       rw[mT,hh,Bool.not_false,Bool.true_and,fW hi2 hs]
     refine sk (rT [1,3,4] (s3 ?_))
     have hq: ((h.got.getD j .zero).num==(h.got.getD i .zero).num)=false:=by
      have h9:=c73
      rw[aXy,aXy,hg2,hg] at h9
      exact h9
     refine wq [] [] (⟨i - (j+1),by omega,j+1,rfl,by omega,fun k h=>by by_cases e:k=j;exact e▸hq;exact hkj k (by omega),rfl⟩) ?_
     repeat' apply ai
     all_goals first|exact qx|exact aA D.i (aF (by omega))|exact qz
   have hj3:j=i:=by simp at c58;omega
   subst hj3
   have hs:=sg hm hkj
   refine xt (rT [1,3] (s3 (wq [] [] (⟨h.got.length - (j+1),by omega,j+1,rfl,by omega,fun k h=>by by_cases e:k=j;exact e▸hs;exact hk k (by omega),rfl⟩) ?_)))
   repeat' apply ai
   all_goals first|exact qx|exact aA D.i (aF (by omega))|exact qz
 have hi3:i=h.got.length:=by simp[bL] at c43;omega
 refine xt (sq (rT [2] (s1 (rt (bQ rfl (aA D.b ?_))))))
 rw[mT,hh,Bool.not_false,Bool.true_and]
 subst hi3
 exact(iT hk).symm
theorem aA7 (l:List dW) (f m:Int) (hl:l.length≤1000000):Sp 120 3 [tD 0 (.sl (aZ l)),tI 1 f,tI 2 m] [tI 0 (hP l f m)]:=by
 refine sb Tryz.func120 rfl (sq (rT [0,1,2] (s1 (sq (sq (rT [1,2,9,10,11] (s3 (bk (SW.loopW (n:=l.length) (fun n q=> ∃i:Nat,n=l.length - i∧i≤l.length∧(∀k,k<i→iR l f m k=false)∧q=[tI 1 f,tI 2 m,tD 9 (.sl (aZ l)),tI 10 (l.length:Nat),tI 11 (i:Nat)]) ?_ ?_)))))))))
 · refine wq (σ':=[tI 1 f,tI 2 m,tD 9 (.sl (aZ l)),tI 10 (l.length:Nat),tI 11 (0:Nat)]) [] [] (⟨0,rfl,aX5 _,fun k h=>absurd h (by omega),rfl⟩) ?_
   repeat' apply ai
   all_goals first|exact qx|(rw[aJ];done)|rfl|exact qz
 rintro n s ⟨i,rfl,hi,hk,rfl⟩
 refine sq (rT [1,2,9,10,11,12] (s1 (sq (cd rfl (fun c12=> ?_) fun c12=> ?_))))
 · have hi2:i<l.length:=by simpa using c12
   have hg:=gJ (l:=l) hi2
   refine sk (sq (bk (sq (rT [1,2,7,8,9,10,11] (s1 (ai (by rw[aXy,hg];exact⟨⟨by omega,by rw[aJ];omega⟩,rfl⟩) (ai (by rw[aXy,hg];exact⟨aX0 rfl,rfl⟩) (s3 (sq (rT [1,2,7,9,10,11,25] (s5 (y4 (ai pk (cd rfl (fun c25=> ?_) fun c25=> ?_))))))))))))))
   · refine sq (rT [6] (s2 (rt (bQ rfl (aA D.i ?_)))))
     have hs:iR l f m i=true:=by
      have h9:=c25
      rw[aXy,hg] at h9
      exact h9
     exact(mJ (aX5 _) (by omega) (fun j _ h=>hk j h) hs).symm
   refine sk (rT [1,2,9,10,11] (s2 ?_))
   have hs:iR l f m i=false:=by
    have h9:=c25
    rw[aXy,hg] at h9
    exact h9
   refine wq [] [] (⟨l.length - (i+1),by omega,i+1,rfl,by omega,fun k h=>by by_cases e:k=i;exact e▸hs;exact hk k (by omega),rfl⟩) ?_
   repeat' apply ai
   all_goals first|exact qx|exact aA D.i (aF (by omega))|exact qz
 have hi3:i=l.length:=by simp at c12;omega
 refine xt (sq (rT [6] (s1 (rt (bQ rfl (aA D.i ?_))))))
 exact(mP (fun j _ h=>hk j (by omega))).symm
theorem lI (k:aK) (hl:k.log.length≤140737488355328):Sp 54 1 [tV 0 k.V] [tB 0 (aW k)]:=by
 refine sb Tryz.func54 rfl (sq (rT [1] (s2 (sq (sq (rT [1,35] (s2 (xp (jO _) (ai rfl ?_)))))))))
 refine s2 (y2 (xc (fun h=>(oI k.log k.forced hl)) (ai rfl (ai rk ?_))))
 refine y1 (ai pk (s1 (y4 (ai pk (s1 (y4 (y4 (ai (fun h=>pk) (ai rk (ai pk (cd rfl (fun c35=> ?_) fun c35=> ?_)))))))))))
 · have hh:=zW c35
   refine sq (rT [2] (s1 (rt (bQ rfl (aA D.b ?_)))))
   exact(xE hh).symm
 have hh:=zW c35
 obtain⟨p1,p2,p3,p4⟩:=eN hh
 obtain⟨q1,q2,q3,q4⟩:=gV p2
 refine sk (sq (rT [1,4] (s5 (xp (rP k.id k.log (by omega)) (ai rfl ?_)))))
 refine s6 (sq (rD [1,4,6] (s8 (ai (by exact⟨by simp,by simpa using q2.1,by simpa using q2.2⟩) (xp (rP k.id (k.log.take k.forced.toNat) (by rw[aX4];omega)) (ai rfl ?_))))))
 refine s6 (ai (by kernel_rfl) (sq (sq (rT [1,63] (s3 (y2 (ai pk (cd rfl (fun c63=> ?_) fun c63=> ?_))))))))
 · have hn:=sj (k:=k) c63 (.inl ⟨rfl,rfl⟩)
   refine sq (rT [2] (s1 (rt (bQ rfl (aA D.b ?_)))))
   exact hn.symm
 have hy:=lr (k:=k) hh c63 (.inl ⟨rfl,rfl⟩)
 refine sk (sq (sq (rT [1,65,66,67] (s4 (bk (SW.loopW (n:=k.halves.length) (fun m q=> ∃i:Nat,m=k.halves.length - i∧i≤k.halves.length∧(∀j,j<i→iN k.halves j=true)∧q=[tP 1 1,tD 65 (.sl (aZ k.halves)),tI 66 (k.halves.length:Nat),tI 67 (i:Nat),oB 1 31 [.d (.i (k).id),.d (.b (k).up),.d (.s (k).log),.d (.i (k).forced),.d (.sl (aZ (k).halves))]]) ?_ ?_))))))
 · refine wq (σ':=[tP 1 1,tD 65 (.sl (aZ k.halves)),tI 66 (k.halves.length:Nat),tI 67 (0:Nat),oB 1 31 [.d (.i (k).id),.d (.b (k).up),.d (.s (k).log),.d (.i (k).forced),.d (.sl (aZ (k).halves))]]) [] [] (⟨0,rfl,aX5 _,fun j h=>absurd h (by omega),rfl⟩) ?_
   repeat' apply ai
   all_goals first|exact qx|rfl|(rw[aJ];done)|exact qz
 rintro n s ⟨i,rfl,hi,hk,rfl⟩
 refine sq (rT [1,65,66,67,68] (s1 (sq (cd rfl (fun c68=> ?_) fun c68=> ?_))))
 · have hi2:i<k.halves.length:=by simpa using c68
   have hg:=gJ (l:=k.halves) hi2
   refine sk (sq (bk (sq (rT [1,7,8,65,66,67] (s1 (ai (by rw[aXy,hg];exact⟨⟨by omega,by rw[aJ];omega⟩,rfl⟩) (ai (by rw[aXy,hg];exact⟨aX0 rfl,rfl⟩) (s3 (sq (wa [tP 1 1,tI 7 (i:Nat),tP 8 8,tD 65 (.sl (aZ k.halves)),tI 66 (k.halves.length:Nat),tI 67 (i:Nat),oB 1 31 [.d (.i (k).id),.d (.b (k).up),.d (.s (k).log),.d (.i (k).forced),.d (.sl (aZ (k).halves))],oB 8 138 [.d (.i (k.halves.getD i .zero).frm),.d (.i (k.halves.getD i .zero).num),.d (.i (k.halves.getD i .zero).to),.d (.i (k.halves.getD i .zero).til),.d (.i (k.halves.getD i .zero).size),.d (.sl (cN (k.halves.getD i .zero).got))]] [] [] ?_ ?_))))))))))
   · repeat' apply ai
     all_goals first|exact qx|(rw[aXy,hg];rfl)|exact qz
   refine rT [1,65,66,67,85] (s1 (xp (aA6 (k.halves.getD i .zero)) (ai rfl ?_)))
   refine s2 (y4 (y2 (xc (fun h=>(aA7 k.halves _ _ (by omega))) (ai rfl (ai rk ?_)))))
   refine y2 (ai pk (cd rfl (fun c85=> ?_) fun c85=> ?_))
   · refine sq (rT [2] (s1 (rt (bQ rfl (aA D.b ?_)))))
     have hs:iN k.halves i=false:=lq hi2 c85
     rw[hy,fW hi2 hs]
   refine sk (rT [1,65,66,67] (s2 ?_))
   have hs:iN k.halves i=true:=lq hi2 c85
   refine wq [] [] (⟨k.halves.length - (i+1),by omega,i+1,rfl,by omega,fun j h=>by by_cases e:j=i;exact e▸hs;exact hk j (by omega),rfl⟩) ?_
   repeat' apply ai
   all_goals first|exact qx|exact aA D.i (aF (by omega))|exact qz
 have hi3:i=k.halves.length:=by simp at c68;omega
 refine xt (sq (rT [2] (s1 (rt (bQ rfl (aA D.b ?_))))))
 subst hi3
 rw[hy,iT hk]
theorem iK (k:aK) (hl:k.log.length≤140737488355328):Sp 63 1 [tV 0 k.V] [tB 0 (aW k)]:=by
 refine sb Tryz.func63 rfl (sq (rT [1] (s2 (sq (sq (rT [1,37] (s2 (xp (dX _) (ai rfl ?_)))))))))
 refine s2 (y2 (xc (fun h=>(oJ k.log k.forced hl)) (ai rfl (ai rk ?_))))
 refine y1 (ai pk (s1 (y4 (ai pk (s1 (y4 (y4 (ai (fun h=>pk) (ai rk (ai pk (cd rfl (fun c37=> ?_) fun c37=> ?_)))))))))))
 · have hh:=zW c37
   refine sq (rT [2] (s1 (rt (bQ rfl (aA D.b ?_)))))
   exact(xE hh).symm
 have hh:=zW c37
 obtain⟨p1,p2,p3,p4⟩:=eN hh
 obtain⟨q1,q2,q3,q4⟩:=gV p2
 refine sk (sq (rT [1,3] (s6 (ai (by exact⟨by simp,by simpa using q2.1,by simpa using q2.2⟩) (xp (gM (k.log.take k.forced.toNat) (by rw[aX4];omega)) (ai rfl ?_))))))
 refine s5 (sq (rT [1,6] (s3 (xp (xP k.id (bG (k.log.take k.forced.toNat)).1 (kE _ (by rw[aX4];omega)).1 (kE _ (by rw[aX4];omega)).2) (ai rfl ?_)))))
 refine s6 (sq (rT [1,6,8] (s1 (xp (gW k (by omega)) (ai rfl ?_)))))
 refine s6 (sq (sq (rT [1,66] (s3 (y2 (ai pk (cd rfl (fun c66=> ?_) fun c66=> ?_)))))))
 · have hn:=sj (k:=k) c66 (.inl ⟨rfl,rfl⟩)
   refine sq (rT [2] (s1 (rt (bQ rfl (aA D.b ?_)))))
   exact hn.symm
 have hy:=lr (k:=k) hh c66 (.inl ⟨rfl,rfl⟩)
 refine sk (sq (sq (rT [1,9] (s1 (bk (SW.loopW (n:=k.halves.length) (fun m q=> ∃i:Nat,m=k.halves.length - i∧i≤k.halves.length∧(∀j,j<i→iN k.halves j=true)∧q=[tP 1 1,tI 9 (i:Nat),oB 1 31 [.d (.i (k).id),.d (.b (k).up),.d (.s (k).log),.d (.i (k).forced),.d (.sl (aZ (k).halves))]]) ?_ ?_))))))
 · exact wq (σ':=[tP 1 1,tI 9 (0:Nat),oB 1 31 [.d (.i (k).id),.d (.b (k).up),.d (.s (k).log),.d (.i (k).forced),.d (.sl (aZ (k).halves))]]) [] [] (⟨0,rfl,aX5 _,fun j h=>absurd h (by omega),rfl⟩) qz
 rintro n s ⟨i,rfl,hi,hk,rfl⟩
 refine sq (sq (rT [1,9,71] (s5 (cd rfl (fun c71=> ?_) fun c71=> ?_))))
 · have hi2:i<k.halves.length:=by simpa[aJ] using c71
   have hg:=gJ (l:=k.halves) hi2
   refine sk (sq (bk (sq (sq (rT [1,9,80] (s3 (ai (by rw[aXy,hg];exact⟨⟨by omega,by rw[aJ];omega⟩,rfl⟩) (ai (by rw[aXy,hg];exact⟨aX0 rfl,rfl⟩) (xp (qh (k.halves.getD i .zero)) (ai (by rw[aXy,hg];rfl) ?_))))))))))
   refine s1 (cd rfl (fun c80=> ?_) fun c80=> ?_)
   · have hs:=aD5 (by simpa using c80)
     refine sq (rT [2] (s1 (rt (bQ rfl (aA D.b ?_)))))
     rw[hy,fW hi2 hs]
   refine sk (sq (rT [1,9,10] (s1 (bk (SW.loopW (n:=i) (fun m q=> ∃j:Nat,m=i - j∧j≤i∧(∀k1,k1<j→iR k.halves (k.halves.getD i .zero).frm (k.halves.getD i .zero).num k1=false)∧q=[tP 1 1,tI 9 (i:Nat),tI 10 (j:Nat),oB 1 31 [.d (.i (k).id),.d (.b (k).up),.d (.s (k).log),.d (.i (k).forced),.d (.sl (aZ (k).halves))]]) ?_ ?_)))))
   · exact wq (σ':=[tP 1 1,tI 9 (i:Nat),tI 10 (0:Nat),oB 1 31 [.d (.i (k).id),.d (.b (k).up),.d (.s (k).log),.d (.i (k).forced),.d (.sl (aZ (k).halves))]]) [] [] (⟨0,rfl,aX5 _,fun j h=>absurd h (by omega),rfl⟩) qz
   rintro n s ⟨j,rfl,hj,hkj,rfl⟩
   refine sq (sq (rT [1,9,10,83] (s3 (cd rfl (fun c83=> ?_) fun c83=> ?_))))
   · have hj2:j<i:=by simpa using c83
     have hg2:=gJ (l:=k.halves) (i:=j) (by omega)
     refine sk (sq (bk (sq (rD [1,9,10,113] (s3 (ai (by rw[aXy,hg2];exact⟨⟨by omega,by rw[aJ];omega⟩,rfl⟩) (s1 (ai (by rw[aXy,hg2];exact⟨aX0 rfl,rfl⟩) (s3 (ai (by rw[aXy,hg];exact⟨⟨by omega,by rw[aJ];omega⟩,rfl⟩) (s1 (ai (by rw[aXy,hg];exact⟨aX0 rfl,rfl⟩) (s2 (y3 (ai (fun h=>(by rw[aXy,hg2];exact⟨⟨by omega,by rw[aJ];omega⟩,rfl⟩)) (ai rk (y1 (ai (fun h=>(by rw[aXy,hg2];exact⟨aX0 rfl,rfl⟩)) (ai rk (y3 (ai (fun h=>(by rw[aXy,hg];exact⟨⟨by omega,by rw[aJ];omega⟩,rfl⟩)) (ai rk (y1 (ai (fun h=>(by rw[aXy,hg];exact⟨aX0 rfl,rfl⟩)) (ai rk (y1 (ai pk (ai (by kernel_rfl) (cd rfl (fun c113=> ?_) fun c113=> ?_)))))))))))))))))))))))))))))
     · have hq:iR k.halves (k.halves.getD i .zero).frm (k.halves.getD i .zero).num j=true:=by
        have h9:=c113
        rw[aXy,aXy,hg2,hg] at h9
        exact h9
       have hs:=aGn hj2 hq
       refine sq (rT [2] (s1 (rt (bQ rfl (aA D.b ?_)))))
       rw[hy,fW hi2 hs]
     refine sk (rT [1,9,10] (s3 ?_))
     have hq:iR k.halves (k.halves.getD i .zero).frm (k.halves.getD i .zero).num j=false:=by
      have h9:=c113
      rw[aXy,aXy,hg2,hg] at h9
      exact h9
     refine wq [] [] (⟨i - (j+1),by omega,j+1,rfl,by omega,fun m h=>by by_cases e:m=j;exact e▸hq;exact hkj m (by omega),rfl⟩) ?_
     repeat' apply ai
     all_goals first|exact qx|exact aA D.i (aF (by omega))|exact qz
   have hj3:j=i:=by simp at c83;omega
   subst hj3
   have hs:=aD4 (by simpa using c80) hkj
   refine xt (rT [1,9] (s3 (wq [] [] (⟨k.halves.length - (j+1),by omega,j+1,rfl,by omega,fun m h=>by by_cases e:m=j;exact e▸hs;exact hk m (by omega),rfl⟩) ?_)))
   repeat' apply ai
   all_goals first|exact qx|exact aA D.i (aF (by omega))|exact qz
 have hi3:i=k.halves.length:=by simp[aJ] at c71;omega
 refine xt (sq (rT [2] (s1 (rt (bQ rfl (aA D.b ?_))))))
 subst hi3
 rw[hy,iT hk]
theorem mz (l:List UInt8) (f:Int) (hl:l.length≤140737488355328):Sp 141 1 [tV 0 (.e (.agg [.d (.s l),.d (.i f)]))] [tV 0 (.e (.agg [.d (.s (cY l f).1),.d (.i (cY l f).2)]))]:=by
 refine sb Tryz.func141 rfl (sq (rT [1,2] (s2 (sq (sq (rT [1,2,5] (s1 (xp (oI l f hl) (ai rfl ?_)))))))))
 refine s1 (cd rfl (fun c5=> ?_) fun c5=> ?_)
 · refine sq (rT [2] (s2 (rt ?_)))
   have hr:cY l f=([],0):=aB (by simpa using c5)
   refine bJ rfl rfl ?_
   rw[hr]<;>rfl
 refine sk (sq (rT [2] (s7 (rt ?_))))
 have hr:cY l f=(l,(l.length:Int)):=aC (by simpa using c5)
 refine bJ rfl rfl ?_
 rw[hr]<;>rfl
theorem iD (l:List UInt8) (f:Int) (hl:l.length≤140737488355328):Sp 74 1 [tV 0 (.e (.agg [.d (.s l),.d (.i f)]))] [tV 0 (.e (.agg [.d (.s (cY l f).1),.d (.i (cY l f).2)]))]:=by
 refine sb Tryz.func74 rfl (sq (rT [1,2] (s2 (sq (sq (rT [1,2,5] (s1 (xp (oJ l f hl) (ai rfl ?_)))))))))
 refine s1 (cd rfl (fun c5=> ?_) fun c5=> ?_)
 · refine sq (rT [2] (s2 (rt ?_)))
   have hr:cY l f=([],0):=aB (by simpa using c5)
   refine bJ rfl rfl ?_
   rw[hr]<;>rfl
 refine sk (sq (rT [2] (s7 (rt ?_))))
 have hr:cY l f=(l,(l.length:Int)):=aC (by simpa using c5)
 refine bJ rfl rfl ?_
 rw[hr]<;>rfl
theorem qj (l:List UInt8) (f keep:Int) (hl:l.length≤140737488355328):Sp 67 2 [tV 0 (.e (.agg [.d (.s l),.d (.i f)])),tI 1 keep] [tV 0 (.e (.agg [.d (.s (fY l f keep).1),.d (.i (fY l f keep).2)]))]:=by
 refine sb Tryz.func67 rfl (sq (rT [1,2,4] (s2 (sq (sq (rT [1,2,4,10] (s1 (xp (oI l f hl) (ai rfl ?_)))))))))
 refine s1 (cd rfl (fun c10=> ?_) fun c10=> ?_)
 · refine sq (rT [4] (s2 (rt ?_)))
   have hr:fY l f keep=([],0):=aB (by simpa using c10)
   refine bJ rfl rfl ?_
   rw[hr]<;>rfl
 have hok:dF l f=true:=by simpa using c10
 obtain⟨q1,q2,q3,q4⟩:=gV hok
 have hfa:=lv (keep:=keep) q2
 have hfl: (bG (List.take (gO l f keep).toNat l)).2≤(gO l f keep).toNat:=xj (l:=l) (f:=f) (keep:=keep)
 have hfe:wrap64 (f+(if(if wrap64 ((l.length:Int) - f)<keep then wrap64 ((l.length:Int) - f) else keep)>0 then(if wrap64 ((l.length:Int) - f)<keep then wrap64 ((l.length:Int) - f) else keep) else 0))=gO l f keep:=by
  rw[aF (n:=(l.length:Int) - f) (by omega)]
  unfold gO at hfa ⊢
  have e: (if(l.length:Int) - f<keep then(l.length:Int) - f else keep)=min keep (l.length - f):=by omega
  rw[e]
  exact aF (by split<;>omega)
 refine sk (sq (rT [4,5] (s9 (s5 (ai (by rw[hfe];exact⟨by simp,by simpa using(by omega:0≤gO l f keep),by simpa using hfa.2⟩) (s1 (sq (wa [tD 5 (.s (l.take (gO l f keep).toNat)),tP 4 4,oB 4 28 [.d (.s []),.d (.i 0)]] [] [] ?_ ?_))))))))
 · repeat' apply ai
   all_goals first|exact qx|(rw[hfe];rfl)|exact qz
 refine rT [4,5,7] (s1 (xp (kC (l.take (gO l f keep).toNat) (by rw[aX4];omega)) (ai rfl ?_)))
 refine s5 (sq (rT [4] (s2 (ai (by exact⟨by simp,by simp,by rw[aX4];simp;omega⟩) (s3 (rt ?_))))))
 have hr:fY l f keep=_:=aC hok
 refine bJ rfl rfl ?_
 rw[hr,← aMs]
 rfl
theorem qk (l:List UInt8) (f keep:Int) (hl:l.length≤140737488355328):Sp 64 2 [tV 0 (.e (.agg [.d (.s l),.d (.i f)])),tI 1 keep] [tV 0 (.e (.agg [.d (.s (fY l f keep).1),.d (.i (fY l f keep).2)]))]:=by
 refine sb Tryz.func64 rfl (sq (rT [1,2,4] (s2 (sq (sq (rT [1,2,4,8] (s1 (xp (oJ l f hl) (ai rfl ?_)))))))))
 refine s1 (cd rfl (fun c8=> ?_) fun c8=> ?_)
 · refine sq (rT [4] (s2 (rt ?_)))
   have hr:fY l f keep=([],0):=aB (by simpa using c8)
   refine bJ rfl rfl ?_
   rw[hr]<;>rfl
 have hok:dF l f=true:=by simpa using c8
 obtain⟨q1,q2,q3,q4⟩:=gV hok
 have hfa:=lv (keep:=keep) q2
 have hfl: (bG (List.take (gO l f keep).toNat l)).2≤l.length:=ir l f keep
 refine sk (sq (rT [1,2,4,5] (s3 (sq (sq (rT [1,2,4,5,18] (s7 (cd rfl (fun c18=> ?_) fun c18=> ?_))))))))
 · have hd:=of_decide_eq_true c18
   rw[aF (by omega)] at hd
   refine rT [1,2,4,5] (s6 (sq (sq (rT [1,2,4,5,25] (s2 (cd rfl (fun c25=> ?_) fun c25=> ?_))))))
   · have hz:=of_decide_eq_true c25
     refine rT [2,4,5] (s4 (sq (wa [tP 2 2,tP 4 4,tI 5 (gO l f keep),oB 2 28 [.d (.s l),.d (.i f)],oB 4 28 [.d (.s []),.d (.i 0)]] [] [] ?_ ?_)))
     · repeat' apply ai
       all_goals first|exact qx|exact aA D.i (by unfold gO;(try rw[aF (n:=(l.length:Int) - f) (by omega)] at*);split<;>first|omega|(rw[aF (by omega)];omega))|exact qz
     refine rT [2,4,5] (s3 (ai (by exact⟨by simp,by simpa using(by omega:0≤gO l f keep),by simpa using hfa.2⟩) (xp (gM (l.take (gO l f keep).toNat) (by rw[aX4];omega)) (ai rfl ?_))))
     refine s4 (sq (rT [4] (s3 (ai (by exact⟨by simp,by simp,by simpa using hfl⟩) (s3 (rt ?_))))))
     have hr:fY l f keep=_:=aC hok
     refine bJ rfl rfl ?_
     rw[hr]
     rfl
   have hz:=of_decide_eq_false c25
   refine sk (sq (wa [tP 2 2,tP 4 4,tI 5 (gO l f keep),oB 2 28 [.d (.s l),.d (.i f)],oB 4 28 [.d (.s []),.d (.i 0)]] [] [] ?_ ?_))
   · repeat' apply ai
     all_goals first|exact qx|exact aA D.i (by unfold gO;(try rw[aF (n:=(l.length:Int) - f) (by omega)] at*);split<;>first|omega|(rw[aF (by omega)];omega))|exact qz
   refine rT [2,4,5] (s3 (ai (by exact⟨by simp,by simpa using(by omega:0≤gO l f keep),by simpa using hfa.2⟩) (xp (gM (l.take (gO l f keep).toNat) (by rw[aX4];omega)) (ai rfl ?_))))
   refine s4 (sq (rT [4] (s3 (ai (by exact⟨by simp,by simp,by simpa using hfl⟩) (s3 (rt ?_))))))
   have hr:fY l f keep=_:=aC hok
   refine bJ rfl rfl ?_
   rw[hr]
   rfl
 have hd:=of_decide_eq_false c18
 rw[aF (by omega)] at hd
 refine sk (sq (sq (rT [1,2,4,5,25] (s2 (cd rfl (fun c25=> ?_) fun c25=> ?_)))))
 · have hz:=of_decide_eq_true c25
   refine rT [2,4,5] (s4 (sq (wa [tP 2 2,tP 4 4,tI 5 (gO l f keep),oB 2 28 [.d (.s l),.d (.i f)],oB 4 28 [.d (.s []),.d (.i 0)]] [] [] ?_ ?_)))
   · repeat' apply ai
     all_goals first|exact qx|exact aA D.i (by unfold gO;(try rw[aF (n:=(l.length:Int) - f) (by omega)] at*);split<;>first|omega|(rw[aF (by omega)];omega))|exact qz
   refine rT [2,4,5] (s3 (ai (by exact⟨by simp,by simpa using(by omega:0≤gO l f keep),by simpa using hfa.2⟩) (xp (gM (l.take (gO l f keep).toNat) (by rw[aX4];omega)) (ai rfl ?_))))
   refine s4 (sq (rT [4] (s3 (ai (by exact⟨by simp,by simp,by simpa using hfl⟩) (s3 (rt ?_))))))
   have hr:fY l f keep=_:=aC hok
   refine bJ rfl rfl ?_
   rw[hr]
   rfl
 have hz:=of_decide_eq_false c25
 refine sk (sq (wa [tP 2 2,tP 4 4,tI 5 (gO l f keep),oB 2 28 [.d (.s l),.d (.i f)],oB 4 28 [.d (.s []),.d (.i 0)]] [] [] ?_ ?_))
 · repeat' apply ai
   all_goals first|exact qx|exact aA D.i (by unfold gO;(try rw[aF (n:=(l.length:Int) - f) (by omega)] at*);split<;>first|omega|(rw[aF (by omega)];omega))|exact qz
 refine rT [2,4,5] (s3 (ai (by exact⟨by simp,by simpa using(by omega:0≤gO l f keep),by simpa using hfa.2⟩) (xp (gM (l.take (gO l f keep).toNat) (by rw[aX4];omega)) (ai rfl ?_))))
 refine s4 (sq (rT [4] (s3 (ai (by exact⟨by simp,by simp,by simpa using hfl⟩) (s3 (rt ?_))))))
 have hr:fY l f keep=_:=aC hok
 refine bJ rfl rfl ?_
 rw[hr]
 rfl
theorem ze (l:List dW) (hl:l.length≤1000000):Sp 139 1 [tD 0 (.sl (aZ l))] [tO 0 0 l.length,oR 0 138 6 (aZ l)]:=by
 refine sb Tryz.func139 rfl (sq (rT [0] (s1 (sq (sq (rT [0,6] (s3 (cd rfl (fun c6=> ?_) fun c6=> ?_))))))))
 · refine sq (rT [2] (s1 (SW.nilOwn 2 0 138 6 rfl rfl (rt (rq [] [] rfl ?_)))))
   repeat' apply ai
   all_goals try exact qx
   all_goals(simp[aJ] at c6;simp[c6,aZ])
 refine sk (sq (rT [0,3] (s2 (ai (by refine⟨rfl,by omega,?_⟩;rw[aJ];show((64:Nat):Int)*_≤_;omega) (s1 (sq (rT [3] (s2 (ai (by refine⟨trivial,by simp,sV l⟩) (sq (rT [2] (s2 (rt (rq [(0,9)] [] rfl ?_))))))))))))))
 repeat' apply ai
 all_goals try exact qx
 all_goals first|(simp[aJ];done)|(simp;done)
theorem aA8 (l:List iJ) (hl:l.length≤1000000):Sp 140 1 [tD 0 (.sl (cN l))] [tD 0 (.sl (cN l))]:=by
 refine sb Tryz.func140 rfl (sq (rT [0] (s1 (sq (sq (rT [0,6] (s3 (cd rfl (fun c6=> ?_) fun c6=> ?_))))))))
 · refine sq (rT [2] (s1 (rt (eF _ [] [] rfl (kf rfl (aA D.sl ?_) trivial) rfl rfl))))
   simp[bL] at c6;simp[c6,cN]
 refine sk (sq (rT [0,3] (s2 (ai (by refine⟨rfl,by omega,?_⟩;rw[bL];show((24:Nat):Int)*_≤_;omega) (s1 (sq (rT [3] (s2 (ai (by refine⟨trivial,by simp,rC l⟩) (sq (rT [2] (s2 (rt (eF _ [] [9] rfl (fB rfl rfl rfl ?_ (aA D.sl ?_) trivial) rfl rfl))))))))))))))
 · simp
 simp
theorem lN (k:aK) (hb:k.halves.length≤100000∧ ∀x∈k.halves,x.got.length≤100000):Sp 73 1 [tV 0 k.V] [tV 0 k.V]:=by
 refine sb Tryz.func73 rfl (sq (rT [1,2] (s2 (sq (rT [1,2,3] (s3 (sq (rT [2,3] (s2 (bP (robj:=[]) (rl:=[(0,8)]) (bor:=[]) (ze k.halves (by omega)) rfl rfl rfl rfl ⟨cQ rfl rfl trivial,rfl⟩ rfl (.inl rfl) (fun p hp=>nomatch hp) (fun j hj=>by(obtain rfl:j=0:=by simpa[kU,cE,iS] using hj);rfl) (s2 (sq (sq (rT [2,3,12,13] (s2 (ai (by exact aJ _) (s1 (bk (SW.loopW (n:=k.halves.length) (fun m q=> ∃i:Nat,m=k.halves.length - i∧i≤k.halves.length∧q=[tP 2 2,tP 3 3,tI 12 (k.halves.length:Nat),tI 13 (i:Nat),oB 2 31 [.d (.i 0),.d (.b false),.d (.s []),.d (.i 0),.nil],oB 3 31 [.d (.i k.id),.d (.b k.up),.d (.s k.log),.d (.i k.forced),.own 8 k.halves.length],oR 8 138 6 (aZ k.halves)]) ?_ ?_)))))))))))))))))))
 · exact wq (σ':=[tP 2 2,tP 3 3,tI 12 (k.halves.length:Nat),tI 13 (0:Nat),oB 2 31 [.d (.i 0),.d (.b false),.d (.s []),.d (.i 0),.nil],oB 3 31 [.d (.i k.id),.d (.b k.up),.d (.s k.log),.d (.i k.forced),.own 8 k.halves.length],oR 8 138 6 (aZ k.halves)]) [] [] (⟨0,rfl,aX5 _,rfl⟩) qz
 rintro n s ⟨i,rfl,hi,rfl⟩
 refine sq (rT [2,3,12,13,14] (s1 (sq (cd rfl (fun c14=> ?_) fun c14=> ?_))))
 · have hi2:i<k.halves.length:=by simpa using c14
   have hg:=gJ (l:=k.halves) hi2
   have hmem:k.halves.getD i .zero∈k.halves:=dQ hi2
   refine sk (sq (bk (sq (rT [2,3,4,12,13] (s2 (rD [2,3,12,13] (s6 (ai (by exact⟨aJ _,by omega,by omega⟩) (ai (by exact aJ _) (ai (by rw[aXy,hg];exact⟨⟨aJ _,by omega⟩,aX0 rfl,rfl⟩) (xp (aA8 (k.halves.getD i .zero).got (by have:=hb.2 _ hmem;omega)) (ai (by rw[aXy,hg];rfl) ?_))))))))))))
   refine ai (by exact⟨aJ _,by omega,by omega⟩) (ai (by exact aJ _) (ai (by rw[aXy,hg];exact⟨aJ _,by omega,rfl,aX8 _⟩) (ai (by kernel_rfl) (rT [2,3,12,13] (s2 (wq [] [] (⟨k.halves.length - (i+1),by omega,i+1,rfl,by omega,rfl⟩) ?_))))))
   repeat' apply ai
   all_goals first|exact qx|exact aA D.i (by rw[aF (by omega)];omega)|(rw[aXy];exact aO1 (by rw[aJ];omega) (by rw[hg];rfl))|exact qz
 have hi3:i=k.halves.length:=by simp at c14;omega
 refine xt (sq (rT [2] (s2 (rt (rq [] [8] rfl ?_)))))
 repeat' apply ai
 all_goals try exact qx
 all_goals(first|with_reducible rfl|exact aJ _|rfl)
theorem pR (n:Int):Sp 215 1 [tI 0 n] [tI 0 (fC n)]:=by
 refine sb Tryz.func215 rfl (sq (rT [0] (s1 (sq (sq (rT [0,5] (s1 (xp (dR _ _ _) (ai rfl ?_)))))))))
 refine s1 (cd rfl (fun c5=> ?_) fun c5=> ?_)
 · refine sq (rT [2] (s1 (rt (bQ rfl (aA D.i ?_)))))
   simp at c5
   simp[fC,c5,Int.mul_comm]
 refine sk (sq (rT [2] (s5 (rt (bQ rfl (aA D.i ?_))))))
 simp at c5
 simp[fC,c5,Int.mul_comm]
theorem bo (b d:Int) (hb:1≤b∧b≤6) (hd:1≤d∧d≤6):Sp 251 2 [tI 0 b,tI 1 d] [tI 0 (oC b d)]:=by
 refine sb Tryz.func251 rfl (sq (rT [0,1] (s1 (sq (sq (rT [0,1,6] (s2 (cd rfl (fun c6=> ?_) fun c6=> ?_))))))))
 · have h1:d=1:=by simpa using c6
   refine sq (rT [4] (s1 (ai (by omega) (s2 (rt (bQ rfl (aA D.i ?_)))))))
   exact(aC h1).symm
 have h1: ¬d=1:=by simpa using c6
 have h2:wrap64 (d*wrap64 (d - 1))≠0:=aD7 (by omega)
 refine sk (sq (rT [4] (s4 (ai (h2) (s1 (rt (bQ rfl (aA D.i ?_))))))))
 exact(aB h1).symm
theorem ql (b n:Int) (hok:tW b n=true):Sp 216 2 [tI 0 b,tI 1 n] [tI 0 (lH b n)]:=by
 obtain⟨hb,hn⟩:=yD hok
 refine sb Tryz.func216 rfl (sq (rT [0,1] (s1 (sq (sq (rT [0,1,12] (s2 (xp (wR _ _) (ai rfl ?_)))))))))
 refine s1 (cd rfl (fun c12=> ?_) fun c12=> ?_)
 · rw[hok] at c12
   cases c12
 refine sk (sq (sq (rT [0,1,15] (s3 (cd rfl (fun c15=> ?_) fun c15=> ?_)))))
 · have hs:n<b:=by simpa using c15
   refine sq (rT [4] (s1 (rt (bQ rfl (aA D.i ?_)))))
   exact(tj hok hs).symm
 have hs: ¬n<b:=by simpa using c15
 refine sk (sq (rT [0,1,5] (s1 (sq (sq (rT [0,1,5,6] (s1 (bk (SW.loopW (n:=7) (fun m s=> ∃i:Nat,m=7 - i∧(i:Int)≤b∧s=[tI 0 b,tI 1 n,tI 5 (xF b (i)),tI 6 ((i+1:Nat):Int)]) ?_ ?_)))))))))
 · refine wq [] [] (⟨0,rfl,by omega,rfl⟩) ?_
   repeat' apply ai
   all_goals first|exact qx|rfl|exact aA D.i (by rw[aF (by omega)];omega)|(simp;done)|omega|exact qz
 rintro n s ⟨i,rfl,hi,rfl⟩
 refine sq (sq (rT [0,1,5,6,18] (s3 (cd rfl (fun c18=> ?_) fun c18=> ?_))))
 · have hi2: ((i+1:Nat):Int)≤b:=by simpa using c18
   have hr1:=vP hb (d:=i) (by omega)
   have hw1:=vI (b:=b) (d:=((i+1:Nat):Int)) hb (by omega)
   refine sk (sq (bk (rT [0,1,5,6] (s3 (xp (bo b _ (by omega) (by omega)) (ai rfl ?_))))))
   refine s2 (rT [0,1,5,6] (s3 (wq [] [] (⟨7 - (i+1),by omega,i+1,rfl,by omega,rfl⟩) ?_)))
   repeat' apply ai
   all_goals first|exact qx|(show D.i _=D.i (xF b i+oC b ((i+1:Nat):Int));exact aA D.i (aF (by omega)))|exact aA D.i (by rw[aF (by omega)];omega)|(simp;done)|omega|exact qz
 have hi3: ¬((i+1:Nat):Int)≤b:=by simpa using c18
 have hie:i=b.toNat:=by omega
 subst hie
 have hq:=vP hb (d:=b.toNat) (by omega)
 refine xt (sq (rT [0,7] (s4 (xp (pR _) (ai rfl ?_)))))
 refine xp (pR _) (ai rfl ?_)
 refine ai (by decide) (s1 (ai (by omega) (s1 (sq (sq (rT [0,7,8] (s1 (bk ?_))))))))
 have hdr:=aI6 (n:=n) hb
 refine SW.loopW (n:=7) (fun m s=> ∃j:Nat,m=7 - j∧((j:Int)≤b∧(j+1:Int)≤b)∧bu b (pd b n) (6 - j) (j+1)=lH b n∧s=[tI 0 b,tI 7 (pd b n - xF b (j)),tI 8 ((j+1:Nat):Int)]) ?_ ?_
 · refine wq [] [] (⟨0,rfl,by omega,(aAo hok hs).symm,rfl⟩) ?_
   repeat' apply ai
   all_goals first|exact qx|(show D.i (pd b n)=D.i (pd b n - 0);rw[Int.sub_zero])|rfl|exact aA D.i (by rw[aF (by omega)];omega)|(simp;done)|omega|exact qz
 rintro n s ⟨j,rfl,hj,hdg,rfl⟩
 refine sq (sq (rT [0,7,8,37] (s3 (cd rfl (fun c37=> ?_) fun c37=> ?_))))
 · have hj2: ((j+1:Nat):Int)<b:=by simpa using c37
   have hr1:=vP hb (d:=j) (by omega)
   have hw1:=vI (b:=b) (d:=((j+1:Nat):Int)) hb (by omega)
   have hsum:wrap64 (pd b n - xF b j - oC b ((j+1:Nat):Int))=pd b n - xF b (j+1):=by
    show _=pd b n - (xF b j+oC b ((j+1:Nat):Int))
    rw[aF (by omega)];omega
   refine sk (sq (bk (sq (rT [0,7,8] (s3 (xp (bo b _ (by omega) (by omega)) (ai rfl ?_)))))))
   refine s2 (sq (rT [0,7,8,46] (s2 (cd rfl (fun c46=> ?_) fun c46=> ?_))))
   · have hlt:pd b n<xF b (j+1):=by
      have h9:=of_decide_eq_true c46
      rw[hsum] at h9;omega
     refine sq (rT [4] (s2 (rt (bQ rfl (aA D.i ?_)))))
     rw[← hdg]
     exact(aMw (by omega) (by omega) hlt).symm
   have hnl: ¬pd b n<xF b (j+1):=by
    have h9:=of_decide_eq_false c46
    rw[hsum] at h9;omega
   have hst:=aMv (by omega) (by omega) hnl
   refine sk (rT [0,7,8] (s3 (wq [] [] (⟨7 - (j+1),by omega,j+1,rfl,by omega,hst▸hdg,rfl⟩) ?_)))
   repeat' apply ai
   all_goals first|exact qx|(rw[hsum];done)|exact aA D.i (by rw[aF (by omega)];omega)|(simp;done)|omega|exact qz
 have hj3: ¬((j+1:Nat):Int)<b:=by simpa using c37
 refine xt (sq (rT [4] (s2 (rt (bQ rfl (aA D.i ?_))))))
 rw[← hdg]
 rw[lw (by omega)]
theorem na (b n:Int):Sp 176 2 [tI 0 b,tI 1 n] [tD 0 (.sl (dE (cW b n)))]:=by
 refine sb Tryz.func176 rfl (sq (rT [0,1] (s1 (sq (rT [0,1,5] (s2 (sq (sq (rT [0,1,5,15] (s2 (xp (wR _ _) (ai rfl ?_))))))))))))
 refine s1 (cd rfl (fun c15=> ?_) fun c15=> ?_)
 · have hok: ¬tW b n=true:=by simpa using c15
   refine sq (rT [4] (s2 (rt (eF _ [] [11] rfl (fB rfl rfl rfl ?_ (aA D.sl ?_) trivial) rfl rfl))))
   · rfl
   rw[ab hok];rfl
 have hok:tW b n=true:=by simpa using c15
 obtain⟨hb,hn⟩:=yD hok
 have hmd:=tZ hok
 refine sk (sq (sq (rT [0,1,5,19] (s3 (cd rfl (fun c19=> ?_) fun c19=> ?_)))))
 · have hs:n<b:=by simpa using c19
   refine sq (rT [4] (s5 (rt (eF _ [] [11] rfl (fB rfl rfl rfl ?_ (aA D.sl ?_) trivial) rfl rfl))))
   · rfl
   rw[cu hok hs];rfl
 have hs: ¬n<b:=by simpa using c19
 refine sk (sq (rT [0,1,5,6] (s1 (ai (by refine⟨rfl,by omega,?_⟩;show((1:Nat):Int)*_≤_;omega) (s1 (sq (rT [0,1,5,6,7] (s3 (xp (pR _) (ai rfl ?_))))))))))
 refine s1 (sq (sq (rT [0,5,6,7,8] (s2 (xp (ql b n hok) (ai rfl ?_))))))
 refine s1 (bk (SW.loopW (n:=(lH b n).toNat*1) (fun m s=> ∃(x:Int) (k:Nat) (u:List Bool),m=k*1∧(UOk b u∧(u.count true:Int)+k≤b)∧aGq b k x u=xG b n∧s=[tI 0 b,tO 5 11 (([]:List Int)).length,tO 6 25 b.toNat,tI 7 (x),tI 8 (k:Nat),oR 11 3 1 (dE ([])),oR 25 4 1 (aQ ((u).take b.toNat))]) ?_ ?_))
 · refine wq (σ':=[tI 0 b,tO 5 11 (([]:List Int)).length,tO 6 25 b.toNat,tI 7 (fC (wrap64 (wrap64 (n*7)+1))),tI 8 ((lH b n).toNat:Nat),oR 11 3 1 (dE ([])),oR 25 4 1 (aQ ((List.replicate 6 false).take b.toNat))]) [] [] (⟨_,_,_,rfl,⟨(yL b).1,by rw[(yL b).2];omega⟩,rfl,rfl⟩) ?_
   repeat' apply ai
   all_goals first|exact qx|rfl|exact aA D.i (by omega)|(rw[List.take_replicate,Nat.min_eq_left (by omega)];exact repT _)|exact qz
 rintro n s ⟨x,k,u,rfl,⟨hu,hc⟩,hp,rfl⟩
 refine sq (sq (rT [0,5,6,7,8,34] (s2 (cd rfl (fun c34=> ?_) fun c34=> ?_))))
 · have hk1:0<k:=by simpa using c34
   obtain⟨f,hf,hfree⟩:=aGr hb hu (by omega)
   refine sk (sq (bk (sq (rT [0,5,6,7,8] (s1 (xp (pR _) (ai rfl ?_)))))))
   refine s1 (sq (rT [0,5,6,7,8,9] (s1 (ai (by decide) (s1 (ai (by omega) (s1 (sq (bk ?_)))))))))
   have ha0:=aCn (x:=x) hb
   have hul:=hu.1
   have htl: (u.take b.toNat).length=b.toNat:=by rw[aX4];omega
   refine SW.loopW (n:=((f+b - (Int.tmod (wrap64 (Int.tdiv (fC x) 16)) b)) % b).toNat) (fun m s=> ∃at_:Int,m=((f+b - at_) % b).toNat∧(0≤at_∧at_<b)∧tQ u b 6 at_=tQ u b 6 (Int.tmod (wrap64 (Int.tdiv (fC x) 16)) b)∧s=[tI 0 b,tO 5 11 (([]:List Int)).length,tO 6 25 b.toNat,tI 7 (fC x),tI 8 (k:Nat),tI 9 (at_),oR 11 3 1 (dE ([])),oR 25 4 1 (aQ ((u).take b.toNat))]) ?_ ?_
   · refine wq (σ':=[tI 0 b,tO 5 11 (([]:List Int)).length,tO 6 25 b.toNat,tI 7 (fC x),tI 8 (k:Nat),tI 9 ((Int.tmod (wrap64 (Int.tdiv (fC x) 16)) b)),oR 11 3 1 (dE ([])),oR 25 4 1 (aQ ((u).take b.toNat))]) [] [] (⟨_,rfl,ha0,rfl,rfl⟩) ?_
     repeat' apply ai
     all_goals first|exact qx|rfl|exact qz
   rintro n s ⟨at_,rfl,hat,hga,rfl⟩
   have hbo:=lQ (l:=u.take b.toNat) (i:=at_.toNat) (by omega)
   rw[yH (by omega)] at hbo
   refine sq (sq (rT [0,5,6,7,8,9,46] (s2 (ai (by exact⟨by rw[dA];exact htl,by omega,by omega⟩) (ai (by rw[hbo];exact⟨⟨by rw[dA];exact htl,by omega⟩,aX8 _,rfl⟩) (cd rfl (fun c46=> ?_) fun c46=> ?_))))))
   · have c40:u.getD at_.toNat false=true:=by
      rw[hbo] at c46;exact c46
     refine sk (bk (rT [0,5,6,7,8,9] (s3 (ai (by omega) (s1 ?_)))))
     have hne:at_≠f:=by
      rintro rfl
      rw[hfree] at c40
      cases c40
     obtain⟨q1,q2⟩:=aIs hb hf hat hne
     have hgo:=aPk hb hf hfree hat c40
     refine wq (σ':=[tI 0 b,tO 5 11 (([]:List Int)).length,tO 6 25 b.toNat,tI 7 (fC x),tI 8 (k:Nat),tI 9 (Int.tmod (wrap64 (at_+1)) b),oR 11 3 1 (dE ([])),oR 25 4 1 (aQ ((u).take b.toNat))]) [] [] (⟨_,q1,_,rfl,q2,hgo▸hga,rfl⟩) ?_
     repeat' apply ai
     all_goals first|exact qx|rfl|exact qz
   have c40:u.getD at_.toNat false=false:=by
    rw[hbo] at c46;exact c46
   have hz:at_=tQ u b 6 (Int.tmod (wrap64 (Int.tdiv (fC x) 16)) b):=by rw[← hga,ff c40]
   have hpo:zX b x u=u.set at_.toNat true:=by rw[zX,← hz]
   have huk:=aGs (x:=x) hb hu (by omega)
   rw[hpo] at huk
   refine xt (rT [0,5,6,7,8] (s2 (ai (by exact⟨by rw[dA];exact htl,by omega,by omega⟩) (ai (by rw[hbo];exact⟨by rw[dA];exact htl,by omega,rfl,aX8 _⟩) (rT [0,5,6,7,8] (s3 ?_))))))
   obtain⟨k,rfl⟩: ∃k2,k=k2+1:=⟨k - 1,by omega⟩
   have hpp:aGq b k (fC x) (u.set at_.toNat true)=xG b n:=by
    rw[← hpo];exact hp
   refine wq [] [] (⟨k*1,by omega,fC x,k,u.set at_.toNat true,rfl,⟨huk.1,by rw[huk.2];omega⟩,hpp,rfl⟩) ?_
   repeat' apply ai
   all_goals first|exact qx|exact aA D.i (by rw[aF (by omega)];omega)|(rw[List.take_set];exact aL2 (by omega))|exact qz
 have hk1:k=0:=by simp at c34;omega
 subst hk1
 have hue:u=xG b n:=hp
 have hul:=hu.1
 have htl: (u.take b.toNat).length=b.toNat:=by rw[aX4];omega
 refine xt (sq (sq (rT [0,5,6,10] (s1 (bk (SW.loopW (n:=b.toNat) (fun m s=> ∃i:Nat,m=b.toNat - i∧(i:Int)≤b∧s=[tI 0 b,tO 5 11 (qB u (i)).length,tO 6 25 b.toNat,tI 10 (i:Nat),oR 11 3 1 (dE (qB u (i))),oR 25 4 1 (aQ (u.take b.toNat))]) ?_ ?_))))))
 · refine wq [] [] (⟨0,rfl,by omega,rfl⟩) ?_
   repeat' apply ai
   all_goals first|exact qx|rfl|exact qz
 rintro n s ⟨i,rfl,hi,rfl⟩
 refine sq (sq (rT [0,5,6,10,56] (s3 (cd rfl (fun c56=> ?_) fun c56=> ?_))))
 · have hi2: (i:Int)<b:=by simpa using c56
   have hbo:=lQ (l:=u.take b.toNat) (i:=i) (by omega)
   rw[yH (by omega)] at hbo
   refine sk (sq (bk (sq (rT [0,5,6,10,62] (s2 (ai (by exact⟨by rw[dA];exact htl,by omega,by omega⟩) (ai (by rw[aXy];rw[hbo];exact⟨⟨by rw[dA];exact htl,by omega⟩,aX8 _,rfl⟩) (cd rfl (fun c62=> ?_) fun c62=> ?_))))))))
   · have c52:u.getD i false=true:=by
      rw[aXy,hbo] at c62;exact c62
     refine rT [0,5,6,10] (s3 (ai (by refine⟨rfl,cM _,by simp,?_⟩;have:=gg u i;show(_+1)*8≤_;omega) (s1 (rT [0,5,6,10] (s3 ?_)))))
     first
     |(have hx:=xn c52
       refine wq [] [] (⟨b.toNat - (i+1),by omega,i+1,rfl,by omega,rfl⟩) ?_
       repeat' apply ai
       all_goals first|exact qx|exact aA D.i (by rw[aF (by omega)];omega)|omega|(simp;done)|(rw[hx,aXz];rfl)|(rw[hx];exact oN _ _)|(rw[hx];simp[dE,aXz];done)|exact qz)
     |(have hx:=pf c52
       refine wq [] [] (⟨b.toNat - (i+1),by omega,i+1,rfl,by omega,rfl⟩) ?_
       repeat' apply ai
       all_goals first|exact qx|exact aA D.i (by rw[aF (by omega)];omega)|omega|(simp;done)|(rw[hx];done)|exact qz)
   have c52:u.getD i false=false:=by
    rw[aXy,hbo] at c62;exact c62
   refine sk (rT [0,5,6,10] (s3 ?_))
   first
   |(have hx:=xn c52
     refine wq [] [] (⟨b.toNat - (i+1),by omega,i+1,rfl,by omega,rfl⟩) ?_
     repeat' apply ai
     all_goals first|exact qx|exact aA D.i (by rw[aF (by omega)];omega)|omega|(simp;done)|(rw[hx,aXz];rfl)|(rw[hx];exact oN _ _)|(rw[hx];simp[dE,aXz];done)|exact qz)
   |(have hx:=pf c52
     refine wq [] [] (⟨b.toNat - (i+1),by omega,i+1,rfl,by omega,rfl⟩) ?_
     repeat' apply ai
     all_goals first|exact qx|exact aA D.i (by rw[aF (by omega)];omega)|omega|(simp;done)|(rw[hx];done)|exact qz)
 have hi3:i=b.toNat:=by simp at c56;omega
 subst hi3
 refine xt (sq (rT [4] (s2 (rt (eF _ [] [11] rfl (fB rfl rfl rfl ?_ (aA D.sl ?_) trivial) rfl rfl)))))
 · exact cM _
 rw[pg hok hs,← hue,← xo,so (i:=b.toNat) (fun j hj=>hu.2 j (by omega)) (by omega)]
theorem aA9:Sp 177 0 [] [tD 0 (.s [0,0,0,0])]:=by
 refine sb Tryz.func177 rfl (sq (rT [] (s1 (sq (rT [0] (ai (by exact⟨rfl,by decide,by decide⟩) (ai (by exact⟨rfl,rfl⟩) (s1 (rt (bQ rfl (aA D.s ?_)))))))))))
 rfl
theorem nb (a c:List UInt8) (ha:a.length=4) (hc:c.length=4):Sp 178 2 [tD 0 (.s a),tD 1 (.s c)] [tD 0 (.s (aAn a c))]:=by
 refine sb Tryz.func178 rfl (sq (rT [0,1] (s1 (sq (rT [0,1,5] (s2 (sq (sq (rT [0,1,5,6] (s1 (bk (SW.loopW (n:=4) (fun m s=> ∃i:Nat,m=4 - i∧i≤4∧s=[tD 0 (.s a),tD 1 (.s c),tO 5 7 (xq a c (i)).length,tI 6 (i:Nat),oR 7 5 1 (aE (xq a c (i)))]) ?_ ?_))))))))))))
 · refine wq [] [] (⟨0,rfl,by omega,rfl⟩) ?_
   repeat' apply ai
   all_goals first|exact qx|rfl|exact qz
 rintro n s ⟨i,rfl,hi,rfl⟩
 refine sq (sq (rT [0,1,5,6,9] (s2 (cd rfl (fun c9=> ?_) fun c9=> ?_))))
 · have hi2:i<4:=by simp at c9;omega
   refine sk (sq (bk (rD [0,1,5,6] (s3 (ai (by omega) (s2 (ai (by omega) (s2 (ai (by refine⟨rfl,aY _,by simp,?_⟩;rw[ly];show(_+1)*1≤_;omega) (s1 (ai (by kernel_rfl) (rT [0,1,5,6] (s3 ?_)))))))))))))
   have hx:=aI9 a c i
   refine wq [] [] (⟨4 - (i+1),by omega,i+1,rfl,by omega,rfl⟩) ?_
   repeat' apply ai
   all_goals first|exact qx|(rw[hx,aXz];rfl)|(rw[hx,aXy];exact aL4 _ _ _)|(simp[aY,ly];done)|exact aA D.i (by rw[aF (by omega)];omega)|omega|(simp;done)|exact qz
 have hi2:i=4:=by simp at c9;omega
 subst hi2
 refine xt (sq (rT [4] (s1 (ai (by exact⟨aY _,(aA aE (cL _)).symm⟩) (s1 (rt (bQ rfl (aA D.s ?_))))))))
 exact cL _
theorem aBa (l:List UInt8) (hl:l.length≤140737488355328):Sp 175 1 [tD 0 (.s l)] [tD 0 (.sl (bF (dY l)))]:=by
 refine sb Tryz.func175 rfl (sq (rT [0] (s1 (sq (rT [0,3] (s2 (sq (sq (rT [0,3,15] (s4 (y3 (ai pk (cd rfl (fun c15=> ?_) fun c15=> ?_)))))))))))))
 · have hin: ¬iQ l.length 1 24=true:=by
    have h1: (l.length:Int)<1∨(l.length:Int)>24:=by simpa only[Bool.or_eq_true,aD] using c15
    simp[iQ];omega
   refine sq (rT [2] (s2 (rt (eF _ [] [7] rfl (fB rfl rfl rfl ?_ (aA D.sl ?_) trivial) rfl rfl))))
   · rfl
   rw[aCo hin];rfl
 have hl2:1≤l.length∧l.length≤24:=by
  have h1: ¬(l.length:Int)<1∧ ¬(l.length:Int)>24:=by simpa only[Bool.or_eq_false_iff,decide_eq_false_iff_not] using c15
  omega
 have hin:iQ l.length 1 24=true:=by simp[iQ];omega
 refine sk (sq (sq (rT [0,3,4] (s1 (bk (SW.loopW (n:=((l.length+3) / 4)) (fun m s=> ∃i:Nat,m=((l.length+3) / 4) - i∧i≤((l.length+3) / 4)∧s=[tD 0 (.s l),tO 3 7 (wL l (i)).length,tI 4 (i:Nat),oR 7 9 1 (bF (wL l (i)))]) ?_ ?_))))))
 · refine wq (σ':=[tD 0 (.s l),tO 3 7 (wL l (0)).length,tI 4 (0:Nat),oR 7 9 1 (bF (wL l (0)))]) [] [] (⟨0,rfl,aX5 _,rfl⟩) ?_
   repeat' apply ai
   all_goals first|exact qx|rfl|exact qz
 rintro n s ⟨i,rfl,hi,rfl⟩
 refine sq (sq (rT [0,3,4,21] (s3 (xp (pQ _ (by omega)) (ai rfl ?_)))))
 refine s1 (cd rfl (fun c21=> ?_) fun c21=> ?_)
 · have hi2:i< ((l.length+3) / 4):=by simp at c21;omega
   refine sk (sq (bk (sq (rT [0,3,4,5] (s2 (sq (sq (rT [0,3,4,5,6] (s3 (bk (SW.loopW (n:=4) (fun m s=> ∃c:Nat,m=4 - c∧c≤4∧s=[tD 0 (.s l),tO 3 7 (wL l i).length,tI 4 (i:Nat),tO 5 24 (cw l i (c)).length,tI 6 (4*i+c:Nat),oR 7 9 1 (bF (wL l i)),oR 24 5 1 (aE (cw l i (c)))]) ?_ ?_)))))))))))
   · refine wq (σ':=[tD 0 (.s l),tO 3 7 (wL l i).length,tI 4 (i:Nat),tO 5 24 (cw l i (0)).length,tI 6 (4*i+0:Nat),oR 7 9 1 (bF (wL l i)),oR 24 5 1 (aE (cw l i (0)))]) [] [] (⟨0,rfl,aX5 _,rfl⟩) ?_
     repeat' apply ai
     all_goals first|exact qx|rfl|exact aA D.i (by rw[aF (by omega)];omega)|exact qz
   rintro n s ⟨c,rfl,hc,rfl⟩
   refine sq (sq (rT [0,3,4,5,6,31] (s5 (cd rfl (fun c31=> ?_) fun c31=> ?_))))
   · have hc2:c<4:=by
      have h:=c31
      rw[aF (n:=(i:Int)+1) (by omega),aF (by omega)] at h
      simp at h;omega
     refine sk (sq (bk (sq (rT [0,3,4,5,6,37] (s4 (cd rfl (fun c37=> ?_) fun c37=> ?_))))))
     · have hk3:4*i+c<l.length:=by simp at c37;omega
       refine rT [0,3,4,5,6] (s3 (ai (by omega) (s1 (ai (by refine⟨rfl,aY _,by simp,?_⟩;rw[mU];show(_+1)*1≤_;omega) (s1 (rT [0,3,4,5,6] (s3 ?_)))))))
       first
       |(have hk4:4*i+c<l.length:=hk3
         have hbs:=ae l i c
         refine wq [] [] (⟨4 - (c+1),by omega,c+1,rfl,by omega,rfl⟩) ?_
         repeat' apply ai
         all_goals first|exact qx|exact aA D.i (by rw[aF (by omega)];omega)|(rw[hbs,aXz];rfl)|(rw[hbs,aXy];exact gY _ [_])|(simp[aY,mU];done)|exact qz)
       |(have hbs:=ae l i c
         rw[hk3] at hbs
         refine wq [] [] (⟨4 - (c+1),by omega,c+1,rfl,by omega,rfl⟩) ?_
         repeat' apply ai
         all_goals first|exact qx|exact aA D.i (by rw[aF (by omega)];omega)|(rw[hbs,aXz];rfl)|(rw[hbs];exact gY _ [0])|(simp[aY,mU];done)|exact qz)
     have hk3:l.getD (4*i+c) 0=0:=getD_none (by simp at c37;omega)
     refine rT [0,3,4,5,6] (s2 (ai (by refine⟨rfl,aY _,by simp,?_⟩;rw[mU];show(_+1)*1≤_;omega) (s1 (rT [0,3,4,5,6] (s3 ?_)))))
     first
     |(have hk4:4*i+c<l.length:=hk3
       have hbs:=ae l i c
       refine wq [] [] (⟨4 - (c+1),by omega,c+1,rfl,by omega,rfl⟩) ?_
       repeat' apply ai
       all_goals first|exact qx|exact aA D.i (by rw[aF (by omega)];omega)|(rw[hbs,aXz];rfl)|(rw[hbs,aXy];exact gY _ [_])|(simp[aY,mU];done)|exact qz)
     |(have hbs:=ae l i c
       rw[hk3] at hbs
       refine wq [] [] (⟨4 - (c+1),by omega,c+1,rfl,by omega,rfl⟩) ?_
       repeat' apply ai
       all_goals first|exact qx|exact aA D.i (by rw[aF (by omega)];omega)|(rw[hbs,aXz];rfl)|(rw[hbs];exact gY _ [0])|(simp[aY,mU];done)|exact qz)
   have hc2:c=4:=by
    have h:=c31
    rw[aF (n:=(i:Int)+1) (by omega),aF (by omega)] at h
    simp at h;omega
   subst hc2
   refine xt (rT [0,3,4] (s2 (ai (by exact⟨aY _,(aA aE (cL _)).symm⟩) (s1 (ai (by refine⟨rfl,aP _,by simp,?_⟩;rw[af];show(_+1)*16≤_;omega) (s1 (rT [0,3,4] (s3 ?_))))))))
   have hcs:=aI8 l i
   refine wq [] [] (⟨((l.length+3) / 4) - (i+1),by omega,i+1,rfl,by omega,rfl⟩) ?_
   repeat' apply ai
   all_goals first|exact qx|(rw[hcs,cL];exact fF _ _)|(rw[hcs,aXz];rfl)|(simp[aP,af];done)|exact aA D.i (by rw[aF (by omega)];omega)|omega|(simp;done)|exact qz
 have hi3:i=((l.length+3) / 4):=by simp at c21;omega
 refine xt (sq (rT [2] (s2 (rt (eF _ [] [7] rfl (fB rfl rfl rfl ?_ (aA D.sl ?_) trivial) rfl rfl)))))
 · exact aP _
 rw[xr hin,hi3]
theorem zf (l:List UInt8) (n:Int) (hl:l.length≤140737488355328):Sp 125 2 [tD 0 (.s l),tI 1 n] [tD 0 (.s (zZ l n))]:=by
 refine sb Tryz.func125 rfl (sq (rT [0,1] (s1 (sq (rT [1,5] (s1 (xp (aBa l hl) (ai rfl ?_))))))))
 refine s1 (sq (rT [5,6] (s3 (xp (na ((dY l).length:Nat) n) (ai (by rw[aP];rfl) ?_)))))
 refine s1 (sq (sq (rT [5,6,22] (s4 (y3 (ai pk (cd rfl (fun c22=> ?_) fun c22=> ?_)))))))
 · have hn:dY l=[]∨(cW (dY l).length n)=[]:=by simpa[bF,dE] using c22
   refine sq (rT [4] (s1 (rt (bQ rfl (aA D.s ?_)))))
   exact(ma hn).symm
 have hn: ¬(dY l=[]∨(cW (dY l).length n)=[]):=by simpa[bF,dE] using c22
 refine sk (sq (rT [5,6,7] (xp aA9 (ai rfl ?_))))
 refine s1 (sq (sq (rT [5,6,7,8] (s1 (bk (SW.loopW (n:=(cW (dY l).length n).length) (fun m s=> ∃i:Nat,m=(cW (dY l).length n).length - i∧i≤(cW (dY l).length n).length∧s=[tD 5 (.sl (bF (dY l))),tD 6 (.sl (dE (cW (dY l).length n))),tD 7 (.s (yM (dY l) [0,0,0,0] ((cW (dY l).length n).take i))),tI 8 (i:Nat)]) ?_ ?_))))))
 · refine wq (σ':=[tD 5 (.sl (bF (dY l))),tD 6 (.sl (dE (cW (dY l).length n))),tD 7 (.s (yM (dY l) [0,0,0,0] ((cW (dY l).length n).take 0))),tI 8 (0:Nat)]) [] [] (⟨0,rfl,aX5 _,rfl⟩) ?_
   repeat' apply ai
   all_goals first|exact qx|rfl|exact qz
 rintro n s ⟨i,rfl,hi,rfl⟩
 refine sq (sq (rT [5,6,7,8,27] (s4 (cd rfl (fun c27=> ?_) fun c27=> ?_))))
 · have hi2:i< (cW (dY l).length n).length:=by simp[cM] at c27;omega
   have hml:=lx (dY l).length n
   have hj:=aV0 (t:=l) (n:=n) hi2
   have hio:=gZ (l:=(cW (dY l).length n)) (i:=i) hi2
   have hv:=aR0 (l:=dY l) hj.1 hj.2.1
   refine sk (sq (bk (rT [5,6,7,8] (s4 (ai (by rw[aXy,hio];exact⟨⟨by omega,by rw[cM];omega⟩,rfl⟩) (ai (by rw[aXy,hio];exact⟨aX0 rfl,rfl⟩) (ai (by rw[aXy,hio];exact ixS hj.1 hj.2.1) (ai (by rw[aXy,hio];exact ldS hj.1 hj.2.1) (xp (nb (yM (dY l) [0,0,0,0] ((cW (dY l).length n).take i)) ((dY l).getD ((cW (dY l).length n).getD i 0).toNat []) (lz rfl) hj.2.2) (ai (by rw[aXy,hio];exact(aA (fun z=>fA 0 [Dv (.s (yM (dY l) [0,0,0,0] ((cW (dY l).length n).take i))),Dv (.s z)]) hv).symm) ?_))))))))))
   refine s1 (rT [5,6,7,8] (s3 ?_))
   have hgt:=aJb (bl:=dY l) hi2 (x:=[0,0,0,0])
   refine wq [] [] (⟨(cW (dY l).length n).length - (i+1),by omega,i+1,rfl,by omega,rfl⟩) ?_
   repeat' apply ai
   all_goals first|exact qx|(rw[hgt];done)|exact aA D.i (by rw[aF (by omega)];omega)|omega|(simp;done)|exact qz
 have hi3:i=(cW (dY l).length n).length:=by simp[cM] at c27;omega
 refine xt (sq (rT [4] (s2 (rt (bQ rfl (aA D.s ?_))))))
 rw[mb hn,hi3,aYe]
theorem uD (a b:Int):Sp 124 2 [tI 0 a,tI 1 b] [tI 0 (jC a b)]:=by
 refine sb Tryz.func124 rfl (sq (rT [0,1] (s1 (sq (bk (sq (rT [0,1,5] (s1 (xp (dX _) (ai rfl ?_))))))))))
 refine s2 (y1 (xc (fun h=>(dX _)) (ai rfl (ai rk ?_))))
 refine y1 (ai pk (s1 (y3 (ai pk (s1 (cd rfl (fun c5=> ?_) fun c5=> ?_))))))
 · refine sq (rT [4] (s1 (rt (bQ rfl ?_))))
   simp only[jC,wrap64,eR,iQ,gb] at*
   grind
 refine sq (rT [0,19] (s4 (cd rfl (fun c19=> ?_) fun c19=> ?_)))
 · refine sq (rT [4] (s3 (rt (bQ rfl ?_))))
   simp only[jC,wrap64,eR,iQ,gb] at*
   grind
 refine sk (sq (rT [4] (s3 (rt (bQ rfl ?_)))))
 simp only[jC,wrap64,eR,iQ,gb] at*
 grind
theorem gK (k:aK) (hl:k.log.length≤140737488355328):Sp 27 1 [tV 0 k.V] [tV 0 ((bS k).V)]:=by
 refine sb Tryz.func27 rfl (sq (rT [1,2] (s2 (sq (sq (rT [1,2,7] (s1 (xp (lI k hl) (ai rfl ?_)))))))))
 refine s1 (cd rfl (fun c7=> ?_) fun c7=> ?_)
 · have hr:bS k= .zero:=aD9 (by simpa using c7)
   refine sq (rT [2] (s2 (rt (eF _ [] [] rfl ?_ rfl rfl))))
   rw[hr]
   refine qs ?_
   repeat' first|exact qx|apply ai
   all_goals rfl
 have hok:aW k=true:=by simpa using c7
 have hr:bS k=_:=kQ hok
 have hlg:=(eA hok).2.1
 refine sk (sq (rT [2,3] (s5 (xp (rP k.id k.log (by omega)) (ai rfl ?_)))))
 refine s6 (sq (rT [2] (s2 (rt (bJ rfl rfl ?_)))))
 rw[hr]
 rfl
theorem qm (k:aK) (f n mix:Int) (hl:k.log.length≤140737488355328):Sp 56 4 [tV 0 k.V,tI 1 f,tI 2 n,tI 3 mix] [tV 0 (.tup [.agg [.d (.i ((eT k f n mix).1).kind),.d (.i ((eT k f n mix).1).src),.d (.i ((eT k f n mix).1).dst),.d (.i ((eT k f n mix).1).frm),.d (.i ((eT k f n mix).1).num),.d (.i ((eT k f n mix).1).to),.d (.i ((eT k f n mix).1).til),.d (.i ((eT k f n mix).1).size),.d (.i ((eT k f n mix).1).mix),.d (.s ((eT k f n mix).1).data)],.c (.d (.b (eT k f n mix).2))])]:=by
 refine sb Tryz.func56 rfl (sq (rT [1,2,3,4,8] (s3 (sq (sq (rT [1,2,3,4,8,21] (s1 (xp (iK k hl) (ai rfl ?_)))))))))
 refine s2 (y3 (ai pk (cd rfl (fun c21=> ?_) fun c21=> ?_)))
 · have hn:eT k f n mix=(.zero,false):=mc (by
    intro h9
    simp only[aX3] at h9
    rw[h9.1.1.1,h9.1.1.2] at c21
    cases c21)
   refine sq (rT [8,9] (s3 (rt ?_)))
   have hr:=hn
   refine bJ rfl rfl ?_
   rw[hr]
   rfl
 have hok:aW k=true∧k.up=true:=by
  revert c21
  cases aW k<;>cases k.up<;>simp
 obtain⟨hok,hup⟩:=hok
 have hlg:=(eA hok).2.1
 have h6:=fD (gF hok)
 refine sk (sq (rT [1,2,3,4,8,10] (s1 (xp (gW k (by omega)) (ai rfl ?_)))))
 refine s6 (sq (rT [3,4,8,10,12] (s4 (xp (gG (bA k).1.held f n (by have:=h6.1;omega)) (ai rfl ?_)))))
 refine s1 (sq (sq (rT [3,4,8,10,12,39] (s3 (y1 (xc (fun h=>(dR _ _ _)) (ai rfl (ai rk ?_))))))))
 refine y1 (ai pk (cd rfl (fun c39=> ?_) fun c39=> ?_))
 · have hn:eT k f n mix=(.zero,false):=mc (by
    intro h9
    simp only[aX3,aD] at h9
    rw[h9.1.2,decide_eq_false (show ¬bD (bA k).1.held f n<0 by omega)] at c39
    cases c39)
   refine sq (rT [8,9] (s3 (rt ?_)))
   have hr:=hn
   refine bJ rfl rfl ?_
   rw[hr]
   rfl
 have hpm:0≤bD (bA k).1.held f n∧iQ mix 0 999=true:=by
  by_cases h8:bD (bA k).1.held f n<0
  · rw[decide_eq_true h8] at c39;cases c39
  · refine⟨by omega,?_⟩
    rw[decide_eq_false h8] at c39
    simpa using c39
 obtain⟨hp,hmx⟩:=hpm
 have hy:=aAp hok hup hmx hp
 obtain⟨j,hj,hjl,hjt⟩:=sG hok hp
 have hg:=aX (l:=(bA k).1.held) hjl
 rw[hj,aXy] at hy
 refine sk (sq (rT [3,4,8,13] (s3 (ai (by rw[hj,aXy,hg];exact⟨⟨by omega,by rw[aH];omega⟩,rfl⟩) (ai (by rw[hj,aXy,hg];exact⟨aX0 rfl,rfl⟩) (s2 (sq (wa [tP 4 4,tP 8 8,tP 13 13,tI 3 mix,oB 4 31 [.d (.i (k).id),.d (.b (k).up),.d (.s (k).log),.d (.i (k).forced),.d (.sl (aZ (k).halves))],oB 8 63 [.d (.i 0),.d (.i 0),.d (.i 0),.d (.i 0),.d (.i 0),.d (.i 0),.d (.i 0),.d (.i 0),.d (.i 0),.d (.s [])],oB 13 52 [.d (.i (((bA k).1.held.getD j .zero)).frm),.d (.i (((bA k).1.held.getD j .zero)).num),.d (.i (((bA k).1.held.getD j .zero)).to),.d (.i (((bA k).1.held.getD j .zero)).til),.d (.s (((bA k).1.held.getD j .zero)).text)]] [] [] ?_ ?_))))))))
 · repeat' apply ai
   all_goals first|exact qx|(rw[hj,aXy,hg];rfl)|exact qz
 refine rD [8,9] (s6 (xp (uD _ _) (ai rfl ?_)))
 refine s9 (s6 (xp (zf ((bA k).1.held.getD j .zero).text mix hjt) (ai rfl ?_)))
 refine s3 (ai (by kernel_rfl) (rt ?_))
 have hr:=hy
 refine bJ rfl rfl ?_
 rw[hr]
 rfl
theorem nc (rec:List UInt8):Sp 146 1 [tD 0 (.s rec)] [tB 0 (iY rec)]:=by
 refine sb Tryz.func146 rfl (sq (rT [0] (s1 (sq (rT [2] (s2 (xp (gQ _ _ _) (ai rfl ?_))))))))
 refine s1 (rt (bQ rfl ?_))
 rfl
theorem bp (rec:List UInt8):Sp 143 1 [tD 0 (.s rec)] [tB 0 (iY rec)]:=by
 refine sb Tryz.func143 rfl (sq (rT [0] (s1 (sq (rT [2] (s2 (xp (dR _ _ _) (ai rfl ?_))))))))
 refine s1 (rt (bQ rfl ?_))
 rfl
theorem pJ (rec:List UInt8) (hrec:rec.length≤900000):Sp 144 1 [tD 0 (.s rec)] [tD 0 (.s (cP rec))]:=by
 have hdl:=bW (k:=5) (n:=rec.length) (by simp;omega)
 refine sb Tryz.func144 rfl (sq (rT [0] (s1 (sq (rT [2] (s2 (xp (uR rec.length (by omega)) (ai rfl ?_))))))))
 refine ai (by show _≤9223372036854775807;(try simp only[aXz,aX1,aX2]);omega) (s1 (ai (by show _≤9223372036854775807;(try simp only[aXz,aX1,aX2]);omega) (ai (by show _≤9223372036854775807;(try simp only[aXz,aX1,aX2]);omega) (s1 (rt (bQ rfl ?_))))))
 rfl
theorem xQ (rec:List UInt8) (hrec:rec.length≤900000):Sp 147 1 [tD 0 (.s rec)] [tD 0 (.s (cP rec))]:=by
 have hdl:=bW (k:=5) (n:=rec.length) (by simp;omega)
 refine sb Tryz.func147 rfl (sq (rT [0] (s1 (sq (rT [2] (s2 (xp (dn rec.length (by omega)) (ai rfl ?_))))))))
 refine ai (by show _≤9223372036854775807;(try simp only[aXz,aX1,aX2]);omega) (s1 (ai (by show _≤9223372036854775807;(try simp only[aXz,aX1,aX2]);omega) (ai (by show _≤9223372036854775807;(try simp only[aXz,aX1,aX2]);omega) (s1 (rt (bQ rfl ?_))))))
 rfl
theorem bq (l:List UInt8) (f:Int) (rec:List UInt8) (hl:l.length≤140737488355328) (hrec:rec.length≤900000):Sp 164 2 [tV 0 (.e (.agg [.d (.s l),.d (.i f)])),tD 1 (.s rec)] [tV 0 (.tup [.agg [.d (.s (bC l f rec).1.1),.d (.i (bC l f rec).1.2)],.c (.d (.b (bC l f rec).2))])]:=by
 refine sb Tryz.func164 rfl (sq (rT [1,2,4] (s3 (sq (sq (rT [1,2,4,8] (s1 (xp (oI l f hl) (ai rfl ?_)))))))))
 refine s1 (cd rfl (fun c8=> ?_) fun c8=> ?_)
 · have hr:bC l f rec=(([],0),false):=md (by simpa using c8)
   refine sq (rT [4,5] (s3 (rt (bJ rfl rfl ?_))))
   rw[hr]
   rfl
 have hok:dF l f=true:=by simpa using c8
 have hl2:=(gV hok).1
 have hst:=oE hrec
 refine sk (sq (sq (rD [1,2,4,22] (s1 (xp (nc rec) (ai rfl ?_))))))
 refine s2 (y4 (xc (fun h=>(xQ rec hrec)) (ai rfl (ai rk ?_))))
 refine y3 (ai pk (ai (by kernel_rfl) (cd rfl (fun c22=> ?_) fun c22=> ?_)))
 · have hr:bC l f rec=((l,f),false):=wM hok (fun h9=>by have:=(mf c22 hl2 (by omega)).1 h9;cases this)
   refine sq (rT [4,5] (s3 (rt (bJ rfl rfl ?_))))
   rw[hr]
   rfl
 have hr:bC l f rec=((l++cP rec,f),true):=rI hok ((mf c22 hl2 (by omega)).2 rfl)
 refine sk (sq (rD [4,5] (s3 (xp (xQ rec hrec) (ai rfl ?_)))))
 refine ai (by show _≤9223372036854775807;(try simp only[aXz,aX1,aX2]);omega) (s5 (ai (by kernel_rfl) (rt (bJ rfl rfl ?_))))
 rw[hr]
 rfl
theorem pS (l:List UInt8) (f:Int) (rec:List UInt8) (hl:l.length≤140737488355328) (hrec:rec.length≤900000):Sp 150 2 [tV 0 (.e (.agg [.d (.s l),.d (.i f)])),tD 1 (.s rec)] [tV 0 (.tup [.agg [.d (.s (bC l f rec).1.1),.d (.i (bC l f rec).1.2)],.c (.d (.b (bC l f rec).2))])]:=by
 refine sb Tryz.func150 rfl (sq (rT [1,2,4] (s3 (sq (sq (rT [1,2,4,8] (s1 (xp (oJ l f hl) (ai rfl ?_)))))))))
 refine s1 (cd rfl (fun c8=> ?_) fun c8=> ?_)
 · have hr:bC l f rec=(([],0),false):=md (by simpa using c8)
   refine sq (rT [4,5] (s3 (rt (bJ rfl rfl ?_))))
   rw[hr]
   rfl
 have hok:dF l f=true:=by simpa using c8
 have hl2:=(gV hok).1
 have hst:=oE hrec
 refine sk (sq (sq (rD [1,2,4,22] (s1 (xp (bp rec) (ai rfl ?_))))))
 refine s2 (y4 (xc (fun h=>(pJ rec hrec)) (ai rfl (ai rk ?_))))
 refine y3 (ai pk (ai (by kernel_rfl) (cd rfl (fun c22=> ?_) fun c22=> ?_)))
 · have hr:bC l f rec=((l,f),false):=wM hok (fun h9=>by have:=(mf c22 hl2 (by omega)).1 h9;cases this)
   refine sq (rT [4,5] (s3 (rt (bJ rfl rfl ?_))))
   rw[hr]
   rfl
 have hr:bC l f rec=((l++cP rec,f),true):=rI hok ((mf c22 hl2 (by omega)).2 rfl)
 refine sk (sq (rD [4,5] (s3 (xp (pJ rec hrec) (ai rfl ?_)))))
 refine ai (by show _≤9223372036854775807;(try simp only[aXz,aX1,aX2]);omega) (s5 (ai (by kernel_rfl) (rt (bJ rfl rfl ?_))))
 rw[hr]
 rfl
theorem yO (l:List UInt8) (f:Int) (recs:List (List UInt8)) (hl:l.length≤140737488355328) (hn:recs.length≤900000) (hrec: ∀r∈recs,r.length≤900000):Sp 84 2 [tV 0 (.e (.agg [.d (.s l),.d (.i f)])),tD 1 (.sl (bF recs))] [tV 0 (.tup [.agg [.d (.s (eK l f recs).1.1),.d (.i (eK l f recs).1.2)],.c (.d (.b (eK l f recs).2))])]:=by
 refine sb Tryz.func84 rfl (sq (rT [1,2,4] (s3 (sq (sq (rT [1,2,4,10] (s1 (xp (oJ l f hl) (ai rfl ?_)))))))))
 refine s1 (cd rfl (fun c10=> ?_) fun c10=> ?_)
 · have hr:eK l f recs=(([],0),false):=gh (by simpa using c10)
   refine sq (rT [4,5] (s3 (rt (bJ rfl rfl ?_))))
   rw[hr]
   rfl
 have hok:dF l f=true:=by simpa using c10
 refine sk (sq (rT [1,2,4,6] (s1 (sq (sq (rT [1,2,4,6,7] (s1 (bk (SW.loopW (n:=recs.length) (fun m q=> ∃i:Nat,m=recs.length - i∧i≤recs.length∧(∀k,k<i→iY (recs.getD k [])=true)∧q=[tP 2 2,tP 4 4,tD 1 (.sl (bF recs)),tD 6 (.s (dG (recs.take (i)))),tI 7 (i:Nat),oB 2 28 [.d (.s l),.d (.i f)],oB 4 28 [.d (.s []),.d (.i 0)]]) ?_ ?_)))))))))
 · refine wq (σ':=[tP 2 2,tP 4 4,tD 1 (.sl (bF recs)),tD 6 (.s (dG (recs.take (0)))),tI 7 (0:Nat),oB 2 28 [.d (.s l),.d (.i f)],oB 4 28 [.d (.s []),.d (.i 0)]]) [] [] (⟨0,rfl,aX5 _,fun k h=>absurd h (by omega),rfl⟩) ?_
   repeat' apply ai
   all_goals first|exact qx|rfl|exact qz
 rintro n s ⟨i,rfl,hi,hk,rfl⟩
 refine sq (sq (rT [1,2,4,6,7,15] (s4 (cd rfl (fun c15=> ?_) fun c15=> ?_))))
 · have hi2:i<recs.length:=by simpa[aP] using c15
   have hg:=fZ (l:=recs) hi2
   have hmem: (recs.getD i [])∈recs:=dQ hi2
   have hrq:=hrec _ hmem
   have hpt:=me hi2
   have hple:=xx recs i
   have hps:=xI hrec
   have hsl:=oE hrq
   refine sk (sq (bk (sq (sq (rT [1,2,4,6,7,23] (s2 (ai (by rw[aXy,hg];exact⟨⟨by omega,by rw[aP];omega⟩,rfl⟩) (ai (by rw[aXy,hg];exact⟨aX0 rfl,rfl⟩) (xp (bp (recs.getD i [])) (ai (by rw[aXy,hg];rfl) ?_))))))))))
   refine s1 (cd rfl (fun c23=> ?_) fun c23=> ?_)
   · have hs:iY (recs.getD i [])=false:=by
      simpa using c23
     have hr:eK l f recs=((l,f),false):=uN hok (fun h9=>aGu hi2 hs h9.1)
     refine sq (rT [4,5] (s3 (rt (bJ rfl rfl ?_))))
     rw[hr]
     rfl
   refine sk (rT [1,2,4,6,7] (s3 (ai (by rw[aXy,hg];exact⟨⟨by omega,by rw[aP];omega⟩,rfl⟩) (ai (by rw[aXy,hg];exact⟨aX0 rfl,rfl⟩) (xp (pJ (recs.getD i []) hrq) (ai (by rw[aXy,hg];rfl) ?_))))))
   refine ai (by show _≤9223372036854775807;(try simp only[aXz,aX1,aX2]);omega) (s1 (rT [1,2,4,6,7] (s3 ?_)))
   have hs:iY (recs.getD i [])=true:=by
    simpa using c23
   refine wq [] [] (⟨recs.length - (i+1),by omega,i+1,rfl,by omega,fun k h=>by by_cases e:k=i;exact e▸hs;exact hk k (by omega),rfl⟩) ?_
   repeat' apply ai
   all_goals first|exact qx|exact aA D.i (by rw[aF (by omega)];omega)|(rw[hpt];done)|(rw[hpt,aXy,hg];rfl)|omega|exact qz
 have hi3:i=recs.length:=by simp[aP] at c15;omega
 subst hi3
 have hall:=aCr hk
 rw[aYe]
 refine xt (sq (sq (rT [2,4,6,34] (s3 (cd rfl (fun c34=> ?_) fun c34=> ?_)))))
 · have hr:eK l f recs=((l,f),false):=uN hok (fun h9=>by have h8:=of_decide_eq_true c34;omega)
   refine sq (rT [4,5] (s3 (rt (bJ rfl rfl ?_))))
   rw[hr]
   rfl
 have hr:=xH hok ⟨hall,by have h8:=of_decide_eq_false c34;omega⟩
 refine sk (sq (rT [4,5] (s6 (rt (bJ rfl rfl ?_)))))
 rw[hr]
 rfl
theorem qn (l:List UInt8) (f:Int) (recs:List (List UInt8)) (hl:l.length≤140737488355328) (hn:recs.length≤900000) (hrec: ∀r∈recs,r.length≤900000):Sp 86 2 [tV 0 (.e (.agg [.d (.s l),.d (.i f)])),tD 1 (.sl (bF recs))] [tV 0 (.tup [.agg [.d (.s (eK l f recs).1.1),.d (.i (eK l f recs).1.2)],.c (.d (.b (eK l f recs).2))])]:=by
 refine sb Tryz.func86 rfl (sq (rT [1,2,4] (s3 (sq (sq (rT [1,2,4,11] (s1 (xp (oI l f hl) (ai rfl ?_)))))))))
 refine s1 (cd rfl (fun c11=> ?_) fun c11=> ?_)
 · have hr:eK l f recs=(([],0),false):=gh (by simpa using c11)
   refine sq (rT [4,5] (s3 (rt (bJ rfl rfl ?_))))
   rw[hr]
   rfl
 have hok:dF l f=true:=by simpa using c11
 refine sk (sq (rT [1,2,4,6] (s1 (sq (sq (rT [2,4,6,13,14,15] (s3 (bk (SW.loopW (n:=recs.length) (fun m q=> ∃i:Nat,m=recs.length - i∧i≤recs.length∧(∀k,k<i→iY (recs.getD k [])=true)∧q=[tP 2 2,tP 4 4,tD 6 (.s (dG (recs.take (i)))),tD 13 (.sl (bF recs)),tI 14 (recs.length:Nat),tI 15 (i:Nat),oB 2 28 [.d (.s l),.d (.i f)],oB 4 28 [.d (.s []),.d (.i 0)]]) ?_ ?_)))))))))
 · refine wq (σ':=[tP 2 2,tP 4 4,tD 6 (.s (dG (recs.take (0)))),tD 13 (.sl (bF recs)),tI 14 (recs.length:Nat),tI 15 (0:Nat),oB 2 28 [.d (.s l),.d (.i f)],oB 4 28 [.d (.s []),.d (.i 0)]]) [] [] (⟨0,rfl,aX5 _,fun k h=>absurd h (by omega),rfl⟩) ?_
   repeat' apply ai
   all_goals first|exact qx|rfl|(rw[aP];done)|exact qz
 rintro n s ⟨i,rfl,hi,hk,rfl⟩
 refine sq (rT [2,4,6,13,14,15,16] (s1 (sq (cd rfl (fun c16=> ?_) fun c16=> ?_))))
 · have hi2:i<recs.length:=by simp at c16;omega
   have hg:=fZ (l:=recs) hi2
   have hmem: (recs.getD i [])∈recs:=dQ hi2
   have hrq:=hrec _ hmem
   have hpt:=me hi2
   have hple:=xx recs i
   have hps:=xI hrec
   have hsl:=oE hrq
   refine sk (sq (bk (sq (rT [2,4,6,8,13,14,15] (ai (by rw[aXy,hg];exact⟨⟨by omega,by rw[aP];omega⟩,rfl⟩) (ai (by rw[aXy,hg];exact⟨aX0 rfl,rfl⟩) (s1 (sq (sq (wa [tP 2 2,tP 4 4,tD 6 (.s (dG (recs.take i))),tD 8 (.s (recs.getD i [])),tD 13 (.sl (bF recs)),tI 14 (recs.length:Nat),tI 15 (i:Nat),oB 2 28 [.d (.s l),.d (.i f)],oB 4 28 [.d (.s []),.d (.i 0)]] [] [] ?_ ?_))))))))))
   · repeat' apply ai
     all_goals first|exact qx|(rw[aXy,hg];rfl)|exact qz
   refine rT [2,4,6,8,13,14,15,26] (s1 (xp (nc (recs.getD i [])) (ai rfl ?_)))
   refine s2 (y3 (ai pk (cd rfl (fun c26=> ?_) fun c26=> ?_)))
   · have hr:eK l f recs=((l,f),false):=uN hok (fun h9=>by
      rcases aMy c26 with h8|h8
      · exact aGu hi2 h8 h9.1
      · omega)
     refine sq (rT [4,5] (s3 (rt (bJ rfl rfl ?_))))
     rw[hr]
     rfl
   refine sk (rT [2,4,6,13,14,15] (s2 (xp (xQ (recs.getD i []) hrq) (ai rfl ?_))))
   refine ai (by show _≤9223372036854775807;(try simp only[aXz,aX1,aX2]);omega) (s1 (rT [2,4,6,13,14,15] (s2 ?_)))
   have hs:iY (recs.getD i [])=true:=(aPm c26).1
   refine wq [] [] (⟨recs.length - (i+1),by omega,i+1,rfl,by omega,fun k h=>by by_cases e:k=i;exact e▸hs;exact hk k (by omega),rfl⟩) ?_
   repeat' apply ai
   all_goals first|exact qx|exact aA D.i (by rw[aF (by omega)];omega)|(rw[hpt];done)|(rw[hpt,aXy,hg];rfl)|omega|exact qz
 have hi3:i=recs.length:=by simp[aP] at c16;omega
 subst hi3
 have hall:=aCr hk
 rw[aYe]
 refine xt (sq (sq (rT [2,4,6,35] (s3 (cd rfl (fun c35=> ?_) fun c35=> ?_)))))
 · have hr:eK l f recs=((l,f),false):=uN hok (fun h9=>by have h8:=of_decide_eq_true c35;omega)
   refine sq (rT [4,5] (s3 (rt (bJ rfl rfl ?_))))
   rw[hr]
   rfl
 have hr:=xH hok ⟨hall,by have h8:=of_decide_eq_false c35;omega⟩
 refine sk (sq (rT [4,5] (s6 (rt (bJ rfl rfl ?_)))))
 rw[hr]
 rfl
theorem br (a b c:Int) (h: (0≤a∧a≤1000000)∧(0≤b∧b≤1000000)∧(0≤c∧c≤1000000)):Sp 95 3 [tI 0 a,tI 1 b,tI 2 c] [tD 0 (.s (kH a.toNat++[32]++kH b.toNat++[32]++kH c.toNat))]:=by
 have q1:=bW (k:=6) (n:=a.toNat) (by simp;omega)
 have q2:=bW (k:=6) (n:=b.toNat) (by simp;omega)
 have q3:=bW (k:=6) (n:=c.toNat) (by simp;omega)
 refine sb Tryz.func95 rfl (sq (rT [0,1,2] (s1 (sq (rT [6] (s1 (xp (kW a h.1) (ai rfl ?_))))))))
 refine ai (by show _≤9223372036854775807;(try simp only[aXz,aX1,aX2]);omega) (s1 (xp (kW b h.2.1) (ai rfl ?_)))
 refine ai (by show _≤9223372036854775807;(try simp only[aXz,aX1,aX2]);omega) (ai (by show _≤9223372036854775807;(try simp only[aXz,aX1,aX2]);omega) (s1 (xp (kW c h.2.2) (ai rfl ?_))))
 refine ai (by show _≤9223372036854775807;(try simp only[aXz,aX1,aX2]);omega) (s1 (rt (bQ rfl ?_)))
 rfl
theorem qo (w:List UInt8) (a b c:Int) (h: (0≤a∧a≤1000000)∧(0≤b∧b≤1000000)∧(0≤c∧c≤1000000)) (hw:w.length≤900000):Sp 97 4 [tD 0 (.s w),tI 1 a,tI 2 b,tI 3 c] [tD 0 (.s (lB w ⟨a,b,c⟩))]:=by
 have q1:=bW (k:=6) (n:=a.toNat) (by simp;omega)
 have q2:=bW (k:=6) (n:=b.toNat) (by simp;omega)
 have q3:=bW (k:=6) (n:=c.toNat) (by simp;omega)
 refine sb Tryz.func97 rfl (sq (rT [0,1,2,3] (s1 (sq (rT [8] (s1 (ai (by show _≤9223372036854775807;(try simp only[aXz,aX1,aX2]);omega) (s1 (xp (tC a h.1) (ai rfl ?_))))))))))
 refine ai (by show _≤9223372036854775807;(try simp only[aXz,aX1,aX2]);omega) (ai (by show _≤9223372036854775807;(try simp only[aXz,aX1,aX2]);omega) (s1 (xp (tC b h.2.1) (ai rfl ?_))))
 refine ai (by show _≤9223372036854775807;(try simp only[aXz,aX1,aX2]);omega) (ai (by show _≤9223372036854775807;(try simp only[aXz,aX1,aX2]);omega) (s1 (xp (tC c h.2.2) (ai rfl ?_))))
 refine ai (by show _≤9223372036854775807;(try simp only[aXz,aX1,aX2]);omega) (s1 (rt (bQ rfl ?_)))
 rfl
theorem jg (k:aK) (hb:k.halves.length≤100000∧ ∀x∈k.halves,x.got.length≤100000):Sp 72 1 [tV 0 k.V] [tV 0 (.e (.agg [.d (.i k.id),.d (.b k.up),.d (.s k.log),.d (.i k.forced),.own 0 k.halves.length])),oR 0 138 6 (aZ k.halves)]:=by
 refine sb Tryz.func72 rfl (sq (rT [1,2] (s2 (sq (rT [1,2,3] (s2 (sq (sq (rT [1,2,3,4] (s1 (bk (SW.loopW (n:=k.halves.length) (fun m q=> ∃i:Nat,m=k.halves.length - i∧i≤k.halves.length∧q=[tP 1 1,tP 2 2,tO 3 6 (k.halves.take (i)).length,tI 4 (i:Nat),oB 1 31 [.d (.i (k).id),.d (.b (k).up),.d (.s (k).log),.d (.i (k).forced),.d (.sl (aZ (k).halves))],oB 2 31 [.d (.i 0),.d (.b false),.d (.s []),.d (.i 0),.nil],oR 6 138 6 (aZ (k.halves.take (i)))]) ?_ ?_))))))))))))
 · refine wq (σ':=[tP 1 1,tP 2 2,tO 3 6 (k.halves.take (0)).length,tI 4 (0:Nat),oB 1 31 [.d (.i (k).id),.d (.b (k).up),.d (.s (k).log),.d (.i (k).forced),.d (.sl (aZ (k).halves))],oB 2 31 [.d (.i 0),.d (.b false),.d (.s []),.d (.i 0),.nil],oR 6 138 6 (aZ (k.halves.take (0)))]) [] [] (⟨0,rfl,aX5 _,rfl⟩) ?_
   repeat' apply ai
   all_goals first|exact qx|rfl|exact qz
 rintro n s ⟨i,rfl,hi,rfl⟩
 refine sq (sq (rT [1,2,3,4,11] (s5 (cd rfl (fun c11=> ?_) fun c11=> ?_))))
 · have hi2:i<k.halves.length:=by simpa[aJ] using c11
   have hg:=gJ (l:=k.halves) hi2
   have hmem:k.halves.getD i .zero∈k.halves:=dQ hi2
   refine sk (sq (bk (sq (rT [1,2,3,4,5] (s3 (ai (by rw[aXy,hg];exact⟨⟨by omega,by rw[aJ];omega⟩,rfl⟩) (ai (by rw[aXy,hg];exact⟨aX0 rfl,rfl⟩) (s2 (sq (wa [tP 1 1,tP 2 2,tO 3 6 (k.halves.take i).length,tI 4 (i:Nat),tP 5 5,oB 1 31 [.d (.i (k).id),.d (.b (k).up),.d (.s (k).log),.d (.i (k).forced),.d (.sl (aZ (k).halves))],oB 2 31 [.d (.i 0),.d (.b false),.d (.s []),.d (.i 0),.nil],oB 5 138 [.d (.i (k.halves.getD i .zero).frm),.d (.i (k.halves.getD i .zero).num),.d (.i (k.halves.getD i .zero).to),.d (.i (k.halves.getD i .zero).til),.d (.i (k.halves.getD i .zero).size),.d (.sl (cN (k.halves.getD i .zero).got))],oR 6 138 6 (aZ (k.halves.take i))] [] [] ?_ ?_))))))))))
   · repeat' apply ai
     all_goals first|exact qx|(rw[aXy,hg];rfl)|exact qz
   refine rT [1,2,3,4,5] (ai (by simp) (s2 (ai (by refine⟨trivial,rfl,?_,?_⟩<;>first|exact rC _|(simp only[bL,aX2,Nat.zero_add];have:=hb.2 _ hmem;show _*24≤_;omega)) (s2 (wa [tP 1 1,tP 2 2,tO 3 6 (k.halves.take i).length,tI 4 (i:Nat),tP 5 5,oB 1 31 [.d (.i (k).id),.d (.b (k).up),.d (.s (k).log),.d (.i (k).forced),.d (.sl (aZ (k).halves))],oB 2 31 [.d (.i 0),.d (.b false),.d (.s []),.d (.i 0),.nil],oB 5 138 [.d (.i (k.halves.getD i .zero).frm),.d (.i (k.halves.getD i .zero).num),.d (.i (k.halves.getD i .zero).to),.d (.i (k.halves.getD i .zero).til),.d (.i (k.halves.getD i .zero).size),.d (.sl (cN (k.halves.getD i .zero).got))],oR 6 138 6 (aZ (k.halves.take i))] [] [19] ?_ ?_)))))
   · repeat' apply ai
     all_goals first|exact qx|(simp[bL];done)|rfl|exact qz
   refine rT [1,2,3,4] (s2 (ai (by exact⟨by simp,aX0 rfl⟩) (ai (by exact⟨rfl,aJ _,by intro r hr;rw[List.mem_singleton.1 hr];rfl,by simp only[aXz,aX1,aX2,aJ,aX4];show _*64≤_;omega⟩) (s1 (rT [1,2,3,4] (s3 ?_))))))
   have hts:=eX (z:=dW.zero) hi2
   refine wq [] [] (⟨k.halves.length - (i+1),by omega,i+1,rfl,by omega,rfl⟩) ?_
   repeat' apply ai
   all_goals first|exact qx|exact aA D.i (by rw[aF (by omega)];omega)|(rw[hts,aXz];rfl)|(rw[hts];simp only[aZ,List.map_append,List.map_cons,List.map_nil];rfl)|(rw[aJ];done)|(simp[aJ];done)|(simp[aJ,aX4];omega)|exact qz
 have hi3:i=k.halves.length:=by simp[aJ] at c11;omega
 subst hi3
 refine xt (sq (rT [1,2] (s3 (sq (rT [2] (s2 (rt ?_)))))))
 rw[aYe]
 exact eF _ [(0,6)] [] rfl (eC rfl (aG rfl (aG rfl (aG rfl (aG rfl (bU rfl rfl rfl aN))))) (bZ rfl rfl trivial)) rfl rfl
theorem gH (k:aK) (hb:k.halves.length≤100000∧ ∀x∈k.halves,x.got.length≤100000):Ab.Spec Tryz.prog 72 1 [(.t 0,.v k.V)] [(.t 0,.v k.V)]:=
 Spec.told (rl:=[]) (bor:=[0]) (jg k hb) (eC rfl (aG rfl (aG rfl (aG rfl (aG rfl (aLv rfl rfl (aJ _) rfl aN))))) trivial) rfl rfl
theorem bs (k:bH) (hk:KB k):Sp 85 1 [tV 0 k.V] [tD 0 (.sl (bF (eL k)))]:=by
 refine sb Tryz.func85 rfl (sq (rT [1] (s2 (sq (rT [1,3] (s2 (sq (sq (rT [1,3,11] (s1 (xp (xM k hk.1 hk.2.1 hk.2.2) (ai rfl ?_))))))))))))
 refine s1 (cd rfl (fun c11=> ?_) fun c11=> ?_)
 · have hno: ¬dI k=true:=by simpa using c11
   refine sq (rT [2] (s2 (rt (eF _ [] [8] rfl (fB rfl rfl rfl ?_ (aA D.sl ?_) trivial) rfl rfl))))
   · rfl
   rw[cy hno];rfl
 have hok:dI k=true:=by simpa using c11
 have h6:=fD hok
 obtain⟨⟨_,ht,hn,_,_,_⟩,_⟩:=(cC k).1 hok
 have q1:=bW (k:=6) (n:=k.time.toNat) (by simp;omega)
 have q2:=bW (k:=6) (n:=k.next.toNat) (by simp;omega)
 have hnl:=ye k
 refine sk (SW.midW (fun q=>q=[tP 1 1,tO 3 8 (vQ k).length,oB 1 44 [.d (.i k.id),.d (.i k.time),.d (.i k.next),.d (.sl (aI k.held)),.d (.sl (aS k.marks)),.d (.sl (aI k.inbox))],oR 8 9 1 (bF (vQ k))]) ?_ ?_)
 · refine sq (rT [1,3,15] (s3 (cd rfl (fun c15=> ?_) fun c15=> ?_)))
   · have hq:=aCs (of_decide_eq_true c15)
     refine rT [1,3] (s3 (xp (kW k.time (by omega)) (ai rfl ?_)))
     refine ai (by show _≤9223372036854775807;(try simp only[aXz,aX1,aX2]);omega) (s1 (ai (by exact⟨rfl,rfl,by simp,by show(0+1)*16≤_;omega⟩) (s1 (wq [] [] (rfl) ?_))))
     repeat' apply ai
     all_goals first|exact qx|exact aA D.i (by rw[aF (by omega)];omega)|(rw[hq];done)|(rw[hq];rfl)|(rw[hq,aXz];rfl)|(rw[hq,aXz];done)|(rw[hq];simp[aP];done)|(rw[hq];exact fF _ _)|(rw[aP];done)|(simp[aP];done)|exact qz
   have hq:=aGv (of_decide_eq_false c15)
   refine sk (wq [] [] (rfl) ?_)
   repeat' apply ai
   all_goals first|exact qx|exact aA D.i (by rw[aF (by omega)];omega)|(rw[hq];done)|(rw[hq];rfl)|(rw[hq,aXz];rfl)|(rw[hq,aXz];done)|(rw[hq];simp[aP];done)|(rw[hq];exact fF _ _)|(rw[aP];done)|(simp[aP];done)|exact qz
 rintro s rfl
 refine SW.midW (fun q=>q=[tP 1 1,tO 3 8 (yN k).length,oB 1 44 [.d (.i k.id),.d (.i k.time),.d (.i k.next),.d (.sl (aI k.held)),.d (.sl (aS k.marks)),.d (.sl (aI k.inbox))],oR 8 9 1 (bF (yN k))]) ?_ ?_
 · refine sq (rT [1,3,25] (s3 (cd rfl (fun c25=> ?_) fun c25=> ?_)))
   · have hq:=aCt (of_decide_eq_true c25)
     have hnl2: (vQ k).length≤1:=by unfold vQ;split<;>simp
     refine rT [1,3] (s3 (xp (kW k.next (by omega)) (ai rfl ?_)))
     refine ai (by show _≤9223372036854775807;(try simp only[aXz,aX1,aX2]);omega) (s1 (ai (by refine⟨rfl,aP _,by simp,?_⟩;skip;show(_+1)*16≤_;omega) (s1 (wq [] [] (rfl) ?_))))
     repeat' apply ai
     all_goals first|exact qx|exact aA D.i (by rw[aF (by omega)];omega)|(rw[hq];done)|(rw[hq];rfl)|(rw[hq,aXz];rfl)|(rw[hq,aXz];done)|(rw[hq];simp[aP];done)|(rw[hq];exact fF _ _)|(rw[aP];done)|(simp[aP];done)|exact qz
   have hq:=aGw (of_decide_eq_false c25)
   refine sk (wq [] [] (rfl) ?_)
   repeat' apply ai
   all_goals first|exact qx|exact aA D.i (by rw[aF (by omega)];omega)|(rw[hq];done)|(rw[hq];rfl)|(rw[hq,aXz];rfl)|(rw[hq,aXz];done)|(rw[hq];simp[aP];done)|(rw[hq];exact fF _ _)|(rw[aP];done)|(simp[aP];done)|exact qz
 rintro s rfl
 refine sq (sq (rT [1,3,4] (s1 (bk (SW.loopW (n:=k.marks.length) (fun m q=> ∃i:Nat,m=k.marks.length - i∧i≤k.marks.length∧q=[tP 1 1,tO 3 8 (oY k (i)).length,tI 4 (i:Nat),oB 1 44 [.d (.i k.id),.d (.i k.time),.d (.i k.next),.d (.sl (aI k.held)),.d (.sl (aS k.marks)),.d (.sl (aI k.inbox))],oR 8 9 1 (bF (oY k (i)))]) ?_ ?_)))))
 · refine wq (σ':=[tP 1 1,tO 3 8 (oY k (0)).length,tI 4 (0:Nat),oB 1 44 [.d (.i k.id),.d (.i k.time),.d (.i k.next),.d (.sl (aI k.held)),.d (.sl (aS k.marks)),.d (.sl (aI k.inbox))],oR 8 9 1 (bF (oY k (0)))]) [] [] (⟨0,rfl,aX5 _,rfl⟩) ?_
   repeat' apply ai
   all_goals first|exact qx|rfl|(rw[xy];done)|(rw[aR];done)|(rw[aH];done)|exact qz
 rintro n s ⟨i,rfl,hi,rfl⟩
 refine sq (sq (rT [1,3,4,37] (s5 (cd rfl (fun c37=> ?_) fun c37=> ?_))))
 · have hi2:i<k.marks.length:=by simp[aR] at c37;omega
   have hg:=cA (l:=k.marks) hi2
   have hms:=yh hok hi2
   have hml:=yf k i
   have w1:=bW (k:=6) (n:=(k.marks.getD i .zero).frm.toNat) (by show _<10000000;omega)
   have w2:=bW (k:=6) (n:=(k.marks.getD i .zero).num.toNat) (by show _<10000000;omega)
   have w3:=bW (k:=6) (n:=(k.marks.getD i .zero).til.toNat) (by show _<10000000;omega)
   refine sk (sq (bk (sq (rT [1,3,4,5] (s3 (ai (by rw[aXy,hg];exact⟨⟨by omega,by rw[aR];omega⟩,rfl⟩) (ai (by rw[aXy,hg];exact⟨aX0 rfl,rfl⟩) (s2 (wa [tP 1 1,tO 3 8 (oY k i).length,tI 4 (i:Nat),tP 5 5,oB 1 44 [.d (.i k.id),.d (.i k.time),.d (.i k.next),.d (.sl (aI k.held)),.d (.sl (aS k.marks)),.d (.sl (aI k.inbox))],oB 5 162 [.d (.i ((k.marks.getD i .zero)).frm),.d (.i ((k.marks.getD i .zero)).num),.d (.i ((k.marks.getD i .zero)).til)],oR 8 9 1 (bF (oY k i))] [] [] ?_ ?_)))))))))
   · repeat' apply ai
     all_goals first|exact qx|(rw[aXy,hg];rfl)|exact qz
   refine rD [1,3,4] (s3 (xp (kW (k.marks.getD i .zero).frm (by omega)) (ai rfl ?_)))
   refine ai (by show _≤9223372036854775807;(try simp only[aXz,aX1,aX2]);omega) (ai (by show _≤9223372036854775807;(try simp only[aXz,aX1,aX2]);omega) (s2 (xp (kW (k.marks.getD i .zero).num (by omega)) (ai rfl ?_))))
   refine ai (by show _≤9223372036854775807;(try simp only[aXz,aX1,aX2]);omega) (ai (by show _≤9223372036854775807;(try simp only[aXz,aX1,aX2]);omega) (s2 (xp (kW (k.marks.getD i .zero).til (by omega)) (ai rfl ?_))))
   refine ai (by show _≤9223372036854775807;(try simp only[aXz,aX1,aX2]);omega) (s1 (ai (by refine⟨rfl,aP _,by simp,?_⟩;skip;show(_+1)*16≤_;omega) (s1 (ai (by kernel_rfl) (rT [1,3,4] (s3 ?_))))))
   have hq:=yb hi2
   refine wq [] [] (⟨k.marks.length - (i+1),by omega,i+1,rfl,by omega,rfl⟩) ?_
   repeat' apply ai
   all_goals first|exact qx|exact aA D.i (by rw[aF (by omega)];omega)|(rw[hq];done)|(rw[hq];rfl)|(rw[hq,aXz];rfl)|(rw[hq,aXz];done)|(rw[hq];simp[aP];done)|(rw[hq];exact fF _ _)|(rw[aP];done)|(simp[aP];done)|exact qz
 have hi3:i=k.marks.length:=by simp[aR] at c37;omega
 subst hi3
 clear hi
 refine xt (sq (sq (rT [1,3,6] (s1 (bk (SW.loopW (n:=k.held.length) (fun m q=> ∃i:Nat,m=k.held.length - i∧i≤k.held.length∧q=[tP 1 1,tO 3 8 (qI k (i)).length,tI 6 (i:Nat),oB 1 44 [.d (.i k.id),.d (.i k.time),.d (.i k.next),.d (.sl (aI k.held)),.d (.sl (aS k.marks)),.d (.sl (aI k.inbox))],oR 8 9 1 (bF (qI k (i)))]) ?_ ?_))))))
 · refine wq (σ':=[tP 1 1,tO 3 8 (qI k (0)).length,tI 6 (0:Nat),oB 1 44 [.d (.i k.id),.d (.i k.time),.d (.i k.next),.d (.sl (aI k.held)),.d (.sl (aS k.marks)),.d (.sl (aI k.inbox))],oR 8 9 1 (bF (qI k (0)))]) [] [] (⟨0,rfl,aX5 _,rfl⟩) ?_
   repeat' apply ai
   all_goals first|exact qx|rfl|(rw[xz];done)|(rw[aR];done)|(rw[aH];done)|exact qz
 rintro n s ⟨i,rfl,hi,rfl⟩
 refine sq (sq (rT [1,3,6,66] (s5 (cd rfl (fun c66=> ?_) fun c66=> ?_))))
 · have hi2:i<k.held.length:=by simp[aH] at c66;omega
   have hg:=aX (l:=k.held) hi2
   have hmem: (k.held.getD i .zero)∈k.held:=dQ hi2
   have hnt:=hk.2.1 _ hmem
   have hwl:=mW (k.held.getD i .zero)
   have hml:=yg k i
   refine sk (sq (bk (rT [1,3,6] (s4 (ai (by rw[aXy,hg];exact⟨⟨by omega,by rw[aH];omega⟩,rfl⟩) (ai (by rw[aXy,hg];exact⟨aX0 rfl,rfl⟩) (xp (kR (k.held.getD i .zero) hnt) (ai (by rw[aXy,hg];rfl) ?_))))))))
   refine ai (by show _≤9223372036854775807;(try simp only[aXz,aX1,aX2]);omega) (s1 (ai (by refine⟨rfl,aP _,by simp,?_⟩;skip;show(_+1)*16≤_;omega) (s1 (rT [1,3,6] (s3 ?_)))))
   have hq:=yc hi2
   refine wq [] [] (⟨k.held.length - (i+1),by omega,i+1,rfl,by omega,rfl⟩) ?_
   repeat' apply ai
   all_goals first|exact qx|exact aA D.i (by rw[aF (by omega)];omega)|(rw[hq];done)|(rw[hq];rfl)|(rw[hq,aXz];rfl)|(rw[hq,aXz];done)|(rw[hq];simp[aP];done)|(rw[hq];exact fF _ _)|(rw[aP];done)|(simp[aP];done)|exact qz
 have hi3:i=k.held.length:=by simp[aH] at c66;omega
 subst hi3
 clear hi
 refine xt (sq (sq (rT [1,3,7] (s1 (bk (SW.loopW (n:=k.inbox.length) (fun m q=> ∃i:Nat,m=k.inbox.length - i∧i≤k.inbox.length∧q=[tP 1 1,tO 3 8 (oZ k (i)).length,tI 7 (i:Nat),oB 1 44 [.d (.i k.id),.d (.i k.time),.d (.i k.next),.d (.sl (aI k.held)),.d (.sl (aS k.marks)),.d (.sl (aI k.inbox))],oR 8 9 1 (bF (oZ k (i)))]) ?_ ?_))))))
 · refine wq (σ':=[tP 1 1,tO 3 8 (oZ k (0)).length,tI 7 (0:Nat),oB 1 44 [.d (.i k.id),.d (.i k.time),.d (.i k.next),.d (.sl (aI k.held)),.d (.sl (aS k.marks)),.d (.sl (aI k.inbox))],oR 8 9 1 (bF (oZ k (0)))]) [] [] (⟨0,rfl,aX5 _,rfl⟩) ?_
   repeat' apply ai
   all_goals first|exact qx|rfl|(rw[ya];done)|(rw[aR];done)|(rw[aH];done)|exact qz
 rintro n s ⟨i,rfl,hi,rfl⟩
 refine sq (sq (rT [1,3,7,83] (s5 (cd rfl (fun c83=> ?_) fun c83=> ?_))))
 · have hi2:i<k.inbox.length:=by simp[aH] at c83;omega
   have hg:=aX (l:=k.inbox) hi2
   have hmem: (k.inbox.getD i .zero)∈k.inbox:=dQ hi2
   have hnt:=hk.2.2 _ hmem
   have hwl:=mW (k.inbox.getD i .zero)
   have hml:=mh k i
   refine sk (sq (bk (rT [1,3,7] (s4 (ai (by rw[aXy,hg];exact⟨⟨by omega,by rw[aH];omega⟩,rfl⟩) (ai (by rw[aXy,hg];exact⟨aX0 rfl,rfl⟩) (xp (kR (k.inbox.getD i .zero) hnt) (ai (by rw[aXy,hg];rfl) ?_))))))))
   refine ai (by show _≤9223372036854775807;(try simp only[aXz,aX1,aX2]);omega) (s1 (ai (by refine⟨rfl,aP _,by simp,?_⟩;skip;show(_+1)*16≤_;omega) (s1 (rT [1,3,7] (s3 ?_)))))
   have hq:=yd hi2
   refine wq [] [] (⟨k.inbox.length - (i+1),by omega,i+1,rfl,by omega,rfl⟩) ?_
   repeat' apply ai
   all_goals first|exact qx|exact aA D.i (by rw[aF (by omega)];omega)|(rw[hq];done)|(rw[hq];rfl)|(rw[hq,aXz];rfl)|(rw[hq,aXz];done)|(rw[hq];simp[aP];done)|(rw[hq];exact fF _ _)|(rw[aP];done)|(simp[aP];done)|exact qz
 have hi3:i=k.inbox.length:=by simp[aH] at c83;omega
 subst hi3
 clear hi
 refine xt (sq (rT [2] (s2 (rt (eF _ [] [8] rfl (fB rfl rfl rfl ?_ (aA D.sl ?_) trivial) rfl rfl)))))
 · exact aP _
 rw[ah hok]
theorem tw (k:bH) (hk:KB k):Sp 87 1 [tV 0 k.V] [tD 0 (.sl (bF (eL k)))]:=by
 refine sb Tryz.func87 rfl (sq (rT [1] (s2 (sq (sq (rT [1,12] (s1 (xp (xL k hk.2.1 hk.2.2) (ai rfl ?_)))))))))
 refine s1 (cd rfl (fun c12=> ?_) fun c12=> ?_)
 · have hno: ¬dI k=true:=by simpa using c12
   refine sq (rT [2] (s1 (rt (eF _ [] [] rfl (kf rfl (aA D.sl ?_) trivial) rfl rfl))))
   rw[cy hno];rfl
 have hok:dI k=true:=by simpa using c12
 have h6:=fD hok
 obtain⟨⟨_,ht,hn,_,_,_⟩,_⟩:=(cC k).1 hok
 have q1:=bW (k:=6) (n:=k.time.toNat) (by simp;omega)
 have q2:=bW (k:=6) (n:=k.next.toNat) (by simp;omega)
 have hnl:=ye k
 refine sk (sq (rT [1,3] (s1 (SW.midW (fun q=>q=[tP 1 1,tO 3 100 (vQ k).length,oB 1 44 [.d (.i k.id),.d (.i k.time),.d (.i k.next),.d (.sl (aI k.held)),.d (.sl (aS k.marks)),.d (.sl (aI k.inbox))],oR 100 9 1 (bF (vQ k))]) ?_ ?_))))
 · refine sq (SW.nilOwn 3 100 9 1 rfl rfl (rT [1,3,15] (s3 (cd rfl (fun c15=> ?_) fun c15=> ?_))))
   · have hq:=aCs (of_decide_eq_true c15)
     refine rT [1,3] (s3 (xp (tC k.time (by omega)) (ai rfl ?_)))
     refine ai (by show _≤9223372036854775807;(try simp only[aXz,aX1,aX2]);omega) (s1 (ai (by exact⟨rfl,rfl,by simp,by show(0+1)*16≤_;omega⟩) (s1 (wq [] [] (rfl) ?_))))
     repeat' apply ai
     all_goals first|exact qx|exact aA D.i (by rw[aF (by omega)];omega)|(rw[hq];done)|(rw[hq];rfl)|(rw[hq,aXz];rfl)|(rw[hq,aXz];done)|(rw[hq];simp[aP];done)|(rw[hq];exact fF _ _)|(rw[aP];done)|(simp[aP];done)|exact qz
   have hq:=aGv (of_decide_eq_false c15)
   refine sk (wq [] [] (rfl) ?_)
   repeat' apply ai
   all_goals first|exact qx|exact aA D.i (by rw[aF (by omega)];omega)|(rw[hq];done)|(rw[hq];rfl)|(rw[hq,aXz];rfl)|(rw[hq,aXz];done)|(rw[hq];simp[aP];done)|(rw[hq];exact fF _ _)|(rw[aP];done)|(simp[aP];done)|exact qz
 rintro s rfl
 refine SW.midW (fun q=>q=[tP 1 1,tO 3 100 (yN k).length,oB 1 44 [.d (.i k.id),.d (.i k.time),.d (.i k.next),.d (.sl (aI k.held)),.d (.sl (aS k.marks)),.d (.sl (aI k.inbox))],oR 100 9 1 (bF (yN k))]) ?_ ?_
 · refine sq (rT [1,3,25] (s3 (cd rfl (fun c25=> ?_) fun c25=> ?_)))
   · have hq:=aCt (of_decide_eq_true c25)
     have hnl2: (vQ k).length≤1:=by unfold vQ;split<;>simp
     refine rT [1,3] (s3 (xp (tC k.next (by omega)) (ai rfl ?_)))
     refine ai (by show _≤9223372036854775807;(try simp only[aXz,aX1,aX2]);omega) (s1 (ai (by refine⟨rfl,aP _,by simp,?_⟩;skip;show(_+1)*16≤_;omega) (s1 (wq [] [] (rfl) ?_))))
     repeat' apply ai
     all_goals first|exact qx|exact aA D.i (by rw[aF (by omega)];omega)|(rw[hq];done)|(rw[hq];rfl)|(rw[hq,aXz];rfl)|(rw[hq,aXz];done)|(rw[hq];simp[aP];done)|(rw[hq];exact fF _ _)|(rw[aP];done)|(simp[aP];done)|exact qz
   have hq:=aGw (of_decide_eq_false c25)
   refine sk (wq [] [] (rfl) ?_)
   repeat' apply ai
   all_goals first|exact qx|exact aA D.i (by rw[aF (by omega)];omega)|(rw[hq];done)|(rw[hq];rfl)|(rw[hq,aXz];rfl)|(rw[hq,aXz];done)|(rw[hq];simp[aP];done)|(rw[hq];exact fF _ _)|(rw[aP];done)|(simp[aP];done)|exact qz
 rintro s rfl
 refine sq (sq (rT [1,3,34,35,36] (s4 (bk (SW.loopW (n:=k.marks.length) (fun m q=> ∃i:Nat,m=k.marks.length - i∧i≤k.marks.length∧q=[tP 1 1,tO 3 100 (oY k (i)).length,tD 34 (.sl (aS k.marks)),tI 35 (k.marks.length:Nat),tI 36 (i:Nat),oB 1 44 [.d (.i k.id),.d (.i k.time),.d (.i k.next),.d (.sl (aI k.held)),.d (.sl (aS k.marks)),.d (.sl (aI k.inbox))],oR 100 9 1 (bF (oY k (i)))]) ?_ ?_)))))
 · refine wq (σ':=[tP 1 1,tO 3 100 (oY k (0)).length,tD 34 (.sl (aS k.marks)),tI 35 (k.marks.length:Nat),tI 36 (0:Nat),oB 1 44 [.d (.i k.id),.d (.i k.time),.d (.i k.next),.d (.sl (aI k.held)),.d (.sl (aS k.marks)),.d (.sl (aI k.inbox))],oR 100 9 1 (bF (oY k (0)))]) [] [] (⟨0,rfl,aX5 _,rfl⟩) ?_
   repeat' apply ai
   all_goals first|exact qx|rfl|(rw[xy];done)|(rw[aR];done)|(rw[aH];done)|exact qz
 rintro n s ⟨i,rfl,hi,rfl⟩
 refine sq (rT [1,3,34,35,36,37] (s1 (sq (cd rfl (fun c37=> ?_) fun c37=> ?_))))
 · have hi2:i<k.marks.length:=by simp[aR] at c37;omega
   have hg:=cA (l:=k.marks) hi2
   have hms:=yh hok hi2
   have hml:=yf k i
   have w1:=bW (k:=6) (n:=(k.marks.getD i .zero).frm.toNat) (by show _<10000000;omega)
   have w2:=bW (k:=6) (n:=(k.marks.getD i .zero).num.toNat) (by show _<10000000;omega)
   have w3:=bW (k:=6) (n:=(k.marks.getD i .zero).til.toNat) (by show _<10000000;omega)
   refine sk (sq (bk (sq (rT [1,3,5,34,35,36] (ai (by rw[aXy,hg];exact⟨⟨by omega,by rw[aR];omega⟩,rfl⟩) (ai (by rw[aXy,hg];exact⟨aX0 rfl,rfl⟩) (s2 (wa [tP 1 1,tO 3 100 (oY k (i)).length,tD 34 (.sl (aS k.marks)),tI 35 (k.marks.length:Nat),tI 36 (i:Nat),tP 5 5,oB 1 44 [.d (.i k.id),.d (.i k.time),.d (.i k.next),.d (.sl (aI k.held)),.d (.sl (aS k.marks)),.d (.sl (aI k.inbox))],oB 5 162 [.d (.i ((k.marks.getD i .zero)).frm),.d (.i ((k.marks.getD i .zero)).num),.d (.i ((k.marks.getD i .zero)).til)],oR 100 9 1 (bF (oY k (i)))] [] [] ?_ ?_))))))))
   · repeat' apply ai
     all_goals first|exact qx|(rw[aXy,hg];rfl)|exact qz
   refine rT [1,3,34,35,36] (s7 (xp (qo iL (k.marks.getD i .zero).frm (k.marks.getD i .zero).num (k.marks.getD i .zero).til (by omega) (by decide)) (ai rfl ?_)))
   refine s1 (ai (by refine⟨rfl,aP _,by simp,?_⟩;skip;show(_+1)*16≤_;omega) (s1 (rT [1,3,34,35,36] (s2 ?_))))
   have hq:=yb hi2
   refine wq [] [] (⟨k.marks.length - (i+1),by omega,i+1,rfl,by omega,rfl⟩) ?_
   repeat' apply ai
   all_goals first|exact qx|exact aA D.i (by rw[aF (by omega)];omega)|(rw[hq];done)|(rw[hq];rfl)|(rw[hq,aXz];rfl)|(rw[hq,aXz];done)|(rw[hq];simp[aP];done)|(rw[hq];exact fF _ _)|(rw[aP];done)|(simp[aP];done)|exact qz
 have hi3:i=k.marks.length:=by simp[aR] at c37;omega
 subst hi3
 clear hi
 refine xt (sq (sq (rT [1,3,52,53,54] (s4 (bk (SW.loopW (n:=k.held.length) (fun m q=> ∃i:Nat,m=k.held.length - i∧i≤k.held.length∧q=[tP 1 1,tO 3 100 (qI k (i)).length,tD 52 (.sl (aI k.held)),tI 53 (k.held.length:Nat),tI 54 (i:Nat),oB 1 44 [.d (.i k.id),.d (.i k.time),.d (.i k.next),.d (.sl (aI k.held)),.d (.sl (aS k.marks)),.d (.sl (aI k.inbox))],oR 100 9 1 (bF (qI k (i)))]) ?_ ?_))))))
 · refine wq (σ':=[tP 1 1,tO 3 100 (qI k (0)).length,tD 52 (.sl (aI k.held)),tI 53 (k.held.length:Nat),tI 54 (0:Nat),oB 1 44 [.d (.i k.id),.d (.i k.time),.d (.i k.next),.d (.sl (aI k.held)),.d (.sl (aS k.marks)),.d (.sl (aI k.inbox))],oR 100 9 1 (bF (qI k (0)))]) [] [] (⟨0,rfl,aX5 _,rfl⟩) ?_
   repeat' apply ai
   all_goals first|exact qx|rfl|(rw[xz];done)|(rw[aR];done)|(rw[aH];done)|exact qz
 rintro n s ⟨i,rfl,hi,rfl⟩
 refine sq (rT [1,3,52,53,54,55] (s1 (sq (cd rfl (fun c55=> ?_) fun c55=> ?_))))
 · have hi2:i<k.held.length:=by simp[aH] at c55;omega
   have hg:=aX (l:=k.held) hi2
   have hmem: (k.held.getD i .zero)∈k.held:=dQ hi2
   have hnt:=hk.2.1 _ hmem
   have hwl:=mW (k.held.getD i .zero)
   have hml:=yg k i
   refine sk (sq (bk (sq (rT [1,3,7,52,53,54] (ai (by rw[aXy,hg];exact⟨⟨by omega,by rw[aH];omega⟩,rfl⟩) (ai (by rw[aXy,hg];exact⟨aX0 rfl,rfl⟩) (s2 (wa [tP 1 1,tO 3 100 (qI k (i)).length,tD 52 (.sl (aI k.held)),tI 53 (k.held.length:Nat),tI 54 (i:Nat),tP 7 7,oB 1 44 [.d (.i k.id),.d (.i k.time),.d (.i k.next),.d (.sl (aI k.held)),.d (.sl (aS k.marks)),.d (.sl (aI k.inbox))],oB 7 52 [.d (.i ((k.held.getD i .zero)).frm),.d (.i ((k.held.getD i .zero)).num),.d (.i ((k.held.getD i .zero)).to),.d (.i ((k.held.getD i .zero)).til),.d (.s ((k.held.getD i .zero)).text)],oR 100 9 1 (bF (qI k (i)))] [] [] ?_ ?_))))))))
   · repeat' apply ai
     all_goals first|exact qx|(rw[aXy,hg];rfl)|exact qz
   refine rT [1,3,52,53,54] (s2 (xp (oW (k.held.getD i .zero) hnt) (ai rfl ?_)))
   refine ai (by show _≤9223372036854775807;(try simp only[aXz,aX1,aX2]);omega) (s1 (ai (by refine⟨rfl,aP _,by simp,?_⟩;skip;show(_+1)*16≤_;omega) (s1 (rT [1,3,52,53,54] (s2 ?_)))))
   have hq:=yc hi2
   refine wq [] [] (⟨k.held.length - (i+1),by omega,i+1,rfl,by omega,rfl⟩) ?_
   repeat' apply ai
   all_goals first|exact qx|exact aA D.i (by rw[aF (by omega)];omega)|(rw[hq];done)|(rw[hq];rfl)|(rw[hq,aXz];rfl)|(rw[hq,aXz];done)|(rw[hq];simp[aP];done)|(rw[hq];exact fF _ _)|(rw[aP];done)|(simp[aP];done)|exact qz
 have hi3:i=k.held.length:=by simp[aH] at c55;omega
 subst hi3
 clear hi
 refine xt (sq (sq (rT [3,66,67,68] (s4 (bk (SW.loopW (n:=k.inbox.length) (fun m q=> ∃i:Nat,m=k.inbox.length - i∧i≤k.inbox.length∧q=[tO 3 100 (oZ k (i)).length,tD 66 (.sl (aI k.inbox)),tI 67 (k.inbox.length:Nat),tI 68 (i:Nat),oB 1 44 [.d (.i k.id),.d (.i k.time),.d (.i k.next),.d (.sl (aI k.held)),.d (.sl (aS k.marks)),.d (.sl (aI k.inbox))],oR 100 9 1 (bF (oZ k (i)))]) ?_ ?_))))))
 · refine wq (σ':=[tO 3 100 (oZ k (0)).length,tD 66 (.sl (aI k.inbox)),tI 67 (k.inbox.length:Nat),tI 68 (0:Nat),oB 1 44 [.d (.i k.id),.d (.i k.time),.d (.i k.next),.d (.sl (aI k.held)),.d (.sl (aS k.marks)),.d (.sl (aI k.inbox))],oR 100 9 1 (bF (oZ k (0)))]) [] [] (⟨0,rfl,aX5 _,rfl⟩) ?_
   repeat' apply ai
   all_goals first|exact qx|rfl|(rw[ya];done)|(rw[aR];done)|(rw[aH];done)|exact qz
 rintro n s ⟨i,rfl,hi,rfl⟩
 refine sq (rT [3,66,67,68,69] (s1 (sq (cd rfl (fun c69=> ?_) fun c69=> ?_))))
 · have hi2:i<k.inbox.length:=by simp[aH] at c69;omega
   have hg:=aX (l:=k.inbox) hi2
   have hmem: (k.inbox.getD i .zero)∈k.inbox:=dQ hi2
   have hnt:=hk.2.2 _ hmem
   have hwl:=mW (k.inbox.getD i .zero)
   have hml:=mh k i
   refine sk (sq (bk (sq (rT [3,9,66,67,68] (ai (by rw[aXy,hg];exact⟨⟨by omega,by rw[aH];omega⟩,rfl⟩) (ai (by rw[aXy,hg];exact⟨aX0 rfl,rfl⟩) (s2 (wa [tO 3 100 (oZ k (i)).length,tD 66 (.sl (aI k.inbox)),tI 67 (k.inbox.length:Nat),tI 68 (i:Nat),tP 9 9,oB 1 44 [.d (.i k.id),.d (.i k.time),.d (.i k.next),.d (.sl (aI k.held)),.d (.sl (aS k.marks)),.d (.sl (aI k.inbox))],oB 9 52 [.d (.i ((k.inbox.getD i .zero)).frm),.d (.i ((k.inbox.getD i .zero)).num),.d (.i ((k.inbox.getD i .zero)).to),.d (.i ((k.inbox.getD i .zero)).til),.d (.s ((k.inbox.getD i .zero)).text)],oR 100 9 1 (bF (oZ k (i)))] [] [] ?_ ?_))))))))
   · repeat' apply ai
     all_goals first|exact qx|(rw[aXy,hg];rfl)|exact qz
   refine rT [3,66,67,68] (s2 (xp (oW (k.inbox.getD i .zero) hnt) (ai rfl ?_)))
   refine ai (by show _≤9223372036854775807;(try simp only[aXz,aX1,aX2]);omega) (s1 (ai (by refine⟨rfl,aP _,by simp,?_⟩;skip;show(_+1)*16≤_;omega) (s1 (rT [3,66,67,68] (s2 ?_)))))
   have hq:=yd hi2
   refine wq [] [] (⟨k.inbox.length - (i+1),by omega,i+1,rfl,by omega,rfl⟩) ?_
   repeat' apply ai
   all_goals first|exact qx|exact aA D.i (by rw[aF (by omega)];omega)|(rw[hq];done)|(rw[hq];rfl)|(rw[hq,aXz];rfl)|(rw[hq,aXz];done)|(rw[hq];simp[aP];done)|(rw[hq];exact fF _ _)|(rw[aP];done)|(simp[aP];done)|exact qz
 have hi3:i=k.inbox.length:=by simp[aH] at c69;omega
 subst hi3
 clear hi
 have hil:=mh k k.inbox.length
 refine xt (sq (rT [2] (s1 (bP (robj:=[(100,.row 9 1 (bF (oZ k k.inbox.length)))]) (rl:=[(0,80)]) (bor:=[100]) (au (oZ k k.inbox.length) (by omega)) rfl rfl rfl rfl ⟨fB rfl rfl rfl (aP _) rfl trivial,rfl⟩ rfl (.inr (um _)) (aM ⟨rfl,trivial⟩) (fun j hj=>by(obtain rfl:j=0:=by simpa[kU,cE,iS] using hj);rfl) (s1 (rt (eF _ [] [80] rfl (fB rfl rfl rfl ?_ (aA D.sl ?_) trivial) rfl rfl)))))))
 · exact aP _
 rw[ah hok]
theorem aHc (k:aK) (rec:List UInt8) (hok:aW k=true) (hrec:rec.length≤900000):Sp 101 2 [tV 0 k.V,tD 1 (.s rec)] [tV 0 (.tup [.agg [.d (.i ((jI k rec).1).id),.d (.b ((jI k rec).1).up),.d (.s ((jI k rec).1).log),.d (.i ((jI k rec).1).forced),.d (.sl (aZ ((jI k rec).1).halves))],.c (.d (.b (jI k rec).2))])]:=by
 have hlg:=eA hok
 have hkb:=nK hok
 have hrs:=oF (k:=(bA k).1)
 have hsk:dF k.log k.forced=true:=(eN hlg.1).2.1
 refine sb Tryz.func101 rfl (sq (rT [1,2,4] (s3 (sq (rT [1,2,4,6] (s5 (xp (rP k.id k.log (by omega)) (ai rfl ?_))))))))
 refine s6 (sq (sq (rT [1,2,4,6,9] (s2 (xp (go (bA k).1 rec hkb hrec) (ai rfl ?_))))))
 refine s6 (sq (rT [1,2,4,6,30] (s2 (cd rfl (fun c30=> ?_) fun c30=> ?_))))
 · have h1: ¬(cV (bA k).1 rec).2=true:=lF c30
   refine sq (rT [4,5] (s3 (rt ?_)))
   have hr:=aEa h1
   refine bJ rfl rfl ?_
   rw[hr]
   rfl
 have h1: (cV (bA k).1 rec).2=true:=gP c30
 refine sk (sq (rT [1,2,4,6,10,11] (s3 (xp (bq k.log k.forced rec (by omega) hrec) (ai rfl ?_)))))
 refine s6 (sq (sq (rT [1,2,4,6,10,11,40] (s2 (cd rfl (fun c40=> ?_) fun c40=> ?_)))))
 · have h2: ¬(bC k.log k.forced rec).2=true:=lF c40
   refine sq (rD [1,2,4,10,12,13] (s3 (xp (tw (bA k).1 hkb) (ai rfl ?_))))
   refine xp (qn k.log k.forced (eL (bA k).1) (by omega) (by omega) (fun r hr=>by have:=hrs.2 r hr;omega)) (ai rfl ?_)
   refine s6 (ai (by kernel_rfl) (sq (sq (rT [1,2,4,10,12,50] (s2 (cd rfl (fun c50=> ?_) fun c50=> ?_))))))
   · have h3: ¬(dO k).2=true:=lF c50
     refine sq (rT [4,5] (s3 (rt ?_)))
     have hr:=su h1 h2 h3
     refine bJ rfl rfl ?_
     rw[hr]
     rfl
   have h3: (dO k).2=true:=gP c50
   refine sk (rT [2,4,10,11] (s2 (xp (bq (dO k).1.1 (dO k).1.2 rec (iv (by omega)) hrec) (ai rfl ?_))))
   refine s5 (sq (sq (rT [2,4,10,59] (s2 (cd rfl (fun c59=> ?_) fun c59=> ?_)))))
   · refine sq (rT [4,5] (s3 (rt ?_)))
     first
     |exact absurd (c40.symm.trans c59) (by decide)
     |(have hr:=pn h1 h2 h3 (lF c59)
       refine bJ rfl rfl ?_
       rw[hr]
       rfl)
   refine sk (sq (rT [2,4] (s3 (sq (rT [4,5] (s3 (rt ?_)))))))
   first
   |(have hr:=po h1 h2 h3 (gP c59)
     refine bJ rfl rfl ?_
     rw[hr]
     rfl)
   |(have hr:=pI h1 h2
     refine bJ rfl rfl ?_
     rw[hr]
     rfl)
 have h2: (bC k.log k.forced rec).2=true:=gP c40
 refine sk (sq (sq (rT [2,4,10,59] (s2 (cd rfl (fun c59=> ?_) fun c59=> ?_)))))
 · refine sq (rT [4,5] (s3 (rt ?_)))
   first
   |exact absurd (c40.symm.trans c59) (by decide)
   |(have hr:=pn h1 h2 h3 (lF c59)
     refine bJ rfl rfl ?_
     rw[hr]
     rfl)
 refine sk (sq (rT [2,4] (s3 (sq (rT [4,5] (s3 (rt ?_)))))))
 first
 |(have hr:=po h1 h2 h3 (gP c59)
   refine bJ rfl rfl ?_
   rw[hr]
   rfl)
 |(have hr:=pI h1 h2
   refine bJ rfl rfl ?_
   rw[hr]
   rfl)
theorem aBb (k:aK) (hl:k.log.length≤140737488355328):Sp 75 1 [tV 0 k.V] [tV 0 ((jR k).V)]:=by
 refine sb Tryz.func75 rfl (sq (rT [1,2] (s2 (sq (rT [1,2] (s2 (xp (mz k.log k.forced hl) (ai rfl ?_))))))))
 refine s2 (sq (rT [2] (s2 (rt (bJ rfl rfl ?_)))))
 rfl
theorem dw (k:aK) (rec:List UInt8) (hok:aW k=true) (hrec:rec.length≤900000):Sp 90 2 [tV 0 k.V,tD 1 (.s rec)] [tV 0 (.tup [.agg [.d (.i ((dM k rec).1).id),.d (.b ((dM k rec).1).up),.d (.s ((dM k rec).1).log),.d (.i ((dM k rec).1).forced),.d (.sl (aZ ((dM k rec).1).halves))],.c (.d (.b (dM k rec).2))])]:=by
 have hlg:=eA hok
 have hkb:=nK hok
 have hrs:=oF (k:=(bA k).1)
 have hsk:dF k.log k.forced=true:=(eN hlg.1).2.1
 have hll:=yj (k:=k) (rec:=rec) (by omega)
 refine sb Tryz.func90 rfl (sq (rT [1,2,4] (s3 (sq (rT [2,4,6,7] (s2 (xp (aHc k rec hok hrec) (ai rfl ?_))))))))
 refine s6 (sq (sq (rT [2,4,6,15] (s2 (cd rfl (fun c15=> ?_) fun c15=> ?_)))))
 · have h1: ¬(jI k rec).2=true:=lF c15
   have hr:=aJe h1
   refine sq (rT [4,5] (s1 (xp (lN k (⟨by omega,fun x hx=>by have:=hlg.2.2.2.2.2 x hx;omega⟩)) (ai rfl ?_))))
   refine s2 (rt (bJ rfl rfl ?_))
   rw[hr]
   rfl
 have h1: (jI k rec).2=true:=gP c15
 have hr:=sv h1
 refine sk (sq (rT [4,5] (s1 (xp (aBb (jI k rec).1 hll.1) (ai rfl ?_)))))
 refine xp (lN (jR (jI k rec).1) (by have e: (jR (jI k rec).1).halves=k.halves:=hll.2;rw[e];exact(⟨by omega,fun x hx=>by have:=hlg.2.2.2.2.2 x hx;omega⟩))) (ai rfl ?_)
 refine s2 (rt (bJ rfl rfl ?_))
 rw[hr]
 rfl
theorem nM (k:aK) (rec:List UInt8) (fc:Bool) (hok:aW k=true) (hrec:rec.length≤900000):Sp 88 3 [tV 0 k.V,tD 1 (.s rec),tB 2 fc] [tV 0 (.tup [.agg [.d (.i ((gA k rec fc).1).id),.d (.b ((gA k rec fc).1).up),.d (.s ((gA k rec fc).1).log),.d (.i ((gA k rec fc).1).forced),.d (.sl (aZ ((gA k rec fc).1).halves))],.c (.d (.b (gA k rec fc).2))])]:=by
 have hlg:=eA hok
 have hkb:=nK hok
 have hrs:=oF (k:=(bA k).1)
 have hsk:dF k.log k.forced=true:=(eN hlg.1).2.1
 have hpl:=iv (k:=k) (by omega)
 refine sb Tryz.func88 rfl (sq (rT [1,2,3,6] (s3 (sq (rT [1,2,3,6,8] (s1 (xp (gW k (by omega)) (ai rfl ?_))))))))
 refine s6 (sq (rT [1,2,3,6,8,11] (s2 (xp (gp (bA k).1 rec hkb hrec) (ai rfl ?_)))))
 refine s6 (sq (sq (rT [1,2,3,6,8,26] (s2 (cd rfl (fun c26=> ?_) fun c26=> ?_)))))
 · have h1: ¬(cV (bA k).1 rec).2=true:=by rw[← pc];exact lF c26
   refine sq (rT [6,7] (s3 (rt ?_)))
   have hr:gA k rec fc=(k,false):=by rw[gA,aEa h1];rfl
   refine bJ rfl rfl ?_
   rw[hr]
   rfl
 have h1: (cV (bA k).1 rec).2=true:=by rw[← pc];exact gP c26
 refine sk (sq (rT [1,2,3,6,8,12,13] (s3 (xp (pS k.log k.forced rec (by omega) hrec) (ai rfl ?_)))))
 refine s6 (sq (sq (rT [1,2,3,6,8,12,13,36] (s2 (cd rfl (fun c36=> ?_) fun c36=> ?_)))))
 · have h2: ¬(bC k.log k.forced rec).2=true:=lF c36
   refine sq (rD [1,2,3,6,12] (s3 (xp (bs (bA k).1 hkb) (ai rfl ?_))))
   refine xp (yO k.log k.forced (eL (bA k).1) (by omega) (by omega) (fun r hr=>by have:=hrs.2 r hr;omega)) (ai rfl ?_)
   refine s4 (ai (by kernel_rfl) (rT [2,3,6,12,13] (s2 (xp (pS (dO k).1.1 (dO k).1.2 rec hpl hrec) (ai rfl ?_)))))
   refine s5 (sq (sq (rT [2,3,6,12,52] (s2 (cd rfl (fun c52=> ?_) fun c52=> ?_)))))
   · refine sq (rT [6,7] (s3 (rt ?_)))
     first
     |exact absurd (c36.symm.trans c52) (by decide)
     |(have hr:=(show gA k rec fc=(k,false) by rw[gA,yi hsk h1 h2 (lF c52)];rfl)
       refine bJ rfl rfl ?_
       rw[hr]
       rfl)
   refine sk (sq (sq (rT [3,6,12,54] (s1 (cd rfl (fun c54=> ?_) fun c54=> ?_)))))
   · obtain rfl:=c54
     refine rT [3,6,12] (s1 ?_)
     first
     |refine ke (iD (bC (dO k).1.1 (dO k).1.2 rec).1.1 (bC (dO k).1.1 (dO k).1.2 rec).1.2 (oT hpl)) rfl rfl rfl rfl rfl rfl rfl rfl ?_
     |refine ke (iD (bC k.log k.forced rec).1.1 (bC k.log k.forced rec).1.2 (oT (by omega))) rfl rfl rfl rfl rfl rfl rfl rfl ?_
     refine s1 (sq (rT [3,6] (s3 (sq (rT [6,7] (s3 (rt ?_)))))))
     have hlr:jI k rec=(jH k (bC (dO k).1.1 (dO k).1.2 rec).1,true)∨jI k rec=(jH k (bC k.log k.forced rec).1,true):=by
      first
      |exact .inl (oG hsk h1 h2 (gP c52))
      |exact .inr (pI h1 h2)
     first
     |(have hr:=oG hsk h1 h2 (gP c52)
       refine bJ rfl rfl ?_
       rw[gA,hr]
       rfl)
     |(have hr:=pI h1 h2
       refine bJ rfl rfl ?_
       rw[gA,hr]
       rfl)
   obtain rfl:=c54
   refine sk (sq (rT [3,6] (s3 (sq (rT [6,7] (s3 (rt ?_)))))))
   have hlr:jI k rec=(jH k (bC (dO k).1.1 (dO k).1.2 rec).1,true)∨jI k rec=(jH k (bC k.log k.forced rec).1,true):=by
    first
    |exact .inl (oG hsk h1 h2 (gP c52))
    |exact .inr (pI h1 h2)
   first
   |(have hr:=oG hsk h1 h2 (gP c52)
     refine bJ rfl rfl ?_
     rw[gA,hr]
     rfl)
   |(have hr:=pI h1 h2
     refine bJ rfl rfl ?_
     rw[gA,hr]
     rfl)
 have h2: (bC k.log k.forced rec).2=true:=gP c36
 refine sk (sq (sq (rT [2,3,6,12,52] (s2 (cd rfl (fun c52=> ?_) fun c52=> ?_)))))
 · refine sq (rT [6,7] (s3 (rt ?_)))
   first
   |exact absurd (c36.symm.trans c52) (by decide)
   |(have hr:=(show gA k rec fc=(k,false) by rw[gA,yi hsk h1 h2 (lF c52)];rfl)
     refine bJ rfl rfl ?_
     rw[hr]
     rfl)
 refine sk (sq (sq (rT [3,6,12,54] (s1 (cd rfl (fun c54=> ?_) fun c54=> ?_)))))
 · obtain rfl:=c54
   refine rT [3,6,12] (s1 ?_)
   first
   |refine ke (iD (bC (dO k).1.1 (dO k).1.2 rec).1.1 (bC (dO k).1.1 (dO k).1.2 rec).1.2 (oT hpl)) rfl rfl rfl rfl rfl rfl rfl rfl ?_
   |refine ke (iD (bC k.log k.forced rec).1.1 (bC k.log k.forced rec).1.2 (oT (by omega))) rfl rfl rfl rfl rfl rfl rfl rfl ?_
   refine s1 (sq (rT [3,6] (s3 (sq (rT [6,7] (s3 (rt ?_)))))))
   have hlr:jI k rec=(jH k (bC (dO k).1.1 (dO k).1.2 rec).1,true)∨jI k rec=(jH k (bC k.log k.forced rec).1,true):=by
    first
    |exact .inl (oG hsk h1 h2 (gP c52))
    |exact .inr (pI h1 h2)
   first
   |(have hr:=oG hsk h1 h2 (gP c52)
     refine bJ rfl rfl ?_
     rw[gA,hr]
     rfl)
   |(have hr:=pI h1 h2
     refine bJ rfl rfl ?_
     rw[gA,hr]
     rfl)
 obtain rfl:=c54
 refine sk (sq (rT [3,6] (s3 (sq (rT [6,7] (s3 (rt ?_)))))))
 have hlr:jI k rec=(jH k (bC (dO k).1.1 (dO k).1.2 rec).1,true)∨jI k rec=(jH k (bC k.log k.forced rec).1,true):=by
  first
  |exact .inl (oG hsk h1 h2 (gP c52))
  |exact .inr (pI h1 h2)
 first
 |(have hr:=oG hsk h1 h2 (gP c52)
   refine bJ rfl rfl ?_
   rw[gA,hr]
   rfl)
 |(have hr:=pI h1 h2
   refine bJ rfl rfl ?_
   rw[gA,hr]
   rfl)
theorem nd (k:aK) (hl:k.log.length≤140737488355328):Sp 34 1 [tV 0 k.V] [tV 0 (.tup [.agg [.d (.i ((cF k).1).id),.d (.b ((cF k).1).up),.d (.s ((cF k).1).log),.d (.i ((cF k).1).forced),.d (.sl (aZ ((cF k).1).halves))],.c (.d (.b (cF k).2))])]:=by
 refine sb Tryz.func34 rfl (sq (rT [1,2] (s3 (sq (sq (rT [1,2,6] (s1 (xp (lI k hl) (ai rfl ?_)))))))))
 refine s1 (cd rfl (fun c6=> ?_) fun c6=> ?_)
 · have hno: ¬aW k=true:=lF c6
   refine sq (rT [2,3] (s3 (rt ?_)))
   have hr:cF k=(.zero,false):=da hno
   rw[hr]
   exact rq [] [] rfl qz
 have hok:aW k=true:=gP c6
 have hlg:=eA hok
 have hK:=kQ hok
 have h6:=fD (gF hok)
 have hkb:=nK hok
 have hsk:dF k.log k.forced=true:=(eN hlg.1).2.1
 obtain⟨⟨_,htm,hnx,_⟩,_⟩:=(cC _).1 (gF hok)
 have hrl:=wN (n:=((bA k).1.time+1).toNat) (by omega)
 have hdl:=bW (k:=6) (n:=((bA k).1.time+1).toNat) (by show _<10000000;omega)
 have hw:wrap64 ((bA k).1.time+1)=(bA k).1.time+1:=aF (by omega)
 refine sk (sq (sq (rT [1,2,10] (s3 (cd rfl (fun c10=> ?_) fun c10=> ?_)))))
 · have hu: ¬k.up=true:=lF c10
   refine sq (rT [2,3] (s1 (xp (lN k (⟨by omega,fun x hx=>by have:=hlg.2.2.2.2.2 x hx;omega⟩)) (ai rfl ?_))))
   refine s2 (rt ?_)
   have hr:=uA hok hu
   refine bJ rfl rfl ?_
   rw[hr]<;>rfl
 have hu:k.up=true:=gP c10
 refine sk (sq (rD [2,3] (s2 (xp (gK k hl) (ai rfl ?_)))))
 refine s2 (xp (tC ((bA k).1.time+1) (by omega)) (ai (by rw[hK,hw];rfl) ?_))
 refine ai (by show _≤9223372036854775807;(try simp only[aXz,aX1,aX2]);omega) (xp (dw k (lA ((bA k).1.time+1).toNat) hok (by omega)) (ai rfl ?_))
 refine s4 (ai (by kernel_rfl) (rt ?_))
 have hr:=xJ hok hu
 refine bJ rfl rfl ?_
 rw[hr]<;>rfl
theorem wS (k:aK) (hl:k.log.length≤140737488355328):Sp 33 1 [tV 0 k.V] [tV 0 (.tup [.agg [.d (.i ((cF k).1).id),.d (.b ((cF k).1).up),.d (.s ((cF k).1).log),.d (.i ((cF k).1).forced),.d (.sl (aZ ((cF k).1).halves))],.c (.d (.b (cF k).2))])]:=by
 refine sb Tryz.func33 rfl (sq (rT [1,2] (s3 (sq (sq (rT [1,2,8] (s1 (xp (iK k hl) (ai rfl ?_)))))))))
 refine s1 (cd rfl (fun c8=> ?_) fun c8=> ?_)
 · have hno: ¬aW k=true:=lF c8
   refine sq (rT [2,3] (s3 (rt ?_)))
   have hr:cF k=(.zero,false):=da hno
   rw[hr]
   exact rq [] [] rfl qz
 have hok:aW k=true:=gP c8
 have hlg:=eA hok
 have hK:=kQ hok
 have h6:=fD (gF hok)
 have hkb:=nK hok
 have hsk:dF k.log k.forced=true:=(eN hlg.1).2.1
 obtain⟨⟨_,htm,hnx,_⟩,_⟩:=(cC _).1 (gF hok)
 have hrl:=wN (n:=((bA k).1.time+1).toNat) (by omega)
 have hdl:=bW (k:=6) (n:=((bA k).1.time+1).toNat) (by show _<10000000;omega)
 have hw:wrap64 ((bA k).1.time+1)=(bA k).1.time+1:=aF (by omega)
 refine sk (sq (rT [1,2,4] (s1 (xp (gW k (by omega)) (ai rfl ?_)))))
 refine s6 (sq (sq (rT [1,2,4,22] (s4 (y3 (ai pk (cd rfl (fun c22=> ?_) fun c22=> ?_)))))))
 · have hr0:cF k=(k,false):=by
    by_cases hu:k.up=true
    · rw[hu] at c22
      exact tk hok (of_decide_eq_true (by simpa using c22))
    · exact uA hok hu
   refine sq (rT [2,3] (s1 (xp (gH k (⟨by omega,fun x hx=>by have:=hlg.2.2.2.2.2 x hx;omega⟩)) (ai rfl ?_))))
   refine s2 (rt ?_)
   have hr:=hr0
   refine bJ rfl rfl ?_
   rw[hr]<;>rfl
 have hu:k.up=true:=by
  cases hq:k.up with
  |true=>rfl
  |false=>rw[hq] at c22;cases c22
 refine sk (sq (rD [2,3] (s1 (xp (gH k (⟨by omega,fun x hx=>by have:=hlg.2.2.2.2.2 x hx;omega⟩)) (ai rfl ?_)))))
 refine s3 (xp (kW ((bA k).1.time+1) (by omega)) (ai (by rw[hw];rfl) ?_))
 refine ai (by show _≤9223372036854775807;(try simp only[aXz,aX1,aX2]);omega) (xp (nM k (lA ((bA k).1.time+1).toNat) true hok (by omega)) (ai rfl ?_))
 refine s4 (ai (by kernel_rfl) (rt ?_))
 have hr:=xJ hok hu
 refine bJ rfl rfl ?_
 rw[hr]<;>rfl
theorem qp (k:aK) (tu til:Int) (tx:List UInt8) (hl:k.log.length≤140737488355328) (htx:tx.length≤140737488355328):Sp 36 4 [tV 0 k.V,tI 1 tu,tI 2 til,tD 3 (.s tx)] [tV 0 (.tup [.agg [.d (.i ((aU k tu til tx).1).id),.d (.b ((aU k tu til tx).1).up),.d (.s ((aU k tu til tx).1).log),.d (.i ((aU k tu til tx).1).forced),.d (.sl (aZ ((aU k tu til tx).1).halves))],.c (.d (.i (aU k tu til tx).2))])]:=by
 refine sb Tryz.func36 rfl (sq (rT [1,2,3,4,8] (s3 (sq (sq (rT [1,2,3,4,8,15] (s1 (xp (lI k hl) (ai rfl ?_)))))))))
 refine s1 (cd rfl (fun c15=> ?_) fun c15=> ?_)
 · have hno: ¬aW k=true:=lF c15
   refine sq (rT [8,9] (s3 (rt ?_)))
   have hr:aU k tu til tx=(.zero,0):=gi hno
   rw[hr]
   exact rq [] [] rfl qz
 have hok:aW k=true:=gP c15
 have hlg:=eA hok
 have hK:=kQ hok
 have h6:=fD (gF hok)
 have hkb:=nK hok
 have hsk:dF k.log k.forced=true:=(eN hlg.1).2.1
 obtain⟨⟨_,htm,hnx,_⟩,_⟩:=(cC _).1 (gF hok)
 have hnl:=mW (hG k tu til tx)
 have hrl:=tR iE (hG k tu til tx)
 have hwo:iE.length=3:=rfl
 refine sk (sq (sq (rT [1,2,3,4,8,19] (s3 (cd rfl (fun c19=> ?_) fun c19=> ?_)))))
 · have hu: ¬k.up=true:=lF c19
   refine sq (rT [8,9] (s1 (xp (lN k (⟨by omega,fun x hx=>by have:=hlg.2.2.2.2.2 x hx;omega⟩)) (ai rfl ?_))))
   refine s2 (rt ?_)
   have hr:aU k tu til tx=(k,0):=db hok hu
   refine bJ rfl rfl ?_
   rw[hr]<;>rfl
 have hu:k.up=true:=gP c19
 refine sk (sq (rT [1,2,3,4,8,10] (s1 (xp (gK k hl) (ai rfl ?_)))))
 refine s2 (sq (rD [8,10,11,12] (s8 (xp (oW (hG k tu til tx) htx) (ai (by rw[hK];rfl) ?_)))))
 refine ai (by show _≤9223372036854775807;(try simp only[aXz,aX1,aX2]);omega) (xp (dw k (dC iE (hG k tu til tx)) hok (by omega)) (ai rfl ?_))
 refine s6 (ai (by kernel_rfl) (sq (sq (rT [8,10,11,40] (s2 (cd rfl (fun c40=> ?_) fun c40=> ?_))))))
 · have hq: ¬(dM k (dC iE (hG k tu til tx))).2=true:=lF c40
   have hf:=aEb hq
   have hr0:aU k tu til tx=_:=ak hok hq
   refine sq (rT [8,9] (s3 (rt (bJ rfl rfl ?_))))
   rw[hf,hr0]
   rfl
 have hq: (dM k (dC iE (hG k tu til tx))).2=true:=gP c40
 refine sk (sq (rT [8,9] (s4 (rt ?_))))
 have hr:=mj hok hu hq
 refine bJ rfl rfl ?_
 rw[hr,hK]
 rfl
theorem yP (k:aK) (tu til:Int) (tx:List UInt8) (hl:k.log.length≤140737488355328) (htx:tx.length≤140737488355328):Sp 35 4 [tV 0 k.V,tI 1 tu,tI 2 til,tD 3 (.s tx)] [tV 0 (.tup [.agg [.d (.i ((aU k tu til tx).1).id),.d (.b ((aU k tu til tx).1).up),.d (.s ((aU k tu til tx).1).log),.d (.i ((aU k tu til tx).1).forced),.d (.sl (aZ ((aU k tu til tx).1).halves))],.c (.d (.i (aU k tu til tx).2))])]:=by
 refine sb Tryz.func35 rfl (sq (rT [1,2,3,4,8] (s3 (sq (sq (rT [1,2,3,4,8,17] (s1 (xp (iK k hl) (ai rfl ?_)))))))))
 refine s1 (cd rfl (fun c17=> ?_) fun c17=> ?_)
 · have hno: ¬aW k=true:=lF c17
   refine sq (rT [8,9] (s3 (rt ?_)))
   have hr:aU k tu til tx=(.zero,0):=gi hno
   rw[hr]
   exact rq [] [] rfl qz
 have hok:aW k=true:=gP c17
 have hlg:=eA hok
 have hK:=kQ hok
 have h6:=fD (gF hok)
 have hkb:=nK hok
 have hsk:dF k.log k.forced=true:=(eN hlg.1).2.1
 obtain⟨⟨_,htm,hnx,_⟩,_⟩:=(cC _).1 (gF hok)
 have hnl:=mW (hG k tu til tx)
 have hrl:=tR iE (hG k tu til tx)
 have hwo:iE.length=3:=rfl
 refine sk (sq (rT [1,2,3,4,8,10] (s1 (xp (gW k (by omega)) (ai rfl ?_)))))
 refine s6 (sq (rT [4,8,10,12] (s8 (xp (kR (hG k tu til tx) htx) (ai rfl ?_)))))
 refine s1 (sq (sq (rT [4,8,10,12,39] (s4 (y2 (ai pk (cd rfl (fun c39=> ?_) fun c39=> ?_)))))))
 · have hr0:aU k tu til tx=(k,0):=by
    by_cases hu:k.up=true
    · rw[hu] at c39
      exact yk hok (by simpa using c39)
    · exact db hok hu
   refine sq (rT [8,9] (s1 (xp (gH k (⟨by omega,fun x hx=>by have:=hlg.2.2.2.2.2 x hx;omega⟩)) (ai rfl ?_))))
   refine s2 (rt ?_)
   have hr:=hr0
   refine bJ rfl rfl ?_
   rw[hr]<;>rfl
 have hu:k.up=true:=by
  cases hq:k.up with
  |true=>rfl
  |false=>rw[hq] at c39;cases c39
 refine sk (sq (rT [4,8,10,13,14] (s1 (xp (gH k (⟨by omega,fun x hx=>by have:=hlg.2.2.2.2.2 x hx;omega⟩)) (ai rfl ?_)))))
 refine s1 (ai (by show _≤9223372036854775807;(try simp only[aXz,aX1,aX2]);omega) (xp (nM k (dC iE (hG k tu til tx)) true hok (by omega)) (ai rfl ?_)))
 refine s6 (sq (sq (rT [4,8,10,13,51] (s2 (cd rfl (fun c51=> ?_) fun c51=> ?_)))))
 · have hq: ¬(dM k (dC iE (hG k tu til tx))).2=true:=lF c51
   have hr0:aU k tu til tx=_:=ak hok hq
   refine sq (rT [8,9] (s1 (xp (gH k (⟨by omega,fun x hx=>by have:=hlg.2.2.2.2.2 x hx;omega⟩)) (ai rfl ?_))))
   refine s2 (rt ?_)
   have hr:=hr0
   refine bJ rfl rfl ?_
   rw[hr]<;>rfl
 have hq: (dM k (dC iE (hG k tu til tx))).2=true:=gP c51
 refine sk (sq (rD [8,9] (s5 (ai (by kernel_rfl) (rt ?_)))))
 have hr:=mj hok hu hq
 refine bJ rfl rfl ?_
 rw[hr]<;>rfl
theorem qq (k:aK) (f n:Int) (hl:k.log.length≤140737488355328):Sp 37 3 [tV 0 k.V,tI 1 f,tI 2 n] [tV 0 (.tup [.agg [.d (.i ((cS k f n).1).id),.d (.b ((cS k f n).1).up),.d (.s ((cS k f n).1).log),.d (.i ((cS k f n).1).forced),.d (.sl (aZ ((cS k f n).1).halves))],.agg [.d (.i ((cS k f n).2.1).frm),.d (.i ((cS k f n).2.1).num),.d (.i ((cS k f n).2.1).to),.d (.i ((cS k f n).2.1).til),.d (.s ((cS k f n).2.1).text)],.c (.d (.b (cS k f n).2.2))])]:=by
 refine sb Tryz.func37 rfl (sq (rT [1,2,3,6,7] (s4 (sq (sq (rT [1,2,3,6,7,16] (s1 (xp (iK k hl) (ai rfl ?_)))))))))
 refine s1 (cd rfl (fun c16=> ?_) fun c16=> ?_)
 · have hno: ¬aW k=true:=lF c16
   refine sq (rT [6,7,8] (s5 (rt ?_)))
   have hr:cS k f n=(.zero,.zero,false):=aAq hno
   rw[hr]
   exact rq [] [] rfl qz
 have hok:aW k=true:=gP c16
 have hlg:=eA hok
 have hK:=kQ hok
 have h6:=fD (gF hok)
 have hkb:=nK hok
 have hsk:dF k.log k.forced=true:=(eN hlg.1).2.1
 obtain⟨⟨_,htm,hnx,_⟩,_⟩:=(cC _).1 (gF hok)
 refine sk (sq (rT [1,2,3,6,7,9] (s1 (xp (gW k (by omega)) (ai rfl ?_)))))
 refine s6 (sq (rT [1,2,3,6,7,9,11] (s4 (xp (gG (bA k).1.inbox f n (by have:=h6.1;omega)) (ai rfl ?_)))))
 refine s1 (sq (sq (rT [1,2,3,6,7,9,11,35] (s4 (y2 (ai pk (cd rfl (fun c35=> ?_) fun c35=> ?_)))))))
 · have hcn: ¬(k.up=true∧0≤bD (bA k).1.inbox f n):=by
    rintro⟨hu,hp⟩
    rw[hu,decide_eq_false (show ¬bD (bA k).1.inbox f n<0 by omega)] at c35
    cases c35
   have hr0:=aEc hok hcn
   refine sq (rT [6,7,8] (s1 (xp (gH k (⟨by omega,fun x hx=>by have:=hlg.2.2.2.2.2 x hx;omega⟩)) (ai rfl ?_))))
   refine s4 (rt ?_)
   have hr:=hr0
   refine bJ rfl rfl ?_
   rw[hr]<;>rfl
 have hcy:k.up=true∧0≤bD (bA k).1.inbox f n:=by
  have h9:=c35
  skip
  cases hu:k.up with
  |false=>rw[hu] at h9;cases h9
  |true=>
   rw[hu] at h9
   refine⟨rfl,?_⟩
   by_cases hp:bD (bA k).1.inbox f n<0
   · rw[decide_eq_true hp] at h9;cases h9
   · omega
 obtain⟨j,hj,hjl,hjb⟩:=ym hok hcy.2
 have hg:=aX (l:=(bA k).1.inbox) hjl
 have her:aa k f n=lB nI ⟨f,n,((bA k).1.inbox.getD j .zero).til⟩:=by rw[aa,hj,aXy]
 have hrl:=cz (w:=nI) (m:=⟨f,n,((bA k).1.inbox.getD j .zero).til⟩) hjb
 have hwe:nI.length=3:=rfl
 have d1:=bW (k:=6) (n:=f.toNat) (by show _<10000000;omega)
 have d2:=bW (k:=6) (n:=n.toNat) (by show _<10000000;omega)
 have d3:=bW (k:=6) (n:=((bA k).1.inbox.getD j .zero).til.toNat) (by show _<10000000;omega)
 refine sk (sq (rD [3,6,7,9,11,12,13] (s1 (xp (gH k (⟨by omega,fun x hx=>by have:=hlg.2.2.2.2.2 x hx;omega⟩)) (ai rfl ?_)))))
 refine s5 (ai (by rw[hj,aXy,hg];exact⟨⟨by omega,by rw[aH];omega⟩,rfl⟩) (s1 (ai (by rw[hj,aXy,hg];exact⟨aX0 rfl,rfl⟩) (xp (br f n ((bA k).1.inbox.getD j .zero).til hjb) (ai (by rw[hj,aXy,hg];rfl) ?_)))))
 refine ai (by show _≤9223372036854775807;(try simp only[aXz,aX1,aX2]);omega) (xp (nM k (lB nI ⟨f,n,((bA k).1.inbox.getD j .zero).til⟩) true hok (by omega)) (ai rfl ?_))
 refine s6 (ai (by kernel_rfl) (sq (sq (rT [3,6,7,9,11,12,56] (s2 (cd rfl (fun c56=> ?_) fun c56=> ?_))))))
 · have hq: ¬(dM k (aa k f n)).2=true:=by rw[her];exact lF c56
   have hr0:=yl hok hcy hq
   refine sq (rT [6,7,8] (s1 (xp (gH k (⟨by omega,fun x hx=>by have:=hlg.2.2.2.2.2 x hx;omega⟩)) (ai rfl ?_))))
   refine s4 (rt ?_)
   have hr:=hr0
   refine bJ rfl rfl ?_
   rw[hr]<;>rfl
 have hq: (dM k (aa k f n)).2=true:=by rw[her];exact gP c56
 have hr0:=aEd hok hcy hq
 rw[her,hj,aXy] at hr0
 refine sk (sq (rD [6,7,8] (s4 (ai (by rw[hj,aXy,hg];exact⟨⟨by omega,by rw[aH];omega⟩,rfl⟩) (ai (by rw[hj,aXy,hg];exact⟨aX0 rfl,rfl⟩) (s3 (ai (by kernel_rfl) (rt (bJ rfl rfl ?_)))))))))
 rw[hr0,hj,aXy,hg]
 rfl
theorem nf (k:aK) (hl:k.log.length≤140737488355328):Sp 31 1 [tV 0 k.V] [tV 0 (.tup [.agg [.d (.i ((eP k).1).id),.d (.b ((eP k).1).up),.d (.s ((eP k).1).log),.d (.i ((eP k).1).forced),.d (.sl (aZ ((eP k).1).halves))],.c (.d (.b (eP k).2))])]:=by
 refine sb Tryz.func31 rfl (sq (rT [1,2] (s3 (sq (sq (rT [1,2,11] (s1 (xp (iK k hl) (ai rfl ?_)))))))))
 refine s1 (cd rfl (fun c11=> ?_) fun c11=> ?_)
 · have hno: ¬aW k=true:=lF c11
   refine sq (rT [2,3] (s3 (rt ?_)))
   have hr:eP k=(.zero,false):=yn hno
   rw[hr]
   exact rq [] [] rfl qz
 have hok:aW k=true:=gP c11
 have hlg:=eA hok
 have hK:=kQ hok
 have h6:=fD (gF hok)
 have hkb:=nK hok
 have hsk:dF k.log k.forced=true:=(eN hlg.1).2.1
 obtain⟨⟨_,htm,hnx,_⟩,_⟩:=(cC _).1 (gF hok)
 have hrs:=oF (k:=(bA k).1)
 refine sk (sq (rT [1,2,4] (s1 (xp (gH k (⟨by omega,fun x hx=>by have:=hlg.2.2.2.2.2 x hx;omega⟩)) (ai rfl ?_)))))
 refine s2 (sq (rT [1,2,4,5] (s1 (xp (gW k (by omega)) (ai rfl ?_)))))
 refine s6 (sq (rD [1,2,4,7,8] (s3 (xp (bs (bA k).1 hkb) (ai rfl ?_)))))
 refine xp (yO k.log k.forced (eL (bA k).1) (by omega) (by have:=hrs.1;omega) (fun r hr=>by have:=hrs.2 r hr;omega)) (ai rfl ?_)
 refine s6 (ai (by kernel_rfl) (sq (sq (rT [2,4,7,34] (s4 (y2 (ai pk (cd rfl (fun c34=> ?_) fun c34=> ?_))))))))
 · have hr0:eP k=(k,false):=by
    by_cases hu:k.up=true
    · rw[hu] at c34
      exact aAr hok (lF c34)
    · exact tl hok hu
   refine sq (rT [2,3] (s3 (rt ?_)))
   have hr:=hr0
   refine bJ rfl rfl ?_
   rw[hr]<;>rfl
 have hu:k.up=true:=by
  cases hq:k.up with
  |true=>rfl
  |false=>rw[hq] at c34;cases c34
 have hp: (dO k).2=true:=by
  rw[hu] at c34
  exact gP c34
 refine sk (sq (rT [2,4] (s3 (sq (rT [2,3] (s3 (rt ?_)))))))
 have hr:=aAs hok hu hp
 refine bJ rfl rfl ?_
 rw[hr]<;>rfl
theorem aBc (b:Int) (m:iJ) (kn:List (List UInt8)) (hk:bv b kn) (hm:m.data.length=4):Sp 241 3 [tI 0 b,tV 1 m.V,tD 2 (.sl (bF kn))] [tV 0 (.tup [.c (.own 0 (jS kn (cW b m.num)).length),.c (.d (.s (rJ kn m.data (cW b m.num))))]),oR 0 3 1 (dE (jS kn (cW b m.num)))]:=by
 refine sb Tryz.func241 rfl (sq (rT [0,2,4] (s3 (sq (rT [0,2,4,8] (s2 (sq (rT [0,2,4,8,9] (s3 (sq (rT [2,8,9,10] (s3 (xp (na b m.num) (ai rfl ?_))))))))))))))
 refine s1 (sq (sq (rT [2,8,9,10,11] (s1 (bk (SW.loopW (n:=(cW b m.num).length) (fun q s=> ∃i:Nat,q=(cW b m.num).length - i∧i≤(cW b m.num).length∧s=[tD 2 (.sl (bF kn)),tO 8 12 (jS kn ((cW b m.num).take i)).length,tD 9 (.s (rJ kn m.data ((cW b m.num).take i))),tD 10 (.sl (dE (cW b m.num))),tI 11 (i:Nat),oR 12 3 1 (dE (jS kn ((cW b m.num).take i)))]) ?_ ?_))))))
 · refine wq (σ':=[tD 2 (.sl (bF kn)),tO 8 12 (jS kn ((cW b m.num).take 0)).length,tD 9 (.s (rJ kn m.data ((cW b m.num).take 0))),tD 10 (.sl (dE (cW b m.num))),tI 11 (0:Nat),oR 12 3 1 (dE (jS kn ((cW b m.num).take 0)))]) [] [] (⟨0,rfl,aX5 _,rfl⟩) ?_
   repeat' apply ai
   all_goals first|exact qx|rfl|exact qz
 rintro n s ⟨i,rfl,hi,rfl⟩
 refine sq (sq (rT [2,8,9,10,11,22] (s4 (cd rfl (fun c22=> ?_) fun c22=> ?_))))
 · have hi2:i< (cW b m.num).length:=by simp[cM] at c22;omega
   have hml:=lx b m.num
   have hts:=eX (z:=(0:Int)) hi2
   have hio:=gZ (l:=(cW b m.num)) (i:=i) hi2
   have hjr:=wK ((cW b m.num).getD i 0) (dQ hi2)
   have hkl:=hk.1
   have hj3: ((cW b m.num).getD i 0)< (kn.length:Int):=by omega
   have hv:=aR0 (l:=kn) hjr.1 hj3
   have hat:=hk.at (j:=((cW b m.num).getD i 0).toNat) (by omega)
   refine sk (sq (bk (sq (rT [2,8,9,10,11,32] (s3 (ai (by rw[aXy,hio];exact⟨⟨by omega,by rw[cM];omega⟩,rfl⟩) (ai (by rw[aXy,hio];exact⟨aX0 rfl,rfl⟩) (ai (by rw[aXy,hio];exact ixS hjr.1 hj3) (ai (by rw[aXy,hio];exact ldS hjr.1 hj3) (s1 (cd rfl (fun c32=> ?_) fun c32=> ?_)))))))))))
   · have hu:unk kn ((cW b m.num).getD i 0)=true:=by
      have h9:=c32
      rw[aXy,hio] at h9
      have h9: (toS (((bF kn).getD ((cW b m.num).getD i 0).toNat []).getD 0 (.i 0))==[])=true:=h9
      rw[hv] at h9
      unfold unk;rw[beq_iff_eq.1 h9];rfl
     have hL:=yo (ks:=(cW b m.num).take i) hu
     have hX:=aM3 (x:=m.data) (ks:=(cW b m.num).take i) hu
     refine rT [2,8,9,10,11] (s3 (ai (by rw[aXy,hio];exact⟨⟨by omega,by rw[cM];omega⟩,rfl⟩) (ai (by rw[aXy,hio];exact⟨aX0 rfl,rfl⟩) (s1 (ai (by refine⟨rfl,cM _,by simp,?_⟩;have h9: (jS kn ((cW b m.num).take i)).length≤6:=Nat.le_trans (List.length_filter_le _ _) (by rw[aX4];omega);show(_+1)*8≤_;omega) (s1 (rT [2,8,9,10,11] (s3 (wq [] [] (⟨(cW b m.num).length - (i+1),by omega,i+1,rfl,by omega,rfl⟩) ?_)))))))))
     repeat' apply ai
     all_goals first|exact qx|exact aA D.i (by rw[aF (by omega)];omega)|(rw[hts,hL,aXz];rfl)|(rw[hts,hL,aXy,hio];exact oN _ _)|(rw[hts,hL];done)|(rw[hts,hX];done)|(rw[hts,hL,aXz];done)|(simp[cM];done)|(rw[hts,hL];simp[cM];done)|exact qz
   have hne: ¬(kn.getD ((cW b m.num).getD i 0).toNat [])=[]:=by
    have h9:=c32
    rw[aXy,hio] at h9
    have h9: (toS (((bF kn).getD ((cW b m.num).getD i 0).toNat []).getD 0 (.i 0))==[])=false:=h9
    rw[hv] at h9
    exact beq_eq_false_iff_ne.1 h9
   have hu:unk kn ((cW b m.num).getD i 0)=false:=by unfold unk;simpa using hne
   have h4: (kn.getD ((cW b m.num).getD i 0).toNat []).length=4:=by rcases hat with h9|h9;exact absurd (List.eq_nil_of_length_eq_zero h9) hne;exact h9
   have hL:=aAt (ks:=(cW b m.num).take i) hu
   have hX:=aPn (x:=m.data) (ks:=(cW b m.num).take i) hu
   refine rT [2,8,9,10,11] (s4 (ai (by rw[aXy,hio];exact⟨⟨by omega,by rw[cM];omega⟩,rfl⟩) (ai (by rw[aXy,hio];exact⟨aX0 rfl,rfl⟩) (ai (by rw[aXy,hio];exact ixS hjr.1 hj3) (ai (by rw[aXy,hio];exact ldS hjr.1 hj3) (xp (nb (rJ kn m.data ((cW b m.num).take i)) (kn.getD ((cW b m.num).getD i 0).toNat []) (al hm) h4) (ai (by rw[aXy,hio];exact(aA (fun z=>fA 0 [Dv (.s (rJ kn m.data ((cW b m.num).take i))),Dv (.s z)]) hv).symm) ?_)))))))
   refine s1 (rT [2,8,9,10,11] (s3 (wq [] [] (⟨(cW b m.num).length - (i+1),by omega,i+1,rfl,by omega,rfl⟩) ?_)))
   repeat' apply ai
   all_goals first|exact qx|exact aA D.i (by rw[aF (by omega)];omega)|(rw[hts,hL,aXz];rfl)|(rw[hts,hL,aXy,hio];exact oN _ _)|(rw[hts,hL];done)|(rw[hts,hX];done)|(rw[hts,hL,aXz];done)|(simp[cM];done)|(rw[hts,hL];simp[cM];done)|exact qz
 have hi3:i=(cW b m.num).length:=by simp[cM] at c22;omega
 subst hi3
 refine xt (sq (rT [6,7] (s4 (rt ?_))))
 rw[aYe]
 exact eF _ [(0,12)] [] rfl ⟨⟨_,rfl,⟨rfl,rfl,_,_,_,rfl⟩,rfl,trivial⟩,bZ rfl rfl trivial⟩ rfl rfl
theorem aSj (kn:List (List UInt8)) (ks:List Int) (x:List UInt8):nV [tV 0 (.tup [.c (.own 0 (jS kn ks).length),.c (.d (.s (rJ kn x ks)))]),oR 0 3 1 (dE (jS kn ks))]:=by
 intro p hp
 simp at hp
 rcases hp with rfl|rfl
 · first|trivial|(simp[nV];done)|(intro c hc;simp at hc;rcases hc with rfl|rfl<;>trivial)|exact⟨trivial,trivial,trivial⟩
 intro r hr d hd
 obtain⟨y,_,rfl⟩:=aYc.1 hr
 simp at hd;subst hd;trivial
theorem zg (b:Int) (l:List iJ) (hl:l.length≤1000000):Sp 199 2 [tI 0 b,tD 1 (.sl (cN l))] [tD 0 (.sl (bF (eM b l)))]:=by
 refine sb Tryz.func199 rfl (sq (rT [0,1] (s1 (sq (sq (rT [0,1,12] (s1 (xp (dR _ _ _) (ai rfl ?_)))))))))
 refine s1 (cd rfl (fun c12=> ?_) fun c12=> ?_)
 · have hno: ¬iQ b 1 6=true:=by simpa using c12
   refine sq (rT [4] (s2 (rt (eF _ [] [13] rfl (fB rfl rfl rfl ?_ (aA D.sl ?_) trivial) rfl rfl))))
   · rfl
   rw[aJi hno];rfl
 have hin:iQ b 1 6=true:=by simpa using c12
 have hb:1≤b∧b≤6:=by simpa[iQ] using hin
 have hst:=bv.start (b:=b) (by omega)
 refine sk (sq (rT [0,1,5] (s1 (ai (by refine⟨rfl,by omega,?_⟩;show((16:Nat):Int)*_≤_;omega) (s1 (sq (rT [0,1,5,6] (s1 (sq (bk (SW.loopW (n:=uO (List.replicate b.toNat ([]:List UInt8))+1) (fun q s=> ∃(kn:List (List UInt8)) (ag:Bool),q=(if ag then uO kn+1 else 0)∧bv b kn∧(ag=true→sH b l 7 kn=eM b l)∧(ag=false→kn=eM b l)∧s=[tI 0 b,tD 1 (.sl (cN l)),tO 5 15 b.toNat,tB 6 (ag),oR 15 9 1 (bF (kn))]) ?_ ?_)))))))))))
 · refine wq (σ':=[tI 0 b,tD 1 (.sl (cN l)),tO 5 15 b.toNat,tB 6 (true),oR 15 9 1 (bF (List.replicate b.toNat []))]) [] [] (⟨_,true,rfl,hst,fun _=>(aC hin).symm,fun h=>(by cases h),rfl⟩) ?_
   repeat' apply ai
   all_goals first|exact qx|rfl|(simp[bF];done)|exact qz
 rintro n s ⟨kn,ag,rfl,hk,hp1,hp2,rfl⟩
 refine sq (sq (rT [0,1,5,16] (s1 (cd rfl (fun c16=> ?_) fun c16=> ?_))))
 · have hag:ag=true:=c16
   have hgo:=hp1 hag
   refine sk (bk (sq (rT [0,1,5,6] (s1 (sq (rT [0,1,5,6,7] (s1 (bk (SW.loopW (n:=l.length) (fun q s=> ∃i:Nat,q=l.length - i∧i≤l.length∧s=[tI 0 b,tD 1 (.sl (cN l)),tO 5 15 b.toNat,tB 6 (cU b (l.take i) (kn,false)).2,tI 7 (i:Nat),oR 15 9 1 (bF ((cU b (l.take i) (kn,false)).1))]) ?_ ?_)))))))))
   · refine wq (σ':=[tI 0 b,tD 1 (.sl (cN l)),tO 5 15 b.toNat,tB 6 (cU b (l.take 0) (kn,false)).2,tI 7 (0:Nat),oR 15 9 1 (bF ((cU b (l.take 0) (kn,false)).1))]) [] [] (⟨0,rfl,aX5 _,rfl⟩) ?_
     repeat' apply ai
     all_goals first|exact qx|rfl|exact qz
   rintro n s ⟨i,rfl,hi,rfl⟩
   refine sq (sq (rT [0,1,5,6,7,20] (s4 (cd rfl (fun c20=> ?_) fun c20=> ?_))))
   · have hi2:i<l.length:=by simp[bL] at c20;omega
     have hg:=mS (l:=l) hi2
     have hki:=(sI (l:=l.take i) (s:=(kn,false)) hk).1
     have hsn:=ml (b:=b) (m:=(l.getD i .zero)) (l:=l.take i) (s:=(kn,false))
     rw[← eX (z:=iJ.zero) hi2] at hsn
     have hkl:=hki.1
     refine sk (sq (bk (sq (sq (rT [0,1,5,6,7,29] (s3 (ai (by rw[aXy,hg];exact⟨⟨by omega,by rw[bL];omega⟩,rfl⟩) (ai (by rw[aXy,hg];exact⟨aX0 rfl,rfl⟩) (xp (du b (l.getD i .zero)) (ai (by rw[aXy,hg];rfl) ?_))))))))))
     refine s1 (cd rfl (fun c29=> ?_) fun c29=> ?_)
     · have hmx:wO b (l.getD i .zero)=false:=aCw c29
       have hpo:jN b (cU b (l.take i) (kn,false)).1 (l.getD i .zero)=((cU b (l.take i) (kn,false)).1,false):=by unfold jN;rw[hmx];rfl
       rw[hpo] at hsn
       refine xt (rT [0,1,5,6,7] (s3 (wq [] [] (⟨l.length - (i+1),by omega,i+1,rfl,by omega,rfl⟩) ?_)))
       repeat' apply ai
       all_goals first|exact qx|exact aA D.i (by rw[aF (by omega)];omega)|(rw[hsn];done)|(rw[hsn,Bool.or_false];done)|(rw[hsn,Bool.or_true];done)|(rw[hsn];rw[show(0:Int).toNat=0 from rfl,hL0];exact aEe (j:=((jS (cU b (l.take i) (kn,false)).1 (cW b (l.getD i .zero).num)).getD 0 0).toNat) (by omega))|exact qz
     have hmx:wO b (l.getD i .zero)=true:=aCw c29
     have hm4: (l.getD i .zero).data.length=4:=aGy hmx
     refine sk (sq (rT [0,1,5,6,7,8,9] (s3 (ai (by rw[aXy,hg];exact⟨⟨by omega,by rw[bL];omega⟩,rfl⟩) (ai (by rw[aXy,hg];exact⟨aX0 rfl,rfl⟩) (s1 (bP (robj:=[(15,.row 9 1 (bF (cU b (l.take i) (kn,false)).1))]) (rl:=[(0,37)]) (bor:=[15]) (aBc b (l.getD i .zero) (cU b (l.take i) (kn,false)).1 hki hm4) rfl rfl rfl rfl (by refine⟨cQ rfl rfl (eC rfl ?_ (fB rfl rfl rfl (by rw[aP];omega) rfl trivial)),rfl⟩;rw[aXy,hg];exact aG rfl (aG rfl trivial)) rfl (.inr (aSj _ _ _)) (aM ⟨rfl,trivial⟩) (fun j hj=>by(obtain rfl:j=0:=by simpa[kU,cE,iS] using hj);rfl) ?_)))))))
     refine s5 (sq (rT [0,1,5,6,7,8,9,42] (s1 (ai (by exact cM _) (s1 (cd rfl (fun c42=> ?_) fun c42=> ?_))))))
     · have hlen: (jS (cU b (l.take i) (kn,false)).1 (cW b (l.getD i .zero).num)).length=1:=aV1 c42
       have hL0:=gZ (l:=(jS (cU b (l.take i) (kn,false)).1 (cW b (l.getD i .zero).num))) (i:=0) (by omega)
       have hpo:jN b (cU b (l.take i) (kn,false)).1 (l.getD i .zero)=((cU b (l.take i) (kn,false)).1.set ((jS (cU b (l.take i) (kn,false)).1 (cW b (l.getD i .zero).num)).getD 0 0).toNat (rJ (cU b (l.take i) (kn,false)).1 (l.getD i .zero).data (cW b (l.getD i .zero).num)),true):=by unfold jN;rw[hmx,hlen];rfl
       rw[hpo] at hsn
       have hlr:=wK _ (aCv (dQ (z:=(0:Int)) (l:=(jS (cU b (l.take i) (kn,false)).1 (cW b (l.getD i .zero).num))) (i:=0) (by omega))).1
       have hsg:=fZ (l:=(cU b (l.take i) (kn,false)).1) (i:=((jS (cU b (l.take i) (kn,false)).1 (cW b (l.getD i .zero).num)).getD 0 0).toNat) (by omega)
       refine sq (rT [0,1,5,7] (s2 (ai (by exact⟨by rw[cM],by omega,by omega⟩) (ai (by rw[show(0:Int).toNat=0 from rfl,hL0];exact⟨⟨by rw[cM],by omega⟩,aX8 _,rfl⟩) (s1 (ai (by rw[show(0:Int).toNat=0 from rfl,hL0];exact⟨by rw[aP];omega,hlr.1,by have h9: (jS (cU b (l.take i) (kn,false)).1 (cW b (l.getD i .zero).num)).getD 0 0<b:=hlr.2;show(jS (cU b (l.take i) (kn,false)).1 (cW b (l.getD i .zero).num)).getD 0 0< ((b.toNat:Nat):Int);omega⟩) (ai (by rw[show(0:Int).toNat=0 from rfl,hL0];refine⟨by rw[aP];omega,?_⟩;show((jS (cU b (l.take i) (kn,false)).1 (cW b (l.getD i .zero).num)).getD 0 0).toNat<_∧_∧0+_≤((bF (cU b (l.take i) (kn,false)).1).getD ((jS (cU b (l.take i) (kn,false)).1 (cW b (l.getD i .zero).num)).getD 0 0).toNat []).length;rw[hsg];exact⟨by omega,rfl,aX8 _⟩) (rT [0,1,5,6,7] (s1 (rT [0,1,5,6,7] (s3 (wq [] [] (⟨l.length - (i+1),by omega,i+1,rfl,by omega,rfl⟩) ?_))))))))))))
       repeat' apply ai
       all_goals first|exact qx|exact aA D.i (by rw[aF (by omega)];omega)|(rw[hsn];done)|(rw[hsn,Bool.or_false];done)|(rw[hsn,Bool.or_true];done)|(rw[hsn];rw[show(0:Int).toNat=0 from rfl,hL0];exact aEe (j:=((jS (cU b (l.take i) (kn,false)).1 (cW b (l.getD i .zero).num)).getD 0 0).toNat) (by omega))|exact qz
     have hlen: ¬(jS (cU b (l.take i) (kn,false)).1 (cW b (l.getD i .zero).num)).length=1:=aJg c42
     have hpo:jN b (cU b (l.take i) (kn,false)).1 (l.getD i .zero)=((cU b (l.take i) (kn,false)).1,false):=by unfold jN;rw[hmx,beq_eq_false_iff_ne.2 hlen];rfl
     rw[hpo] at hsn
     refine sk (rT [0,1,5,6,7] (s3 (wq [] [] (⟨l.length - (i+1),by omega,i+1,rfl,by omega,rfl⟩) ?_)))
     repeat' apply ai
     all_goals first|exact qx|exact aA D.i (by rw[aF (by omega)];omega)|(rw[hsn];done)|(rw[hsn,Bool.or_false];done)|(rw[hsn,Bool.or_true];done)|(rw[hsn];rw[show(0:Int).toNat=0 from rfl,hL0];exact aEe (j:=((jS (cU b (l.take i) (kn,false)).1 (cW b (l.getD i .zero).num)).getD 0 0).toNat) (by omega))|exact qz
   have hi3:i=l.length:=by simp[bL] at c20;omega
   subst hi3
   clear hi
   refine xt ?_
   rw[aYe]
   cases hrr: (cU b l (kn,false)).2 with
   |true=>
    obtain⟨g1,g2,g3⟩:=aSc hb.2 hk hrr
    refine wk [tI 0 b,tD 1 (.sl (cN l)),tO 5 15 b.toNat,tB 6 (true),oR 15 9 1 (bF ((cU b l (kn,false)).1))] [] [] (⟨_,by rw[hag];simpa using g2,_,true,rfl,g3,fun _=>by rw[← g1];exact hgo,fun h=>(by cases h),rfl⟩) ?_ rfl rfl
    repeat' first|exact trivial|refine lZ rfl ?_|refine cQ rfl ?_ ?_|refine jF rfl rfl ?_ rfl ?_|refine bZ rfl ?_ ?_|refine bY rfl rfl rfl rfl ?_|refine bB rfl ?_ ?_|refine eC rfl ?_ ?_|exact aN|refine aG ?_ ?_|refine jX ?_|refine bU rfl ?_ rfl ?_|refine eO rfl rfl rfl ?_
    all_goals first|with_reducible rfl|(first|with_reducible rfl|(rw[hrr];done))
   |false=>
    have ge:=aPo hrr
    refine wk [tI 0 b,tD 1 (.sl (cN l)),tO 5 15 b.toNat,tB 6 (false),oR 15 9 1 (bF ((cU b l (kn,false)).1))] [] [] (⟨_,by rw[hag];simp,_,false,rfl,(sI (l:=l) (s:=(kn,false)) hk).1,fun h=>(by cases h),fun _=>by rw[← ge];exact hgo,rfl⟩) ?_ rfl rfl
    repeat' first|exact trivial|refine lZ rfl ?_|refine cQ rfl ?_ ?_|refine jF rfl rfl ?_ rfl ?_|refine bZ rfl ?_ ?_|refine bY rfl rfl rfl rfl ?_|refine bB rfl ?_ ?_|refine eC rfl ?_ ?_|exact aN|refine aG ?_ ?_|refine jX ?_|refine bU rfl ?_ rfl ?_|refine eO rfl rfl rfl ?_
    all_goals first|with_reducible rfl|(first|with_reducible rfl|(rw[hrr];done))
 have hag:ag=false:=c16
 have hfin:=hp2 hag
 refine xt (sq (rT [4] (s2 (rt (eF _ [] [15] rfl (fB rfl rfl rfl ?_ (aA D.sl ?_) trivial) rfl rfl)))))
 · rw[aP];have:=hk.1;omega
 rw[hfin]
theorem zh (size:Int) (l:List iJ) (hl:l.length≤1000000):Sp 159 2 [tI 0 size,tD 1 (.sl (cN l))] [tV 0 (.tup [.c (.d (.s (eB size l).1)),.c (.d (.b (eB size l).2))])]:=by
 refine sb Tryz.func159 rfl (sq (rT [0,1] (s2 (sq (sq (rT [0,1,12] (s1 (xp (dR _ _ _) (ai rfl ?_)))))))))
 refine s1 (cd rfl (fun c12=> ?_) fun c12=> ?_)
 · have hno: ¬iQ size 1 24=true:=by simpa using c12
   refine sq (rT [4,5] (s2 (rt ?_)))
   have hr:=aG2 (l:=l) hno
   refine bJ rfl rfl ?_
   rw[hr]<;>rfl
 have hin:iQ size 1 24=true:=by simpa using c12
 have hs2:1≤size∧size≤24:=by simpa[iQ] using hin
 have hko:=aJh (b:=(size+3) / 4) (l:=l) (by omega)
 have hk1:=hko.1
 have hle:=fun i=>aGz hko.2 (i:=i)
 refine sk (sq (rT [0,6] (s1 (xp (pQ size (by omega)) (ai rfl ?_)))))
 refine s1 (xp (zg ((size+3) / 4) l hl) (ai rfl ?_))
 refine s1 (sq (rT [0,6,7] (s1 (sq (sq (rT [0,6,7,8] (s1 (bk (SW.loopW (n:=(eM ((size+3) / 4) l).length) (fun q s=> ∃i:Nat,q=(eM ((size+3) / 4) l).length - i∧i≤(eM ((size+3) / 4) l).length∧(∀j,j<i→((eM ((size+3) / 4) l).getD j []).length≠0)∧s=[tI 0 size,tD 6 (.sl (bF (eM ((size+3) / 4) l))),tD 7 (.s (wP (eM ((size+3) / 4) l) (i))),tI 8 (i:Nat)]) ?_ ?_)))))))))
 · refine wq (σ':=[tI 0 size,tD 6 (.sl (bF (eM ((size+3) / 4) l))),tD 7 (.s (wP (eM ((size+3) / 4) l) (0))),tI 8 (0:Nat)]) [] [] (⟨0,rfl,aX5 _,fun j h=>absurd h (by omega),rfl⟩) ?_
   repeat' apply ai
   all_goals first|exact qx|rfl|exact qz
 rintro n s ⟨i,rfl,hi,hk,rfl⟩
 refine sq (sq (rT [0,6,7,8,20] (s4 (cd rfl (fun c20=> ?_) fun c20=> ?_))))
 · have hi2:i< (eM ((size+3) / 4) l).length:=by simp[aP] at c20;omega
   have hg:=fZ (l:=(eM ((size+3) / 4) l)) hi2
   have hsu:=iy hi2
   have hli:=hle i
   have h4:=hko.at hi2
   refine sk (sq (bk (sq (sq (rT [0,6,7,8,27] (s2 (ai (by rw[aXy,hg];exact⟨⟨by omega,by rw[aP];omega⟩,rfl⟩) (ai (by rw[aXy,hg];exact⟨aX0 rfl,rfl⟩) (s1 (cd rfl (fun c27=> ?_) fun c27=> ?_))))))))))
   · have he: (eM ((size+3) / 4) l).getD i []=[]:=by
      have h9:=c27
      rw[aXy,hg] at h9
      exact beq_iff_eq.1 h9
     refine sq (rT [4,5] (s2 (rt ?_)))
     have hr:=aEh hin (aAu hi2 he)
     refine bJ rfl rfl ?_
     rw[hr]<;>rfl
   have hs: ((eM ((size+3) / 4) l).getD i []).length≠0:=by
    have h9:=c27
    rw[aXy,hg] at h9
    intro e
    rw[List.eq_nil_of_length_eq_zero e] at h9
    exact absurd h9 (by decide)
   refine sk (rT [0,6,7,8] (s3 (ai (by rw[aXy,hg];exact⟨⟨by omega,by rw[aP];omega⟩,rfl⟩) (ai (by rw[aXy,hg];exact⟨aX0 rfl,rfl⟩) (ai (by rw[aXy,hg];show _+((eM ((size+3) / 4) l).getD i []).length≤9223372036854775807;omega) (s1 (rT [0,6,7,8] (s3 (wq [] [] (⟨(eM ((size+3) / 4) l).length - (i+1),by omega,i+1,rfl,by omega,fun j h=>by by_cases e:j=i;exact e▸hs;exact hk j (by omega),rfl⟩) ?_)))))))))
   repeat' apply ai
   all_goals first|exact qx|exact aA D.i (by rw[aF (by omega)];omega)|(rw[hsu,aXy,hg];rfl)|exact qz
 have hi3:i=(eM ((size+3) / 4) l).length:=by simp[aP] at c20;omega
 subst hi3
 have hae:=aEf hk
 have hal:=aG0 hko.2 (aX8 _) hk
 rw[aCx] at hal
 clear hi hk
 refine xt (sq (sq (rT [0,7,9] (s2 (bk (SW.loopW (n:=(rK (eM ((size+3) / 4) l)).length - size.toNat) (fun q s=> ∃i:Nat,q=(rK (eM ((size+3) / 4) l)).length - i∧(size.toNat≤i∧i≤(rK (eM ((size+3) / 4) l)).length)∧(∀j,size.toNat≤j→j<i→(rK (eM ((size+3) / 4) l)).getD j 0=0)∧s=[tI 0 size,tD 7 (.s (rK (eM ((size+3) / 4) l))),tI 9 (i:Nat)]) ?_ ?_))))))
 · have hss:size.toNat≤(rK (eM ((size+3) / 4) l)).length:=by omega
   refine wq [] [] (⟨size.toNat,rfl,by omega,fun j h1 h2=>absurd h1 (by omega),rfl⟩) ?_
   repeat' apply ai
   all_goals first|exact qx|exact aA D.i (by omega)|(rw[aCx];done)|exact qz
 rintro n s ⟨i,rfl,hi,hk,rfl⟩
 refine sq (sq (rT [0,7,9,38] (s4 (cd rfl (fun c38=> ?_) fun c38=> ?_))))
 · have hi2:i< (rK (eM ((size+3) / 4) l)).length:=by simp at c38;omega
   refine sk (sq (bk (sq (rT [0,7,9,44] (s2 (ai (by omega) (s1 (cd rfl (fun c44=> ?_) fun c44=> ?_))))))))
   · have hnz: (rK (eM ((size+3) / 4) l)).getD i 0≠0:=by
      intro e
      have h9:=c44
      rw[aXy,e] at h9
      exact absurd h9 (by decide)
     refine sq (rT [4,5] (s2 (rt ?_)))
     have hr:=aEi hin hae (aEg hi.1 hi2 hnz)
     refine bJ rfl rfl ?_
     rw[hr]<;>rfl
   have hs: (rK (eM ((size+3) / 4) l)).getD i 0=0:=by
    have h9:=c44
    rw[aXy] at h9
    have h11: (((rK (eM ((size+3) / 4) l)).getD i 0).toNat:Int)=0:=by simpa only[bne_eq_false_iff_eq] using h9
    apply UInt8.toNat_inj.1
    have h6: (0:UInt8).toNat=0:=rfl
    omega
   refine sk (rT [0,7,9] (s3 (wq [] [] (⟨(rK (eM ((size+3) / 4) l)).length - (i+1),by omega,i+1,rfl,by omega,fun j h1 h2=>by by_cases e:j=i;exact e▸hs;exact hk j h1 (by omega),rfl⟩) ?_)))
   repeat' apply ai
   all_goals first|exact qx|exact aA D.i (by rw[aF (by omega)];omega)|exact qz
 have hi3:i=(rK (eM ((size+3) / 4) l)).length:=by simp at c38;omega
 have hz:=aG1 (n:=size.toNat) (fun j h1 h2=>hk j h1 (by omega))
 refine xt (sq (rT [4,5] (s2 (ai (by simp[jy,eZ,gB];omega) (s2 (rt ?_))))))
 have hr:=aG3 hin hae hz
 refine bJ rfl rfl ?_
 rw[hr]<;>rfl
theorem dx (f:cI):Sp 98 1 [tV 0 f.V] [tB 0 (eQ f)]:=by
 refine sb Tryz.func98 rfl (sq (rT [1] (s2 (sq (sq (rT [1,42] (s2 (xp (dR _ _ _) (ai rfl ?_)))))))))
 refine s2 (y2 (xc (fun h=>(dX _)) (ai rfl (ai rk ?_))))
 refine y1 (ai pk (s1 (y2 (xc (fun h=>(dX _)) (ai rfl (ai rk ?_))))))
 refine y1 (ai pk (s1 (y2 (xc (fun h=>(dX _)) (ai rfl (ai rk ?_))))))
 refine y1 (ai pk (s1 (y2 (xc (fun h=>(dX _)) (ai rfl (ai rk ?_))))))
 refine y1 (ai pk (s1 (y2 (xc (fun h=>(dR _ _ _)) (ai rfl (ai rk ?_))))))
 refine y1 (ai pk (s1 (y2 (xc (fun h=>(dR _ _ _)) (ai rfl (ai rk ?_))))))
 refine y1 (ai pk (cd rfl (fun c42=> ?_) fun c42=> ?_))
 · refine sq (rT [2] (s1 (rt (bQ rfl (aA D.b (Bool.eq_iff_iff.2 ?_))))))
   simp only[eQ,gb,aX3,Bool.or_eq_false_iff,Bool.not_eq_false,Bool.or_eq_true,Bool.not_eq_true,beq_iff_eq,aD,bne_iff_ne,Bool.not_eq_true,List.length_eq_zero_iff,beq_eq_false_iff_ne,bne_eq_false_iff_eq] at*
   grind[iQ]
 refine sk (sq (sq (rT [1,45] (s3 (cd rfl (fun c45=> ?_) fun c45=> ?_)))))
 · refine sq (rD [2] (s4 (xp (uD _ _) (ai rfl ?_))))
   refine s4 (y3 (ai pk (s1 (y3 (ai pk (s1 (y3 (ai pk (s1 (ai (by kernel_rfl) (rt (bQ rfl (aA D.b (Bool.eq_iff_iff.2 ?_))))))))))))))
   simp only[eQ,gb,aX3,Bool.or_eq_false_iff,Bool.not_eq_false,Bool.or_eq_true,Bool.not_eq_true,beq_iff_eq,aD,bne_iff_ne,Bool.not_eq_true,List.length_eq_zero_iff,beq_eq_false_iff_ne,bne_eq_false_iff_eq] at*
   grind[iQ]
 refine sk (sq (rD [2] (s4 (xp (uD _ _) (ai rfl ?_)))))
 refine s4 (y2 (xc (fun h=>(dR _ _ _)) (ai rfl (ai rk ?_))))
 refine ai pk (s1 (y2 (xc (fun h=>(dR _ _ _)) (ai rfl (ai rk ?_)))))
 refine ai pk (s1 (y4 (ai pk (s1 (ai (by kernel_rfl) (rt (bQ rfl (aA D.b (Bool.eq_iff_iff.2 ?_)))))))))
 simp only[eQ,gb,aX3,Bool.or_eq_false_iff,Bool.not_eq_false,Bool.or_eq_true,Bool.not_eq_true,beq_iff_eq,aD,bne_iff_ne,Bool.not_eq_true,List.length_eq_zero_iff,beq_eq_false_iff_ne,bne_eq_false_iff_eq] at*
 grind[iQ]
theorem bt (l:List UInt8) (hl:l.length≤140737488355328):Sp 282 1 [tD 0 (.sl (aE l))] [tI 0 (fm l l.length:Nat)]:=by
 refine sb Tryz.func282 rfl (sq (rT [0] (s1 (sq (rT [0,3] (s1 (sq (sq (rT [0,3,4] (s1 (bk (SW.loopW (n:=l.length) (fun n s=> ∃i:Nat,n=l.length - i∧i≤l.length∧s=[tD 0 (.sl (aE l)),tI 3 (fm l i:Nat),tI 4 (i:Nat)]) ?_ ?_))))))))))))
 · refine wq (σ':=[tD 0 (.sl (aE l)),tI 3 (0:Nat),tI 4 (0:Nat)]) [] [] (⟨0,rfl,aX5 _,rfl⟩) ?_
   repeat' apply ai
   all_goals first|exact qx|(simp[aY];done)|exact qz
 rintro n s ⟨i,rfl,hi,rfl⟩
 refine sq (sq (rT [0,3,4,8] (s4 (cd rfl (fun c8=> ?_) fun c8=> ?_))))
 · refine sk (sq (bk (rT [0,3,4] (s2 (ai (by decide) (s3 (ai (by have hb:=jQ (l:=l) (i:=i) (by simpa[aY] using c8);refine⟨⟨by omega,by simpa[aY] using c8⟩,?_⟩;simp only[aXy];rw[hb];rfl) (ai (by have hb:=jQ (l:=l) (i:=i) (by simpa[aY] using c8);simp only[aXy];rw[hb];exact⟨aX8 _,rfl⟩) (s3 (ai (by decide) (s1 (rT [0,3,4] (s3 ?_)))))))))))))
   have hi2:i<l.length:=by simpa[aY] using c8
   have hb:=jQ (l:=l) (i:=i) hi2
   refine wq [] [] (⟨l.length - (i+1),by omega,i+1,rfl,by omega,rfl⟩) ?_
   repeat' apply ai
   all_goals first|exact qx|(rw[aXy,hb];exact aA D.i (wd l i))|(rw[hb];exact aA D.i (wd l i))|(exact aA D.i (aF (by omega)))|exact qz
 refine xt (sq (rT [2] (s2 (rt (bQ rfl ?_)))))
 have e:i=l.length:=by simp[aY] at c8;omega
 subst e;rfl
theorem vV (l:List UInt8): ∀r∈aE l,r.length=1:=by
 intro r hr
 obtain⟨b,_,rfl⟩:=aYc.1 hr
 rfl
theorem tF (l:List UInt8) (n:Int) (hl:l.length≤1073741824) (hn:0≤n∧n<65536):Sp 281 2 [tO 0 0 l.length,tI 1 n,oR 0 5 1 (aE l)] [tO 0 0 (l++two n).length,oR 0 5 1 (aE (l++two n))]:=by
 refine sb Tryz.func281 rfl (sq (rT [0,1] (s1 (sq (rT [4] (s8 (ai (by refine⟨rfl,by simp[aY],by simp,?_⟩;show(_+2)*1≤_;omega) (s1 (rt (rq [] [] rfl ?_))))))))))
 repeat' apply ai
 all_goals try exact qx
 all_goals first|(simp[aY,two];done)|(rw[aOw hn,gY])
theorem sK (f:cI):Sp 277 1 [tV 0 f.V] [tO 0 0 (qH f).length,oR 0 5 1 (aE (qH f))]:=by
 refine sb Tryz.func277 rfl (sq (rT [1] (s2 (sq (rT [1,3] (s2 (sq (sq (rT [1,3,7] (s1 (xp (dx _) (ai rfl ?_))))))))))))
 refine s1 (cd rfl (fun c7=> ?_) fun c7=> ?_)
 · refine sq (rT [2] (s2 (rt (rq [(0,4)] [] rfl ?_))))
   repeat' apply ai
   all_goals try exact qx
   all_goals(simp at c7;simp[qH,c7,aE])
 have hok:eQ f=true:=by simpa using c7
 obtain⟨k1,k2,k3,k4,k5,k6,k7,k8⟩:=mO hok
 have hlen:=ko hok
 have hsum:=aDq (fK f) (fK f).length
 refine sk (sq (rT [1,3] (s9 (s9 (s4 (sq (wa [tP 1 1,tO 3 4 (en f).length,oB 1 63 [.d (.i f.kind),.d (.i f.src),.d (.i f.dst),.d (.i f.frm),.d (.i f.num),.d (.i f.to),.d (.i f.til),.d (.i f.size),.d (.i f.mix),.d (.s f.data)],oR 4 5 1 (aE (en f))] [] [] ?_ ?_)))))))
 · repeat' apply ai
   all_goals first|exact qx|exact aDr hok|rfl|exact qz
 refine rT [1,3] (s3 (bP (robj:=[(4,_)]) (rl:=[(0,4)]) (bor:=[]) (tF (en f) f.til (by simp[en]) (by omega)) rfl rfl rfl rfl ⟨jF rfl rfl rfl rfl (cQ rfl rfl (bZ rfl rfl trivial)),rfl⟩ rfl (.inl rfl) (fun p hp=>by simp at hp;subst hp;rfl) (fun _ hj=>nomatch hj) (s1 (sq (sq (wa [tP 1 1,tO 3 4 (lL f).length,oB 1 63 [.d (.i f.kind),.d (.i f.src),.d (.i f.dst),.d (.i f.frm),.d (.i f.num),.d (.i f.to),.d (.i f.til),.d (.i f.size),.d (.i f.mix),.d (.s f.data)],oR 4 5 1 (aE (lL f))] [] [] qz (rT [1,3,36] (s3 (cd rfl (fun c36=> ?_) fun c36=> ?_)))))))))
 · have hk:f.kind=1:=by simpa using c36
   obtain⟨m1,m2,m3⟩:=k8 hk
   refine sq (rT [1,3] (s5 (ai (by refine⟨rfl,aY _,by simp,?_⟩;show(_+1)*1≤_;simp[lL,two]) (s1 (sq (wa [tP 1 1,tO 3 4 (lL f++[b8 f.size]).length,oB 1 63 [.d (.i f.kind),.d (.i f.src),.d (.i f.dst),.d (.i f.frm),.d (.i f.num),.d (.i f.to),.d (.i f.til),.d (.i f.size),.d (.i f.mix),.d (.s f.data)],oR 4 5 1 (aE (lL f++[b8 f.size]))] [] [] ?_ ?_))))))
   · repeat' apply ai
     all_goals first|exact qx|rfl|(simp[aY];done)|(rw[← gY,ii (by omega)];rfl)|exact qz
   refine rT [1,3] (s3 (bP (robj:=[(4,_)]) (rl:=[(0,4)]) (bor:=[]) (tF (lL f++[b8 f.size]) f.mix (by simp[lL,two]) (by omega)) rfl rfl rfl rfl ⟨jF rfl rfl rfl rfl (cQ rfl rfl (bZ rfl rfl trivial)),rfl⟩ rfl (.inl rfl) (fun p hp=>by simp at hp;subst hp;rfl) (fun _ hj=>nomatch hj) (s1 (wa [tP 1 1,tO 3 4 (lL f++[b8 f.size]++two f.mix).length,oB 1 63 [.d (.i f.kind),.d (.i f.src),.d (.i f.dst),.d (.i f.frm),.d (.i f.num),.d (.i f.to),.d (.i f.til),.d (.i f.size),.d (.i f.mix),.d (.s f.data)],oR 4 5 1 (aE (lL f++[b8 f.size]++two f.mix))] [] [] qz (rT [3] (s3 (ai (by rw[m3];decide) (ai (by refine⟨aY _,aY _,vV _,?_⟩;show(_+_)*1≤_;simp[aY,m3,lL,two]) (s1 (sq (wa [tO 3 4 (fK f).length,oR 4 5 1 (aE (fK f))] [] [] ?_ ?_)))))))))))
   · repeat' apply ai
     all_goals first|exact qx|(rw[cm hk];done)|(rw[gY];simp[fK,hk];done)|(simp[fK,hk,aY];omega)|exact qz
   refine rT [2] (s2 (bP (robj:=[(4,.row 5 1 (aE (fK f)))]) (rl:=[]) (bor:=[4]) (bt (fK f) (by omega)) rfl rfl rfl rfl ⟨fB rfl rfl rfl ?_ rfl trivial,rfl⟩ rfl (.inr (wh _)) (fun p hp=>by simp at hp;subst hp;rfl) (fun _ hj=>nomatch hj) ?_))
   · exact aY _
   refine bP (robj:=[(4,_)]) (rl:=[(0,4)]) (bor:=[]) (tF (fK f) (fm (fK f) (fK f).length) (by omega) (by omega)) rfl rfl rfl rfl ⟨jF rfl rfl rfl rfl (cQ rfl rfl (bZ rfl rfl trivial)),rfl⟩ rfl (.inl rfl) (fun p hp=>by simp at hp;subst hp;rfl) (fun _ hj=>nomatch hj) (s1 (rt (rq [(0,4)] [] rfl ?_)))
   repeat' apply ai
   all_goals try exact qx
   all_goals first|(rw[qW,aC hok];done)|(rw[qW,aC hok])
 have hk: ¬f.kind=1:=by simpa using c36
 refine sk (sq (wa [tO 3 4 (fK f).length,oR 4 5 1 (aE (fK f))] [] [] ?_ ?_))
 · repeat' apply ai
   all_goals first|exact qx|(rw[cm hk];done)|(rw[gY];simp[fK,hk];done)|(simp[fK,hk,aY];omega)|exact qz
 refine rT [2] (s2 (bP (robj:=[(4,.row 5 1 (aE (fK f)))]) (rl:=[]) (bor:=[4]) (bt (fK f) (by omega)) rfl rfl rfl rfl ⟨fB rfl rfl rfl ?_ rfl trivial,rfl⟩ rfl (.inr (wh _)) (fun p hp=>by simp at hp;subst hp;rfl) (fun _ hj=>nomatch hj) ?_))
 · exact aY _
 refine bP (robj:=[(4,_)]) (rl:=[(0,4)]) (bor:=[]) (tF (fK f) (fm (fK f) (fK f).length) (by omega) (by omega)) rfl rfl rfl rfl ⟨jF rfl rfl rfl rfl (cQ rfl rfl (bZ rfl rfl trivial)),rfl⟩ rfl (.inl rfl) (fun p hp=>by simp at hp;subst hp;rfl) (fun _ hj=>nomatch hj) (s1 (rt (rq [(0,4)] [] rfl ?_)))
 repeat' apply ai
 all_goals try exact qx
 all_goals first|(rw[qW,aC hok];done)|(rw[qW,aC hok])
theorem jh (l:List UInt8):Sp 267 1 [tD 0 (.sl (aE l))] [tV 0 (.tup [.agg [.d (.i (iA l).kind),.d (.i (iA l).src),.d (.i (iA l).dst),.d (.i (iA l).frm),.d (.i (iA l).num),.d (.i (iA l).to),.d (.i (iA l).til),.d (.i (iA l).size),.d (.i (iA l).mix),.d (.s (iA l).data)],.c (.d (.b (nD l)))])]:=by
 refine sb Tryz.func267 rfl (sq (rT [0,2] (s2 (sq (sq (rT [0,2,12] (s4 (y2 (y1 (ai pk (cd rfl (fun c12=> ?_) fun c12=> ?_)))))))))))
 · have hL:l.length≠10∧l.length≠17:=by simp[aY] at c12;omega
   refine sq (rT [2,3] (s3 (rt (bJ rfl rfl ?_))))
   have hno:nD l=false:=by simp[nD,hL.1,hL.2]
   simp only[iA,hno,Bool.false_eq_true,if_false,ep]
   rfl
 have hL:l.length=10∨l.length=17:=by
  by_cases h9:l.length=10
  · exact .inl h9
  · right;simp[aY] at c12;omega
 refine sk (sq (rD [0,2,4] (s1 (ai (ixB (by omega) (by omega)) (ai (ldB (by omega) (by omega)) (s1 (s1 (ai (ixB (by omega) (by omega)) (ai (ldB (by omega) (by omega)) (s1 (s1 (ai (ixB (by omega) (by omega)) (ai (ldB (by omega) (by omega)) (s1 (s1 (ai (ixB (by omega) (by omega)) (ai (ldB (by omega) (by omega)) (s1 (s1 (ai (ixB (by omega) (by omega)) (ai (ldB (by omega) (by omega)) (s1 (s1 (ai (ixB (by omega) (by omega)) (ai (ldB (by omega) (by omega)) (s1 (s1 (ai (ixB (by omega) (by omega)) (ai (ldB (by omega) (by omega)) (s1 (s2 (ai (ixB (by omega) (by omega)) (ai (ldB (by omega) (by omega)) (s4 (s1 (ai (by kernel_rfl) (sq (sq (rT [0,2,4,51] (s3 (cd rfl (fun c51=> ?_) fun c51=> ?_)))))))))))))))))))))))))))))))))))))))))
 · have h17:l.length=17:=by simp[aY] at c51;omega
   refine sq (rT [0,2,4] (s1 (ai (ixB (by omega) (by omega)) (ai (ldB (by omega) (by omega)) (s1 (s2 (sq (rD [0,2,4] (s1 (ai (ixB (by omega) (by omega)) (ai (ldB (by omega) (by omega)) (s1 (s2 (ai (ixB (by omega) (by omega)) (ai (ldB (by omega) (by omega)) (s4 (ai (by kernel_rfl) (rT [0,2,4] (s1 (ai (by refine⟨by simp[jy,eZ,gB,aY,h17],vV l⟩) (ai (by rw[xB];exact xC l 11 15) (s1 (s1 (sq (sq (wa [tD 0 (.sl (aE l)),tP 2 2,tP 4 4,oB 2 63 [.d (.i 0),.d (.i 0),.d (.i 0),.d (.i 0),.d (.i 0),.d (.i 0),.d (.i 0),.d (.i 0),.d (.i 0),.d (.s [])],oB 4 63 [.d (.i (cZ l).kind),.d (.i (cZ l).src),.d (.i (cZ l).dst),.d (.i (cZ l).frm),.d (.i (cZ l).num),.d (.i (cZ l).to),.d (.i (cZ l).til),.d (.i (cZ l).size),.d (.i (cZ l).mix),.d (.s (cZ l).data)]] [] [] ?_ ?_))))))))))))))))))))))))))
   · repeat' apply ai
     all_goals first|exact qx|(rw[aDt (by decide) (by omega),aDt (by decide) (by omega)];(first|simp only[cZ,aB h17]|simp only[cZ,aC h17]);exact aA D.i (aB2 (kP _ _) (kP _ _)).1)|(rw[aDt (by decide) (by omega)];(first|simp only[cZ,aB h17]|simp only[cZ,aC h17]);first|done|rfl)|((first|simp only[cZ,aB h17]|simp only[cZ,aC h17]);done)|((first|simp only[cZ,aB h17]|simp only[cZ,aC h17]);exact aA D.s (xB _ _ _))|exact qz
   refine rD [2,4,77] (s1 (kr [(0,73)] (sK (cZ l)) rfl rfl rfl rfl rfl rfl rfl (fun j hj=>by(obtain rfl:j=0:=by simpa[kU,cE,iS] using hj);rfl) (ai (by exact⟨aY _,(aA aE (cL _)).symm⟩) (s1 (ai (by exact(aA aE (cL _)).symm) (s1 (ai (by kernel_rfl) (cd rfl (fun c77=> ?_) fun c77=> ?_))))))))
   · refine sq (rT [2,3] (s3 (rt (bJ rfl rfl ?_))))
     have hno:nD l=false:=by(simp[cL] at c77;simp[nD,c77])
     simp only[iA,hno,Bool.false_eq_true,if_false,ep]
     rfl
   refine sk (sq (rT [2,3] (s3 (rt (bJ rfl rfl ?_)))))
   have hyes:nD l=true:=by(simp[cL] at c77;rcases hL with h|h<;>simp[nD,h,c77])
   simp only[iA,hyes,if_true]
   rfl
 have h17: ¬l.length=17:=by simp[aY] at c51;omega
 refine sk (sq (sq (wa [tD 0 (.sl (aE l)),tP 2 2,tP 4 4,oB 2 63 [.d (.i 0),.d (.i 0),.d (.i 0),.d (.i 0),.d (.i 0),.d (.i 0),.d (.i 0),.d (.i 0),.d (.i 0),.d (.s [])],oB 4 63 [.d (.i (cZ l).kind),.d (.i (cZ l).src),.d (.i (cZ l).dst),.d (.i (cZ l).frm),.d (.i (cZ l).num),.d (.i (cZ l).to),.d (.i (cZ l).til),.d (.i (cZ l).size),.d (.i (cZ l).mix),.d (.s (cZ l).data)]] [] [] ?_ ?_)))
 · repeat' apply ai
   all_goals first|exact qx|(rw[aDt (by decide) (by omega),aDt (by decide) (by omega)];(first|simp only[cZ,aB h17]|simp only[cZ,aC h17]);exact aA D.i (aB2 (kP _ _) (kP _ _)).1)|(rw[aDt (by decide) (by omega)];(first|simp only[cZ,aB h17]|simp only[cZ,aC h17]);first|done|rfl)|((first|simp only[cZ,aB h17]|simp only[cZ,aC h17]);done)|((first|simp only[cZ,aB h17]|simp only[cZ,aC h17]);exact aA D.s (xB _ _ _))|exact qz
 refine rD [2,4,77] (s1 (kr [(0,73)] (sK (cZ l)) rfl rfl rfl rfl rfl rfl rfl (fun j hj=>by(obtain rfl:j=0:=by simpa[kU,cE,iS] using hj);rfl) (ai (by exact⟨aY _,(aA aE (cL _)).symm⟩) (s1 (ai (by exact(aA aE (cL _)).symm) (s1 (ai (by kernel_rfl) (cd rfl (fun c77=> ?_) fun c77=> ?_))))))))
 · refine sq (rT [2,3] (s3 (rt (bJ rfl rfl ?_))))
   have hno:nD l=false:=by(simp[cL] at c77;simp[nD,c77])
   simp only[iA,hno,Bool.false_eq_true,if_false,ep]
   rfl
 refine sk (sq (rT [2,3] (s3 (rt (bJ rfl rfl ?_)))))
 have hyes:nD l=true:=by(simp[cL] at c77;rcases hL with h|h<;>simp[nD,h,c77])
 simp only[iA,hyes,if_true]
 rfl
theorem cR (l:List UInt8) (p n:Int) (hp:0≤p∧p≤1000000) (hl:l.length≤2000):Sp 116 2 [tP 0 0,tI 1 n,oB 0 177 [.d (.sl (aE l)),.d (.i (p))]] [tI 0 (bT l p n),oB 0 177 [.d (.sl (aE l)),.d (.i (p+1))]]:=by
 refine sb Tryz.func116 rfl (sq (rT [0,1] (s1 (sq (rT [0,1] (s9 (sq (sq (wa [tP 0 0,tI 1 n,oB 0 177 [.d (.sl (aE l)),.d (.i (p+1))]] [] [] ?_ ?_)))))))))
 · repeat' apply ai
   all_goals first|exact qx|exact aA D.i (aF (by omega))|exact qz
 refine rT [0,1,24] (s3 (y4 (y2 (ai pk (cd rfl (fun c24=> ?_) fun c24=> ?_)))))
 · refine sq (rT [4] (s1 (rt (rq [] [] rfl ?_))))
   repeat' apply ai
   all_goals try exact qx
   all_goals first|with_reducible rfl|skip
   refine aA D.i ?_
   unfold bT
   refine(aC ?_).symm
   by_cases h9:n<1
   · exact .inl h9
   right;simp[h9,aY,gb] at c24;simp[c24]
 have hn:1≤n∧1≤((aE l).length:Int):=by
  by_cases h9:n<1
  · simp[h9] at c24
  · refine⟨by omega,?_⟩;simp[h9,aY,gb] at c24 ⊢; have:=List.length_pos_iff.2 c24;omega
 have hlr:=aY l
 refine sk (sq (rT [0,1,5] (s6 (sq (sq (wa [tP 0 0,tI 1 n,tI 5 p,oB 0 177 [.d (.sl (aE l)),.d (.i (p+1))]] [] [] ?_ ?_))))))
 · repeat' apply ai
   all_goals first|exact qx|((refine aA D.i ?_;rw[aF (by omega)];omega))|exact qz
 refine rT [0,1,5,36] (s7 (cd rfl (fun c36=> ?_) fun c36=> ?_))
 · have hi:p< ((aE l).length:Int):=by simpa using c36
   refine sq (rT [4] (s5 (ai (ixB (by omega) (by omega)) (ai (ldB (by omega) (by omega)) (s2 (ai (by omega) (s1 (rt (rq [] [] rfl ?_)))))))))
   repeat' apply ai
   all_goals try exact qx
   all_goals first|with_reducible rfl|skip
   refine aA D.i ?_
   rw[aDt hp.1 (by omega)]
   unfold bT
   rw[aB (by omega),aC (by omega)]
 have hi: ¬p< ((aE l).length:Int):=by simpa using c36
 refine sk (sq ?_)
 have r1:=oA (x:=p) (n:=((aE l).length:Int)) hp.1 (by omega)
 have r2:=oA (x:=wrap64 (wrap64 (p*7)+3)) (n:=((aE l).length:Int)) (by rw[aF (n:=p*7) (by omega),aF (by omega)];omega) (by omega)
 have r3:=pY (x:=p) (n:=((aE l).length:Int)) hp.1 (by omega)
 refine rD [1,6] (s9 (s1 (ai (by omega) (ai (ixB (by omega) (by omega)) (ai (ldB (by omega) (by omega)) (s9 (s5 (ai (by omega) (ai (ixB (by omega) (by omega)) (ai (ldB (by omega) (by omega)) (s9 (s3 (ai (by omega) (s3 (ai (by kernel_rfl) (sq (rT [1,6] (s2 (ai (by decide) (s2 (sq (rT [4] (s2 (ai (by omega) (s1 (rt (rq [] [] rfl ?_)))))))))))))))))))))))))))
 repeat' apply ai
 all_goals try exact qx
 all_goals first|with_reducible rfl|skip
 refine aA D.i ?_
 rw[aDt r1.1 (by omega),aDt r2.1 (by omega)]
 unfold bT
 rw[aB (by omega),aB (by omega),hlr]
theorem gq (l:List UInt8) (hl:l.length≤140737488355328):Sp 104 1 [tD 0 (.sl (aE l))] [tP 0 0,oB 0 177 [.d (.sl (aE (l.take 2000))),.d (.i (0))]]:=by
 refine sb Tryz.func104 rfl (sq (rT [0] (s1 (sq (sq (rT [0,5] (s3 (cd rfl (fun c5=> ?_) fun c5=> ?_))))))))
 · refine rT [0] (s1 (ai (by refine⟨by simp[jy,eZ,gB,aY] at *; omega,vV l⟩) (s1 (sq (rT [2] (s4 (rt (rq [(0,10)] [] rfl ?_))))))))
   repeat' apply ai
   all_goals try exact qx
   all_goals first|with_reducible rfl|skip
   first|exact aA D.sl (xC l 0 2000)|(refine aA D.sl (aA aE ?_);symm;apply List.take_of_length_le;simp[aY] at c5;omega)
 refine sk (sq (rT [2] (s4 (rt (rq [(0,10)] [] rfl ?_)))))
 repeat' apply ai
 all_goals try exact qx
 all_goals first|with_reducible rfl|skip
 first|exact aA D.sl (xC l 0 2000)|(refine aA D.sl (aA aE ?_);symm;apply List.take_of_length_le;simp[aY] at c5;omega)
theorem aNf (l:List UInt8) (p:Int) (rs:List (List UInt8)) (hr:1≤rs.length) (hp:0≤p∧p≤1000000) (hl:l.length≤2000):tn 168 2 [tP 0 0,tD 1 (.sl (bF rs)),oB 0 177 [.d (.sl (aE l)),.d (.i (p))]] (fun s=> ∃x:List UInt8,x∈rs∧s=[tD 0 (.s x),oB 0 177 [.d (.sl (aE l)),.d (.i (p+1))]]):=by
 have hv:=cG l (p:=p) (n:=((bF rs).length:Int)) hp (by rw[aP];omega)
 have hsl:=aP rs
 refine ul Tryz.func168 rfl (sq (rT [0,1] (s1 (sq (rT [4] (s4 (bP (robj:=[(0,.box 177 [.d (.sl (aE (l))),.d (.i (p))])]) (rl:=[(0,0)]) (bor:=[]) (cR (l) (p) _ (by omega) hl) rfl rfl rfl rfl ⟨bY rfl rfl rfl rfl (cQ rfl rfl (bB rfl (aG rfl (aG rfl aN)) trivial)),rfl⟩ rfl (.inl rfl) (aM ⟨rfl,trivial⟩) (fun _ hj=>nomatch hj) (ai (ixS (by omega) (by omega)) (ai (ldS (by omega) (by omega)) (s1 (rt (cX _ ⟨rs.getD (bT l p ((bF rs).length:Int)).toNat [],?_,rfl⟩ (eF _ [] [] rfl ?_ rfl rfl)))))))))))))
 · rw[aX6,aX9 (by omega)];exact List.getElem_mem _
 refine qs ?_
 repeat' first|exact qx|apply ai
 all_goals first|with_reducible rfl|exact aA D.s (aR0 (by omega) (by omega))
theorem pK (a:List UInt8) (n:Int) (ha:a.length=1) (hn:0≤n∧n≤100000):tn 203 2 [tD 0 (.s a),tI 1 n] (fun s=> ∃x:List UInt8,x.length≤n.toNat∧s=[tD 0 (.s x)]):=by
 refine ul Tryz.func203 rfl (sq (rT [0,1] (s1 (sq (rT [0,1,5] (s1 (sq (bk (SW.loopW (n:=n.toNat) (fun m s=> ∃(x b:List UInt8) (k:Nat),m=k∧(x.length+b.length*k≤n.toNat∧b.length≤2*n.toNat+1∧k≤n.toNat)∧s=[tD 0 (.s b),tI 1 (k),tD 5 (.s x)]) ?_ ?_)))))))))
 · refine wq [] [] (⟨[],a,n.toNat,rfl,⟨by first|(simp[ha];done)|(simp[ha];omega),by omega,by omega⟩,rfl⟩) ?_
   repeat' apply ai
   all_goals first|exact qx|(refine aA D.i ?_;omega)|(simp;done)|exact qz
 rintro n s ⟨x,b,k,hmk,hk,rfl⟩
 refine sq (sq (rT [0,1,5,7] (s2 (cd rfl (fun c7=> ?_) fun c7=> ?_))))
 · have hk1:0<k:=by simpa using c7
   have h11:b.length≤b.length*k:=Nat.le_mul_of_pos_right _ hk1
   refine sk (bk (sq (sq (rT [0,1,5,10] (s1 (ai (by decide) (s1 (cd rfl (fun c10=> ?_) fun c10=> ?_))))))))
   · refine rT [0,1,5] (s2 (ai (by show _≤9223372036854775807;omega) (s1 (sq (rT [0,1,5] (s2 (ai (by show _≤9223372036854775807;omega) (s1 (rT [0,1,5] (s1 (ai (by decide) (s1 ?_))))))))))))
     have hm:Int.tmod (k:Int) 2=((k % 2:Nat):Int):=by rw[Int.tmod_eq_emod_of_nonneg (by omega)];omega
     have hd:Int.tdiv (k:Int) 2=((k / 2:Nat):Int):=by rw[Int.tdiv_eq_ediv_of_nonneg (by omega)];omega
     obtain⟨j,hj⟩: ∃j,k=2*j∨k=2*j+1:=⟨k / 2,by omega⟩
     have h8:b.length*k=2*(b.length*j)∨b.length*k=2*(b.length*j)+b.length:=by
      rcases hj with h|h
      · left;rw[h,Nat.mul_left_comm]
      · right;rw[h,Nat.mul_add,Nat.mul_left_comm,Nat.mul_one]
     have h9: (b++b).length*(k / 2)=2*(b.length*j):=by
      rw[aXz,show k / 2=j by omega,Nat.add_mul];omega
     have h10:b.length≤b.length*k:=Nat.le_mul_of_pos_right _ (by omega)
     first
     |(refine wq [] [] (⟨k / 2,by omega,x++b,b++b,k / 2,rfl,⟨by rw[h9,aXz];have:k % 2=1:=(by simp[hm] at c10;omega);have:=aA (b.length* ·) (show k=2*j+1 by omega);simp only[Nat.mul_add,Nat.mul_one,Nat.mul_left_comm b.length 2 j] at this;omega,by rw[aXz];omega,by omega⟩,rfl⟩) ?_
       repeat' apply ai
       all_goals first|exact qx|(refine aA D.i ?_;rw[hd,aF (by omega)])|exact qz)
     |(refine wq [] [] (⟨k / 2,by omega,x,b++b,k / 2,rfl,⟨by rw[h9];omega,by rw[aXz];omega,by omega⟩,rfl⟩) ?_
       repeat' apply ai
       all_goals first|exact qx|(refine aA D.i ?_;rw[hd,aF (by omega)])|exact qz)
   refine sk (sq (rT [0,1,5] (s2 (ai (by show _≤9223372036854775807;omega) (s1 (rT [0,1,5] (s1 (ai (by decide) (s1 ?_)))))))))
   have hm:Int.tmod (k:Int) 2=((k % 2:Nat):Int):=by rw[Int.tmod_eq_emod_of_nonneg (by omega)];omega
   have hd:Int.tdiv (k:Int) 2=((k / 2:Nat):Int):=by rw[Int.tdiv_eq_ediv_of_nonneg (by omega)];omega
   obtain⟨j,hj⟩: ∃j,k=2*j∨k=2*j+1:=⟨k / 2,by omega⟩
   have h8:b.length*k=2*(b.length*j)∨b.length*k=2*(b.length*j)+b.length:=by
    rcases hj with h|h
    · left;rw[h,Nat.mul_left_comm]
    · right;rw[h,Nat.mul_add,Nat.mul_left_comm,Nat.mul_one]
   have h9: (b++b).length*(k / 2)=2*(b.length*j):=by
    rw[aXz,show k / 2=j by omega,Nat.add_mul];omega
   have h10:b.length≤b.length*k:=Nat.le_mul_of_pos_right _ (by omega)
   first
   |(refine wq [] [] (⟨k / 2,by omega,x++b,b++b,k / 2,rfl,⟨by rw[h9,aXz];have:k % 2=1:=(by simp[hm] at c10;omega);have:=aA (b.length* ·) (show k=2*j+1 by omega);simp only[Nat.mul_add,Nat.mul_one,Nat.mul_left_comm b.length 2 j] at this;omega,by rw[aXz];omega,by omega⟩,rfl⟩) ?_
     repeat' apply ai
     all_goals first|exact qx|(refine aA D.i ?_;rw[hd,aF (by omega)])|exact qz)
   |(refine wq [] [] (⟨k / 2,by omega,x,b++b,k / 2,rfl,⟨by rw[h9];omega,by rw[aXz];omega,by omega⟩,rfl⟩) ?_
     repeat' apply ai
     all_goals first|exact qx|(refine aA D.i ?_;rw[hd,aF (by omega)])|exact qz)
 refine xt (sq (rT [4] (s2 (rt ?_))))
 exact cX _ ⟨x,by omega,rfl⟩ (bQ rfl rfl)
end Go.Proofs.YtmabaopgkimfmaaGreatDoor
namespace Go.Ab
open Int renaming toNat_natCast→aXy
open List renaming length_append→aXz,length_cons→aX1,length_nil→aX2,length_take→aX4,getD_eq_getElem?_getD→aX6,length_drop→aX7,getElem?_eq_getElem→aX9,getElem?_eq_some_iff→aYa,range→aYb,mem_map→aYc,all_eq_true→aYd,take_length→aYe
open Nat renaming le_of_ble_eq_true→aX0,zero_le→aX5,le_refl→aX8
open Bool renaming and_eq_true→aX3
open Go Go.RowKit
set_option linter.unusedVariables false
structure fM where
 tm:Int
 ks:List aK
 ls:List Bool
 a:Nat
 b:Nat
 c:Nat
 d:Nat
def fM.ok (W:fM):Prop:=WOk W.ks W.ls W.a W.b W.c
structure fM.of (W W0:fM) (m:Nat):Prop where
 ok:W.ok
 few:W.d≤W0.d+m
theorem fM.of.refl {W:fM} (h:W.ok):W.of W 0:=⟨h,aX8 _⟩
theorem fM.of.trans {W1 W2 W0:fM} {m n:Nat} (h:W1.of W0 m) (k:W2.of W1 n):W2.of W0 (m+n):=⟨k.ok,by have:=h.few;have:=k.few;omega⟩
theorem fM.of.le {W W0:fM} {m n:Nat} (h:W.of W0 m) (hn:m≤n):W.of W0 n:=⟨h.ok,by have:=h.few;omega⟩
def gU (n:Int):aK:=if eR n then⟨n,true,[],0,[]⟩ else .zero
def rQ (n:Nat):List aK:=(aYb n).map fun i:Nat=>gU (i:Int)
theorem mH (n:Nat): (rQ n).length=n:=by simp[rQ]
theorem aEu (n:Nat):rQ (n+1)=rQ n++[gU (n:Int)]:=by simp[rQ,List.range_succ]
theorem tz (l:List aK) (k:aK):aL l++[k.row]=aL (l++[k]):=by simp[aL]
theorem rR (n:Nat):aL (rQ n)++[(gU (n:Int)).row]=aL (rQ (n+1)):=by rw[aEu,tz]
def yes (n:Nat):List Bool:=List.replicate n true
theorem sL (n:Nat): (yes n).length=n:=by simp[yes]
theorem uT (n:Nat):aQ (yes n)++[[.b true]]=aQ (yes (n+1)):=by
 rw[yes,yes,List.replicate_succ']
 simp[aQ]
theorem wT (n:Int):jp (gU n):=by
 unfold gU
 split
 · exact⟨aX5 _,aX5 _,fun x h=>by cases h⟩
 · exact rM
def fP:fM:=⟨0,rQ 4,yes 3,0,0,0,0⟩
theorem aHd:fP.ok:=⟨mH 4,fun k hk=>by
 obtain⟨i,_,rfl⟩:=aYc.1 hk
 exact wT _,sL 3,aX5 _,aX5 _,aX5 _⟩
set_option linter.unusedSimpArgs false
abbrev R1 (x:Int):Prop:= -1≤x∧x≤1001
def ND (n:bI):Prop:=(R1 n.frm∧R1 n.num∧R1 n.to∧R1 n.til)∧n.text.length≤60
theorem qr {n:Int} (h:R1 n): (mB n).length≤8:=by
 have q1:=bW (k:=6) (n:=(-n).toNat) (by simp;omega)
 have q2:=bW (k:=6) (n:=n.toNat) (by simp;omega)
 unfold mB
 split
 · rw[aX1];omega
 · omega
theorem eJ {l:List Int} {j:Nat} (h: ∀v∈l,R1 v) (hj:j<l.length):R1 (toI (((dE l).getD j []).getD 0 (.i 0))):=by
 rw[gZ hj]
 exact h _ (dQ (z:=0) hj)
def OZ (k:bH):Prop:=dI k=true∨k= .zero
theorem aXw (k:bH) (rec:List UInt8):OZ (cV k rec).1:=by
 by_cases h: (cV k rec).2=true
 · exact .inl (aCp h)
 · unfold cV at h ⊢
   split
   · rename_i hk
     rw[aC hk] at h
     unfold lT at h ⊢
     split
     · rename_i hx;rw[aC hx] at h;exact(h rfl).elim
     · exact .inl hk
   · exact .inr rfl
theorem aPv (n:Int):OZ (dS n):=by
 by_cases h:eR n=true
 · have e:dS n=⟨n,0,1,[],[],[]⟩:=aC h
   rw[e]
   refine .inl ((cC _).2 ⟨⟨h,⟨Int.le_refl _,?_⟩,⟨Int.le_refl _,?_⟩,aX5 _,aX5 _,aX5 _⟩,⟨rfl,rfl,rfl⟩,rfl,rfl,rfl⟩)
   · show(0:Int)≤999;omega
   · show(1:Int)≤100;omega
 · exact .inr (aB h)
end Go.Ab
namespace Go.Proofs.YtmabaopgkimfmaaGreatDoor
open Int renaming toNat_natCast→aXy
open List renaming length_append→aXz,length_cons→aX1,length_nil→aX2,length_take→aX4,getD_eq_getElem?_getD→aX6,length_drop→aX7,getElem?_eq_getElem→aX9,getElem?_eq_some_iff→aYa,range→aYb,mem_map→aYc,all_eq_true→aYd,take_length→aYe
open Nat renaming le_of_ble_eq_true→aX0,zero_le→aX5,le_refl→aX8
open Bool renaming and_eq_true→aX3
open Go Go.Ab Go.RowKit
set_option linter.unusedVariables false
set_option linter.unusedSimpArgs false
set_option maxRecDepth 9000
theorem zi (l:List UInt8) (p:Int) (hp:0≤p∧p≤900000) (hl:l.length≤2000):tn 169 1 [tP 0 0,oB 0 177 [.d (.sl (aE l)),.d (.i (p))]] (fun s=> ∃(x:List UInt8) (q:Int),(p≤q∧q≤p+40∧x.length≤60)∧s=[tD 0 (.s x),oB 0 177 [.d (.sl (aE l)),.d (.i (q))]]):=by
 have hl2:=hl
 refine ul Tryz.func169 rfl (sq (rT [0] (s1 (sq (sq (rT [0,6] (s1 (bP (robj:=[(0,.box 177 [.d (.sl (aE (l))),.d (.i (p))])]) (rl:=[(0,0)]) (bor:=[]) (cR (l) (p) _ (by omega) hl2) rfl rfl rfl rfl ⟨bY rfl rfl rfl rfl (cQ rfl rfl (bB rfl (aG rfl (aG rfl aN)) trivial)),rfl⟩ rfl (.inl rfl) (aM ⟨rfl,trivial⟩) (fun _ hj=>nomatch hj) (bk (sq (rT [0,6,7] (s2 (cd rfl (fun c7=> ?_) fun c7=> ?_)))))))))))))
 · refine sq (rE [2] (s1 (dB (robj:=[]) (rl:=[]) (bor:=[]) (news:=[]) (pK [120] 24 rfl (by omega)) rfl rfl rfl rfl ⟨cQ rfl rfl (cQ rfl rfl (trivial)),rfl⟩ (by rintro _ ⟨x1,hx1,rfl⟩;exact⟨rfl,.inl rfl,fun j hj=>nomatch hj⟩) (fun p hp=>nomatch hp) (fun j hj=>nomatch hj) ?_)))
   rintro _ ⟨x1,hx1,rfl⟩
   refine dB (robj:=[]) (rl:=[]) (bor:=[]) (news:=[]) (pK [121] 25 rfl (by omega)) rfl rfl rfl rfl ⟨cQ rfl rfl (cQ rfl rfl (trivial)),rfl⟩ (by rintro _ ⟨x2,hx2,rfl⟩;exact⟨rfl,.inl rfl,fun j hj=>nomatch hj⟩) (fun p hp=>nomatch hp) (fun j hj=>nomatch hj) ?_
   rintro _ ⟨x2,hx2,rfl⟩
   refine ai (by exact⟨by simp,aX0 rfl⟩) (zG 12 12 rfl rfl rfl rfl (dB (robj:=[(0,.box 177 [.d (.sl (aE (l))),.d (.i (p+1))])]) (rl:=[(0,0)]) (bor:=[]) (news:=[]) (aNf (l) (p+1) (([[],x1,x2,[0,1],[97,10]]:List (List UInt8))) (by simp) (by omega) hl2) rfl rfl rfl rfl ⟨bY rfl rfl rfl rfl (cQ rfl rfl (bB rfl (aG rfl (aG rfl aN)) trivial)),rfl⟩ (by rintro _ ⟨x,hx,rfl⟩;exact⟨rfl,.inl rfl,fun j hj=>nomatch hj⟩) (aM ⟨rfl,trivial⟩) (fun j hj=>nomatch hj) ?_))
   rintro _ ⟨x,hx,rfl⟩
   refine s1 (rt (cX _ ⟨x,p+1+1,⟨by omega,by omega,?_⟩,rfl⟩ (eF _ [] [] rfl ?_ rfl rfl)))
   · simp at hx;rcases hx with rfl|rfl|rfl|rfl|rfl<;>first|omega|(simp;done)
   refine qs ?_
   repeat' first|exact qx|apply ai
   all_goals rfl
 refine sq (rT [0,14] (s2 (cd rfl (fun c14=> ?_) fun c14=> ?_)))
 · refine sq (rT [0,3] (s2 (sq (sq (rT [0,3,4] (s1 (bP (robj:=[(0,.box 177 [.d (.sl (aE (l))),.d (.i (p+1))])]) (rl:=[(0,0)]) (bor:=[]) (cR (l) (p+1) _ (by omega) hl2) rfl rfl rfl rfl ⟨bY rfl rfl rfl rfl (cQ rfl rfl (bB rfl (aG rfl (aG rfl aN)) trivial)),rfl⟩ rfl (.inl rfl) (aM ⟨rfl,trivial⟩) (fun _ hj=>nomatch hj) (s2 (bk ?_)))))))))
   have hv:=cG l (p:=p+1) (n:=20) (by omega) (by omega)
   refine SW.loopW (n:=(wrap64 (1+bT l (p+1) 20)).toNat) (fun m s=> ∃(k q:Int) (b:List UInt8),m=k.toNat∧(0≤k∧k≤20∧p≤q∧q+k≤p+30∧b.length+k≤20)∧s=[tP 0 0,tO 3 16 (b).length,tI 4 (k),oB 0 177 [.d (.sl (aE l)),.d (.i (q))],oR 16 5 1 (aE (b))]) ?_ ?_
   · refine wq (σ':=[tP 0 0,tO 3 16 ([]).length,tI 4 ((wrap64 (1+bT l (p+1) 20))),oB 0 177 [.d (.sl (aE l)),.d (.i (p+1+1))],oR 16 5 1 (aE ([]))]) [] [] (⟨_,p+1+1,[],rfl,⟨by rw[aF (by omega)];omega,by rw[aF (by omega)];omega,by omega,by rw[aF (by omega)];omega,by rw[aF (by omega)];simp;omega⟩,rfl⟩) ?_
     repeat' apply ai
     all_goals first|exact qx|rfl|(simp[aE];done)|exact qz
   rintro n s ⟨k,q,b,rfl,hk,rfl⟩
   refine sq (sq (rT [0,3,4,21] (s2 (cd rfl (fun c21=> ?_) fun c21=> ?_))))
   · have hk1:0<k:=by simpa using c21
     refine sk (sq (bk (rT [0,3,4] (s2 (bP (robj:=[(0,.box 177 [.d (.sl (aE (l))),.d (.i (q))])]) (rl:=[(0,0)]) (bor:=[]) (cR (l) (q) _ (by omega) hl2) rfl rfl rfl rfl ⟨bY rfl rfl rfl rfl (cQ rfl rfl (bB rfl (aG rfl (aG rfl aN)) trivial)),rfl⟩ rfl (.inl rfl) (aM ⟨rfl,trivial⟩) (fun _ hj=>nomatch hj) (s2 (ai (by refine⟨rfl,aY _,by simp,?_⟩;show(_+1)*1≤_;omega) (s1 (rT [0,3,4] (s3 (wq [] [] (⟨(k - 1).toNat,by omega,k - 1,q+1,b++[u8 (bT l q 256)],rfl,⟨by omega,by omega,by omega,by omega,by rw[aXz];simp;omega⟩,rfl⟩) ?_)))))))))))
     repeat' apply ai
     all_goals first|exact qx|exact aB3 _ _|(simp[aY];done)|exact aA D.i (aF (by omega))|exact qz
   refine xt (sq (rT [2] (s1 (ai (by exact⟨aY _,(aA aE (cL _)).symm⟩) (s1 (rt (cX _ ⟨b,q,⟨by omega,by omega,by omega⟩,rfl⟩ (eF _ [] [] rfl ?_ rfl rfl))))))))
   refine qs ?_
   repeat' first|exact qx|apply ai
   all_goals first|with_reducible rfl|exact aA D.s (cL b)
 refine sk (sq (rE [2] (s1 (ai (by exact⟨by simp,by decide⟩) (zG 33 33 rfl rfl rfl rfl (dB (robj:=[(0,.box 177 [.d (.sl (aE (l))),.d (.i (p+1))])]) (rl:=[(0,0)]) (bor:=[]) (news:=[]) (aNf (l) (p+1) (([[97],[97,98,99,100],[104,101,108,108,111],[49,50,51,52,53,54,55,56],[97,32,108,111,110,103,101,114,32,109,101,115,115,97,103,101],[106,117,115,116,32,116,119,101,110,116,121,45,102,111,117,114,32,98,121,116,101,115,32,33],[109,105,120,101,100,32,98,108,111,99,107,115],[102,111,117,114,32,119,111,114,100,115,32,111,102,32,97,32,116,101,120,116]]:List (List UInt8))) (by simp) (by omega) hl2) rfl rfl rfl rfl ⟨bY rfl rfl rfl rfl (cQ rfl rfl (bB rfl (aG rfl (aG rfl aN)) trivial)),rfl⟩ (by rintro _ ⟨x,hx,rfl⟩;exact⟨rfl,.inl rfl,fun j hj=>nomatch hj⟩) (aM ⟨rfl,trivial⟩) (fun j hj=>nomatch hj) ?_))))))
 rintro _ ⟨x,hx,rfl⟩
 refine s1 (rt (cX _ ⟨x,p+1+1,⟨by omega,by omega,?_⟩,rfl⟩ (eF _ [] [] rfl ?_ rfl rfl)))
 · have hall: ∀y∈([[97],[97,98,99,100],[104,101,108,108,111],[49,50,51,52,53,54,55,56],[97,32,108,111,110,103,101,114,32,109,101,115,115,97,103,101],[106,117,115,116,32,116,119,101,110,116,121,45,102,111,117,114,32,98,121,116,101,115,32,33],[109,105,120,101,100,32,98,108,111,99,107,115],[102,111,117,114,32,119,111,114,100,115,32,111,102,32,97,32,116,101,120,116]]:List (List UInt8)),y.length≤60:=by decide
   exact hall x hx
 refine qs ?_
 repeat' first|exact qx|apply ai
 all_goals rfl
theorem dy (l:List UInt8) (p:Int) (hp:0≤p∧p≤800000) (hl:l.length≤2000):tn 106 1 [tP 0 0,oB 0 177 [.d (.sl (aE l)),.d (.i (p))]] (fun s=> ∃(n:bI) (q:Int),ND n∧(p≤q∧q≤p+60)∧s=[tV 0 (.e (.agg [.d (.i n.frm),.d (.i n.num),.d (.i n.to),.d (.i n.til),.d (.s n.text)])),oB 0 177 [.d (.sl (aE l)),.d (.i (q))]]):=by
 have pv0:=cG l (p:=p) (n:=4) (by omega) (by omega)
 have pv1:=cG l (p:=p+1) (n:=5) (by omega) (by omega)
 have pv2:=cG l (p:=p+1+1) (n:=4) (by omega) (by omega)
 have pv3:=cG l (p:=p+1+1+1) (n:=30) (by omega) (by omega)
 have hl2:=hl
 have hall: ∀y∈([[97],[104,101,108,108,111],[97,32,108,111,110,103,101,114,32,109,101,115,115,97,103,101],[32,120,32],[106,117,115,116,32,116,119,101,110,116,121,45,102,111,117,114,32,98,121,116,101,115,32,33]]:List (List UInt8)),y.length≤60:=by decide
 refine ul Tryz.func106 rfl (sq (rT [0,2] (s1 (sq (rE [0,2,3] (s1 (iO (bP (robj:=[(0,.box 177 [.d (.sl (aE (l))),.d (.i (p))])]) (rl:=[(0,0)]) (bor:=[]) (cR (l) (p) _ (by omega) hl2) rfl rfl rfl rfl ⟨bY rfl rfl rfl rfl (cQ rfl rfl (bB rfl (aG rfl (aG rfl aN)) trivial)),rfl⟩ rfl (.inl rfl) (aM ⟨rfl,trivial⟩) (fun _ hj=>nomatch hj) (s1 (iO (bP (robj:=[(0,.box 177 [.d (.sl (aE (l))),.d (.i (p+1))])]) (rl:=[(0,0)]) (bor:=[]) (cR (l) (p+1) _ (by omega) hl2) rfl rfl rfl rfl ⟨bY rfl rfl rfl rfl (cQ rfl rfl (bB rfl (aG rfl (aG rfl aN)) trivial)),rfl⟩ rfl (.inl rfl) (aM ⟨rfl,trivial⟩) (fun _ hj=>nomatch hj) (s2 (iO (bP (robj:=[(0,.box 177 [.d (.sl (aE (l))),.d (.i (p+1+1))])]) (rl:=[(0,0)]) (bor:=[]) (cR (l) (p+1+1) _ (by omega) hl2) rfl rfl rfl rfl ⟨bY rfl rfl rfl rfl (cQ rfl rfl (bB rfl (aG rfl (aG rfl aN)) trivial)),rfl⟩ rfl (.inl rfl) (aM ⟨rfl,trivial⟩) (fun _ hj=>nomatch hj) ?_))))))))))))))
 refine s1 (iO (bP (robj:=[(0,.box 177 [.d (.sl (aE (l))),.d (.i (p+1+1+1))])]) (rl:=[(0,0)]) (bor:=[]) (cR (l) (p+1+1+1) _ (by omega) hl2) rfl rfl rfl rfl ⟨bY rfl rfl rfl rfl (cQ rfl rfl (bB rfl (aG rfl (aG rfl aN)) trivial)),rfl⟩ rfl (.inl rfl) (aM ⟨rfl,trivial⟩) (fun _ hj=>nomatch hj) (s2 (ai (by exact⟨by simp,by decide⟩) (zG 15 15 rfl rfl rfl rfl (dB (robj:=[(0,.box 177 [.d (.sl (aE (l))),.d (.i (p+1+1+1+1))])]) (rl:=[(0,0)]) (bor:=[]) (news:=[]) (aNf (l) (p+1+1+1+1) (([[97],[104,101,108,108,111],[97,32,108,111,110,103,101,114,32,109,101,115,115,97,103,101],[32,120,32],[106,117,115,116,32,116,119,101,110,116,121,45,102,111,117,114,32,98,121,116,101,115,32,33]]:List (List UInt8))) (by simp) (by omega) hl2) rfl rfl rfl rfl ⟨bY rfl rfl rfl rfl (cQ rfl rfl (bB rfl (aG rfl (aG rfl aN)) trivial)),rfl⟩ (by rintro _ ⟨x,hx,rfl⟩;exact⟨rfl,.inl rfl,fun j hj=>nomatch hj⟩) (aM ⟨rfl,trivial⟩) (fun j hj=>nomatch hj) ?_))))))
 rintro _ ⟨x,hx,rfl⟩
 refine s3 (sq (sq (rT [0,2,3,19] (s1 (bP (robj:=[(0,.box 177 [.d (.sl (aE (l))),.d (.i (p+1+1+1+1+1))])]) (rl:=[(0,0)]) (bor:=[]) (cR (l) (p+1+1+1+1+1) _ (by omega) hl2) rfl rfl rfl rfl ⟨bY rfl rfl rfl rfl (cQ rfl rfl (bB rfl (aG rfl (aG rfl aN)) trivial)),rfl⟩ rfl (.inl rfl) (aM ⟨rfl,trivial⟩) (fun _ hj=>nomatch hj) (bk (sq (rT [0,2,3,19,20] (s2 (cd rfl (fun c20=> ?_) fun c20=> ?_))))))))))
 · have hv:=cG l (p:=p+1+1+1+1+1+1) (n:=2) (by omega) (by omega)
   refine rT [2,3] (ai (by exact⟨by simp,by decide⟩) (s1 (bP (robj:=[(0,.box 177 [.d (.sl (aE (l))),.d (.i (p+1+1+1+1+1+1))])]) (rl:=[(0,0)]) (bor:=[]) (cR (l) (p+1+1+1+1+1+1) _ (by omega) hl2) rfl rfl rfl rfl ⟨bY rfl rfl rfl rfl (cQ rfl rfl (bB rfl (aG rfl (aG rfl aN)) trivial)),rfl⟩ rfl (.inl rfl) (aM ⟨rfl,trivial⟩) (fun _ hj=>nomatch hj) (ai ⟨rfl,hv.1,hv.2⟩ (ai (aF2 (l:=[-1,4]) (by simp;omega) rfl) (s2 (sq (rT [2] (s2 (rt ?_))))))))))
   first
    |(refine cX _ ⟨⟨?za1,?zb1,?zc1,?zd1,x⟩,p+1+1+1+1+1+1+1,?zn1,⟨by omega,by omega⟩,rfl⟩ (eF _ [] [] rfl ?_ rfl rfl)
      repeat' first|exact trivial|refine lZ rfl ?_|refine cQ rfl ?_ ?_|refine jF rfl rfl ?_ rfl ?_|refine bZ rfl ?_ ?_|refine bY rfl rfl rfl rfl ?_|refine bB rfl ?_ ?_|refine eC rfl ?_ ?_|exact aN|refine aG ?_ ?_|refine jX ?_|refine bU rfl ?_ rfl ?_|refine eO rfl rfl rfl ?_
      try any_goals with_reducible rfl
      try any_goals rfl
      refine⟨⟨?_,?_,?_,?_⟩,?_⟩
      all_goals(try dsimp only)
      all_goals first|exact hall x hx|omega|(refine⟨?_,?_⟩<;>rw[aF (by omega)]<;>omega)|exact eJ (l:=[-1,4]) (j:=(bT l (p+1+1+1+1+1+1) 2).toNat) (by decide) (by simp;omega)|exact eJ (l:=[0,99,100]) (j:=(bT l (p+1+1+1+1+1+1) 3).toNat) (by decide) (by simp;omega)|exact eJ (l:=[0,999,1000]) (j:=(bT l (p+1+1+1+1+1+1) 3).toNat) (by decide) (by simp;omega)
      done)
    |(refine cX _ ⟨⟨?za1,?zb1,?zc1,?zd1,x⟩,p+1+1+1+1+1+1,?zn1,⟨by omega,by omega⟩,rfl⟩ (eF _ [] [] rfl ?_ rfl rfl)
      repeat' first|exact trivial|refine lZ rfl ?_|refine cQ rfl ?_ ?_|refine jF rfl rfl ?_ rfl ?_|refine bZ rfl ?_ ?_|refine bY rfl rfl rfl rfl ?_|refine bB rfl ?_ ?_|refine eC rfl ?_ ?_|exact aN|refine aG ?_ ?_|refine jX ?_|refine bU rfl ?_ rfl ?_|refine eO rfl rfl rfl ?_
      try any_goals with_reducible rfl
      try any_goals rfl
      refine⟨⟨?_,?_,?_,?_⟩,?_⟩
      all_goals(try dsimp only)
      all_goals first|exact hall x hx|omega|(refine⟨?_,?_⟩<;>rw[aF (by omega)]<;>omega)|exact eJ (l:=[-1,4]) (j:=(bT l (p+1+1+1+1+1+1) 2).toNat) (by decide) (by simp;omega)|exact eJ (l:=[0,99,100]) (j:=(bT l (p+1+1+1+1+1+1) 3).toNat) (by decide) (by simp;omega)|exact eJ (l:=[0,999,1000]) (j:=(bT l (p+1+1+1+1+1+1) 3).toNat) (by decide) (by simp;omega)
      done)
    |(refine cX _ ⟨⟨?za1,?zb1,?zc1,?zd1,y⟩,q,?zn1,⟨by omega,by omega⟩,rfl⟩ (eF _ [] [] rfl ?_ rfl rfl)
      repeat' first|exact trivial|refine lZ rfl ?_|refine cQ rfl ?_ ?_|refine jF rfl rfl ?_ rfl ?_|refine bZ rfl ?_ ?_|refine bY rfl rfl rfl rfl ?_|refine bB rfl ?_ ?_|refine eC rfl ?_ ?_|exact aN|refine aG ?_ ?_|refine jX ?_|refine bU rfl ?_ rfl ?_|refine eO rfl rfl rfl ?_
      try any_goals with_reducible rfl
      try any_goals rfl
      refine⟨⟨?_,?_,?_,?_⟩,?_⟩
      all_goals(try dsimp only)
      all_goals first|exact hq.2.2|omega|(refine⟨?_,?_⟩<;>rw[aF (by omega)]<;>omega)|exact eJ (l:=[-1,4]) (j:=(bT l (p+1+1+1+1+1+1) 2).toNat) (by decide) (by simp;omega)|exact eJ (l:=[0,99,100]) (j:=(bT l (p+1+1+1+1+1+1) 3).toNat) (by decide) (by simp;omega)|exact eJ (l:=[0,999,1000]) (j:=(bT l (p+1+1+1+1+1+1) 3).toNat) (by decide) (by simp;omega)
      done)
 refine sq (rT [0,2,3,19,28] (s2 (cd rfl (fun c28=> ?_) fun c28=> ?_)))
 · have hv:=cG l (p:=p+1+1+1+1+1+1) (n:=3) (by omega) (by omega)
   refine rT [2,3] (ai (by exact⟨by simp,by decide⟩) (s1 (bP (robj:=[(0,.box 177 [.d (.sl (aE (l))),.d (.i (p+1+1+1+1+1+1))])]) (rl:=[(0,0)]) (bor:=[]) (cR (l) (p+1+1+1+1+1+1) _ (by omega) hl2) rfl rfl rfl rfl ⟨bY rfl rfl rfl rfl (cQ rfl rfl (bB rfl (aG rfl (aG rfl aN)) trivial)),rfl⟩ rfl (.inl rfl) (aM ⟨rfl,trivial⟩) (fun _ hj=>nomatch hj) (ai ⟨rfl,hv.1,hv.2⟩ (ai (aF2 (l:=[0,99,100]) (by simp;omega) rfl) (s2 (sq (rT [2] (s2 (rt ?_))))))))))
   first
    |(refine cX _ ⟨⟨?za2,?zb2,?zc2,?zd2,x⟩,p+1+1+1+1+1+1+1,?zn2,⟨by omega,by omega⟩,rfl⟩ (eF _ [] [] rfl ?_ rfl rfl)
      repeat' first|exact trivial|refine lZ rfl ?_|refine cQ rfl ?_ ?_|refine jF rfl rfl ?_ rfl ?_|refine bZ rfl ?_ ?_|refine bY rfl rfl rfl rfl ?_|refine bB rfl ?_ ?_|refine eC rfl ?_ ?_|exact aN|refine aG ?_ ?_|refine jX ?_|refine bU rfl ?_ rfl ?_|refine eO rfl rfl rfl ?_
      try any_goals with_reducible rfl
      try any_goals rfl
      refine⟨⟨?_,?_,?_,?_⟩,?_⟩
      all_goals(try dsimp only)
      all_goals first|exact hall x hx|omega|(refine⟨?_,?_⟩<;>rw[aF (by omega)]<;>omega)|exact eJ (l:=[-1,4]) (j:=(bT l (p+1+1+1+1+1+1) 2).toNat) (by decide) (by simp;omega)|exact eJ (l:=[0,99,100]) (j:=(bT l (p+1+1+1+1+1+1) 3).toNat) (by decide) (by simp;omega)|exact eJ (l:=[0,999,1000]) (j:=(bT l (p+1+1+1+1+1+1) 3).toNat) (by decide) (by simp;omega)
      done)
    |(refine cX _ ⟨⟨?za2,?zb2,?zc2,?zd2,x⟩,p+1+1+1+1+1+1,?zn2,⟨by omega,by omega⟩,rfl⟩ (eF _ [] [] rfl ?_ rfl rfl)
      repeat' first|exact trivial|refine lZ rfl ?_|refine cQ rfl ?_ ?_|refine jF rfl rfl ?_ rfl ?_|refine bZ rfl ?_ ?_|refine bY rfl rfl rfl rfl ?_|refine bB rfl ?_ ?_|refine eC rfl ?_ ?_|exact aN|refine aG ?_ ?_|refine jX ?_|refine bU rfl ?_ rfl ?_|refine eO rfl rfl rfl ?_
      try any_goals with_reducible rfl
      try any_goals rfl
      refine⟨⟨?_,?_,?_,?_⟩,?_⟩
      all_goals(try dsimp only)
      all_goals first|exact hall x hx|omega|(refine⟨?_,?_⟩<;>rw[aF (by omega)]<;>omega)|exact eJ (l:=[-1,4]) (j:=(bT l (p+1+1+1+1+1+1) 2).toNat) (by decide) (by simp;omega)|exact eJ (l:=[0,99,100]) (j:=(bT l (p+1+1+1+1+1+1) 3).toNat) (by decide) (by simp;omega)|exact eJ (l:=[0,999,1000]) (j:=(bT l (p+1+1+1+1+1+1) 3).toNat) (by decide) (by simp;omega)
      done)
    |(refine cX _ ⟨⟨?za2,?zb2,?zc2,?zd2,y⟩,q,?zn2,⟨by omega,by omega⟩,rfl⟩ (eF _ [] [] rfl ?_ rfl rfl)
      repeat' first|exact trivial|refine lZ rfl ?_|refine cQ rfl ?_ ?_|refine jF rfl rfl ?_ rfl ?_|refine bZ rfl ?_ ?_|refine bY rfl rfl rfl rfl ?_|refine bB rfl ?_ ?_|refine eC rfl ?_ ?_|exact aN|refine aG ?_ ?_|refine jX ?_|refine bU rfl ?_ rfl ?_|refine eO rfl rfl rfl ?_
      try any_goals with_reducible rfl
      try any_goals rfl
      refine⟨⟨?_,?_,?_,?_⟩,?_⟩
      all_goals(try dsimp only)
      all_goals first|exact hq.2.2|omega|(refine⟨?_,?_⟩<;>rw[aF (by omega)]<;>omega)|exact eJ (l:=[-1,4]) (j:=(bT l (p+1+1+1+1+1+1) 2).toNat) (by decide) (by simp;omega)|exact eJ (l:=[0,99,100]) (j:=(bT l (p+1+1+1+1+1+1) 3).toNat) (by decide) (by simp;omega)|exact eJ (l:=[0,999,1000]) (j:=(bT l (p+1+1+1+1+1+1) 3).toNat) (by decide) (by simp;omega)
      done)
 refine sq (rT [0,2,3,19,36] (s2 (cd rfl (fun c36=> ?_) fun c36=> ?_)))
 · have hv:=cG l (p:=p+1+1+1+1+1+1) (n:=3) (by omega) (by omega)
   refine rT [2,3] (ai (by exact⟨by simp,by decide⟩) (s1 (bP (robj:=[(0,.box 177 [.d (.sl (aE (l))),.d (.i (p+1+1+1+1+1+1))])]) (rl:=[(0,0)]) (bor:=[]) (cR (l) (p+1+1+1+1+1+1) _ (by omega) hl2) rfl rfl rfl rfl ⟨bY rfl rfl rfl rfl (cQ rfl rfl (bB rfl (aG rfl (aG rfl aN)) trivial)),rfl⟩ rfl (.inl rfl) (aM ⟨rfl,trivial⟩) (fun _ hj=>nomatch hj) (ai ⟨rfl,hv.1,hv.2⟩ (ai (aF2 (l:=[0,999,1000]) (by simp;omega) rfl) (s2 (sq (rT [2] (s2 (rt ?_))))))))))
   first
    |(refine cX _ ⟨⟨?za3,?zb3,?zc3,?zd3,x⟩,p+1+1+1+1+1+1+1,?zn3,⟨by omega,by omega⟩,rfl⟩ (eF _ [] [] rfl ?_ rfl rfl)
      repeat' first|exact trivial|refine lZ rfl ?_|refine cQ rfl ?_ ?_|refine jF rfl rfl ?_ rfl ?_|refine bZ rfl ?_ ?_|refine bY rfl rfl rfl rfl ?_|refine bB rfl ?_ ?_|refine eC rfl ?_ ?_|exact aN|refine aG ?_ ?_|refine jX ?_|refine bU rfl ?_ rfl ?_|refine eO rfl rfl rfl ?_
      try any_goals with_reducible rfl
      try any_goals rfl
      refine⟨⟨?_,?_,?_,?_⟩,?_⟩
      all_goals(try dsimp only)
      all_goals first|exact hall x hx|omega|(refine⟨?_,?_⟩<;>rw[aF (by omega)]<;>omega)|exact eJ (l:=[-1,4]) (j:=(bT l (p+1+1+1+1+1+1) 2).toNat) (by decide) (by simp;omega)|exact eJ (l:=[0,99,100]) (j:=(bT l (p+1+1+1+1+1+1) 3).toNat) (by decide) (by simp;omega)|exact eJ (l:=[0,999,1000]) (j:=(bT l (p+1+1+1+1+1+1) 3).toNat) (by decide) (by simp;omega)
      done)
    |(refine cX _ ⟨⟨?za3,?zb3,?zc3,?zd3,x⟩,p+1+1+1+1+1+1,?zn3,⟨by omega,by omega⟩,rfl⟩ (eF _ [] [] rfl ?_ rfl rfl)
      repeat' first|exact trivial|refine lZ rfl ?_|refine cQ rfl ?_ ?_|refine jF rfl rfl ?_ rfl ?_|refine bZ rfl ?_ ?_|refine bY rfl rfl rfl rfl ?_|refine bB rfl ?_ ?_|refine eC rfl ?_ ?_|exact aN|refine aG ?_ ?_|refine jX ?_|refine bU rfl ?_ rfl ?_|refine eO rfl rfl rfl ?_
      try any_goals with_reducible rfl
      try any_goals rfl
      refine⟨⟨?_,?_,?_,?_⟩,?_⟩
      all_goals(try dsimp only)
      all_goals first|exact hall x hx|omega|(refine⟨?_,?_⟩<;>rw[aF (by omega)]<;>omega)|exact eJ (l:=[-1,4]) (j:=(bT l (p+1+1+1+1+1+1) 2).toNat) (by decide) (by simp;omega)|exact eJ (l:=[0,99,100]) (j:=(bT l (p+1+1+1+1+1+1) 3).toNat) (by decide) (by simp;omega)|exact eJ (l:=[0,999,1000]) (j:=(bT l (p+1+1+1+1+1+1) 3).toNat) (by decide) (by simp;omega)
      done)
    |(refine cX _ ⟨⟨?za3,?zb3,?zc3,?zd3,y⟩,q,?zn3,⟨by omega,by omega⟩,rfl⟩ (eF _ [] [] rfl ?_ rfl rfl)
      repeat' first|exact trivial|refine lZ rfl ?_|refine cQ rfl ?_ ?_|refine jF rfl rfl ?_ rfl ?_|refine bZ rfl ?_ ?_|refine bY rfl rfl rfl rfl ?_|refine bB rfl ?_ ?_|refine eC rfl ?_ ?_|exact aN|refine aG ?_ ?_|refine jX ?_|refine bU rfl ?_ rfl ?_|refine eO rfl rfl rfl ?_
      try any_goals with_reducible rfl
      try any_goals rfl
      refine⟨⟨?_,?_,?_,?_⟩,?_⟩
      all_goals(try dsimp only)
      all_goals first|exact hq.2.2|omega|(refine⟨?_,?_⟩<;>rw[aF (by omega)]<;>omega)|exact eJ (l:=[-1,4]) (j:=(bT l (p+1+1+1+1+1+1) 2).toNat) (by decide) (by simp;omega)|exact eJ (l:=[0,99,100]) (j:=(bT l (p+1+1+1+1+1+1) 3).toNat) (by decide) (by simp;omega)|exact eJ (l:=[0,999,1000]) (j:=(bT l (p+1+1+1+1+1+1) 3).toNat) (by decide) (by simp;omega)
      done)
 refine sq (rT [0,2,3,19,44] (s2 (cd rfl (fun c44=> ?_) fun c44=> ?_)))
 · refine rE [2,3] (s1 (dB (robj:=[(0,.box 177 [.d (.sl (aE (l))),.d (.i (p+1+1+1+1+1+1))])]) (rl:=[(0,0)]) (bor:=[]) (news:=[]) (zi l (p+1+1+1+1+1+1) (by omega) hl) rfl rfl rfl rfl ⟨bY rfl rfl rfl rfl (bB rfl (aG rfl (aG rfl aN)) trivial),rfl⟩ (by rintro _ ⟨y,q,hq,rfl⟩;exact⟨rfl,.inl rfl,fun j hj=>nomatch hj⟩) (aM ⟨rfl,trivial⟩) (fun j hj=>nomatch hj) ?_))
   rintro _ ⟨y,q,hq,rfl⟩
   refine s2 (sq (rT [2] (s2 (rt ?_))))
   first
    |(refine cX _ ⟨⟨?za4,?zb4,?zc4,?zd4,x⟩,p+1+1+1+1+1+1+1,?zn4,⟨by omega,by omega⟩,rfl⟩ (eF _ [] [] rfl ?_ rfl rfl)
      repeat' first|exact trivial|refine lZ rfl ?_|refine cQ rfl ?_ ?_|refine jF rfl rfl ?_ rfl ?_|refine bZ rfl ?_ ?_|refine bY rfl rfl rfl rfl ?_|refine bB rfl ?_ ?_|refine eC rfl ?_ ?_|exact aN|refine aG ?_ ?_|refine jX ?_|refine bU rfl ?_ rfl ?_|refine eO rfl rfl rfl ?_
      try any_goals with_reducible rfl
      try any_goals rfl
      refine⟨⟨?_,?_,?_,?_⟩,?_⟩
      all_goals(try dsimp only)
      all_goals first|exact hall x hx|omega|(refine⟨?_,?_⟩<;>rw[aF (by omega)]<;>omega)|exact eJ (l:=[-1,4]) (j:=(bT l (p+1+1+1+1+1+1) 2).toNat) (by decide) (by simp;omega)|exact eJ (l:=[0,99,100]) (j:=(bT l (p+1+1+1+1+1+1) 3).toNat) (by decide) (by simp;omega)|exact eJ (l:=[0,999,1000]) (j:=(bT l (p+1+1+1+1+1+1) 3).toNat) (by decide) (by simp;omega)
      done)
    |(refine cX _ ⟨⟨?za4,?zb4,?zc4,?zd4,x⟩,p+1+1+1+1+1+1,?zn4,⟨by omega,by omega⟩,rfl⟩ (eF _ [] [] rfl ?_ rfl rfl)
      repeat' first|exact trivial|refine lZ rfl ?_|refine cQ rfl ?_ ?_|refine jF rfl rfl ?_ rfl ?_|refine bZ rfl ?_ ?_|refine bY rfl rfl rfl rfl ?_|refine bB rfl ?_ ?_|refine eC rfl ?_ ?_|exact aN|refine aG ?_ ?_|refine jX ?_|refine bU rfl ?_ rfl ?_|refine eO rfl rfl rfl ?_
      try any_goals with_reducible rfl
      try any_goals rfl
      refine⟨⟨?_,?_,?_,?_⟩,?_⟩
      all_goals(try dsimp only)
      all_goals first|exact hall x hx|omega|(refine⟨?_,?_⟩<;>rw[aF (by omega)]<;>omega)|exact eJ (l:=[-1,4]) (j:=(bT l (p+1+1+1+1+1+1) 2).toNat) (by decide) (by simp;omega)|exact eJ (l:=[0,99,100]) (j:=(bT l (p+1+1+1+1+1+1) 3).toNat) (by decide) (by simp;omega)|exact eJ (l:=[0,999,1000]) (j:=(bT l (p+1+1+1+1+1+1) 3).toNat) (by decide) (by simp;omega)
      done)
    |(refine cX _ ⟨⟨?za4,?zb4,?zc4,?zd4,y⟩,q,?zn4,⟨by omega,by omega⟩,rfl⟩ (eF _ [] [] rfl ?_ rfl rfl)
      repeat' first|exact trivial|refine lZ rfl ?_|refine cQ rfl ?_ ?_|refine jF rfl rfl ?_ rfl ?_|refine bZ rfl ?_ ?_|refine bY rfl rfl rfl rfl ?_|refine bB rfl ?_ ?_|refine eC rfl ?_ ?_|exact aN|refine aG ?_ ?_|refine jX ?_|refine bU rfl ?_ rfl ?_|refine eO rfl rfl rfl ?_
      try any_goals with_reducible rfl
      try any_goals rfl
      refine⟨⟨?_,?_,?_,?_⟩,?_⟩
      all_goals(try dsimp only)
      all_goals first|exact hq.2.2|omega|(refine⟨?_,?_⟩<;>rw[aF (by omega)]<;>omega)|exact eJ (l:=[-1,4]) (j:=(bT l (p+1+1+1+1+1+1) 2).toNat) (by decide) (by simp;omega)|exact eJ (l:=[0,99,100]) (j:=(bT l (p+1+1+1+1+1+1) 3).toNat) (by decide) (by simp;omega)|exact eJ (l:=[0,999,1000]) (j:=(bT l (p+1+1+1+1+1+1) 3).toNat) (by decide) (by simp;omega)
      done)
 refine sq (rT [0,2,3,49] (s2 (cd rfl (fun c49=> ?_) fun c49=> ?_)))
 · have hv:=cG l (p:=p+1+1+1+1+1+1) (n:=2) (by omega) (by omega)
   refine rT [2,3] (ai (by exact⟨by simp,by decide⟩) (s1 (bP (robj:=[(0,.box 177 [.d (.sl (aE (l))),.d (.i (p+1+1+1+1+1+1))])]) (rl:=[(0,0)]) (bor:=[]) (cR (l) (p+1+1+1+1+1+1) _ (by omega) hl2) rfl rfl rfl rfl ⟨bY rfl rfl rfl rfl (cQ rfl rfl (bB rfl (aG rfl (aG rfl aN)) trivial)),rfl⟩ rfl (.inl rfl) (aM ⟨rfl,trivial⟩) (fun _ hj=>nomatch hj) (ai ⟨rfl,hv.1,hv.2⟩ (ai (aF2 (l:=[-1,4]) (by simp;omega) rfl) (s2 (sq (rT [2] (s2 (rt ?_))))))))))
   first
    |(refine cX _ ⟨⟨?za5,?zb5,?zc5,?zd5,x⟩,p+1+1+1+1+1+1+1,?zn5,⟨by omega,by omega⟩,rfl⟩ (eF _ [] [] rfl ?_ rfl rfl)
      repeat' first|exact trivial|refine lZ rfl ?_|refine cQ rfl ?_ ?_|refine jF rfl rfl ?_ rfl ?_|refine bZ rfl ?_ ?_|refine bY rfl rfl rfl rfl ?_|refine bB rfl ?_ ?_|refine eC rfl ?_ ?_|exact aN|refine aG ?_ ?_|refine jX ?_|refine bU rfl ?_ rfl ?_|refine eO rfl rfl rfl ?_
      try any_goals with_reducible rfl
      try any_goals rfl
      refine⟨⟨?_,?_,?_,?_⟩,?_⟩
      all_goals(try dsimp only)
      all_goals first|exact hall x hx|omega|(refine⟨?_,?_⟩<;>rw[aF (by omega)]<;>omega)|exact eJ (l:=[-1,4]) (j:=(bT l (p+1+1+1+1+1+1) 2).toNat) (by decide) (by simp;omega)|exact eJ (l:=[0,99,100]) (j:=(bT l (p+1+1+1+1+1+1) 3).toNat) (by decide) (by simp;omega)|exact eJ (l:=[0,999,1000]) (j:=(bT l (p+1+1+1+1+1+1) 3).toNat) (by decide) (by simp;omega)
      done)
    |(refine cX _ ⟨⟨?za5,?zb5,?zc5,?zd5,x⟩,p+1+1+1+1+1+1,?zn5,⟨by omega,by omega⟩,rfl⟩ (eF _ [] [] rfl ?_ rfl rfl)
      repeat' first|exact trivial|refine lZ rfl ?_|refine cQ rfl ?_ ?_|refine jF rfl rfl ?_ rfl ?_|refine bZ rfl ?_ ?_|refine bY rfl rfl rfl rfl ?_|refine bB rfl ?_ ?_|refine eC rfl ?_ ?_|exact aN|refine aG ?_ ?_|refine jX ?_|refine bU rfl ?_ rfl ?_|refine eO rfl rfl rfl ?_
      try any_goals with_reducible rfl
      try any_goals rfl
      refine⟨⟨?_,?_,?_,?_⟩,?_⟩
      all_goals(try dsimp only)
      all_goals first|exact hall x hx|omega|(refine⟨?_,?_⟩<;>rw[aF (by omega)]<;>omega)|exact eJ (l:=[-1,4]) (j:=(bT l (p+1+1+1+1+1+1) 2).toNat) (by decide) (by simp;omega)|exact eJ (l:=[0,99,100]) (j:=(bT l (p+1+1+1+1+1+1) 3).toNat) (by decide) (by simp;omega)|exact eJ (l:=[0,999,1000]) (j:=(bT l (p+1+1+1+1+1+1) 3).toNat) (by decide) (by simp;omega)
      done)
    |(refine cX _ ⟨⟨?za5,?zb5,?zc5,?zd5,y⟩,q,?zn5,⟨by omega,by omega⟩,rfl⟩ (eF _ [] [] rfl ?_ rfl rfl)
      repeat' first|exact trivial|refine lZ rfl ?_|refine cQ rfl ?_ ?_|refine jF rfl rfl ?_ rfl ?_|refine bZ rfl ?_ ?_|refine bY rfl rfl rfl rfl ?_|refine bB rfl ?_ ?_|refine eC rfl ?_ ?_|exact aN|refine aG ?_ ?_|refine jX ?_|refine bU rfl ?_ rfl ?_|refine eO rfl rfl rfl ?_
      try any_goals with_reducible rfl
      try any_goals rfl
      refine⟨⟨?_,?_,?_,?_⟩,?_⟩
      all_goals(try dsimp only)
      all_goals first|exact hq.2.2|omega|(refine⟨?_,?_⟩<;>rw[aF (by omega)]<;>omega)|exact eJ (l:=[-1,4]) (j:=(bT l (p+1+1+1+1+1+1) 2).toNat) (by decide) (by simp;omega)|exact eJ (l:=[0,99,100]) (j:=(bT l (p+1+1+1+1+1+1) 3).toNat) (by decide) (by simp;omega)|exact eJ (l:=[0,999,1000]) (j:=(bT l (p+1+1+1+1+1+1) 3).toNat) (by decide) (by simp;omega)
      done)
 refine sk (sq (rT [2] (s2 (rt ?_))))
 first
  |(refine cX _ ⟨⟨?za6,?zb6,?zc6,?zd6,x⟩,p+1+1+1+1+1+1+1,?zn6,⟨by omega,by omega⟩,rfl⟩ (eF _ [] [] rfl ?_ rfl rfl)
    repeat' first|exact trivial|refine lZ rfl ?_|refine cQ rfl ?_ ?_|refine jF rfl rfl ?_ rfl ?_|refine bZ rfl ?_ ?_|refine bY rfl rfl rfl rfl ?_|refine bB rfl ?_ ?_|refine eC rfl ?_ ?_|exact aN|refine aG ?_ ?_|refine jX ?_|refine bU rfl ?_ rfl ?_|refine eO rfl rfl rfl ?_
    try any_goals with_reducible rfl
    try any_goals rfl
    refine⟨⟨?_,?_,?_,?_⟩,?_⟩
    all_goals(try dsimp only)
    all_goals first|exact hall x hx|omega|(refine⟨?_,?_⟩<;>rw[aF (by omega)]<;>omega)|exact eJ (l:=[-1,4]) (j:=(bT l (p+1+1+1+1+1+1) 2).toNat) (by decide) (by simp;omega)|exact eJ (l:=[0,99,100]) (j:=(bT l (p+1+1+1+1+1+1) 3).toNat) (by decide) (by simp;omega)|exact eJ (l:=[0,999,1000]) (j:=(bT l (p+1+1+1+1+1+1) 3).toNat) (by decide) (by simp;omega)
    done)
  |(refine cX _ ⟨⟨?za6,?zb6,?zc6,?zd6,x⟩,p+1+1+1+1+1+1,?zn6,⟨by omega,by omega⟩,rfl⟩ (eF _ [] [] rfl ?_ rfl rfl)
    repeat' first|exact trivial|refine lZ rfl ?_|refine cQ rfl ?_ ?_|refine jF rfl rfl ?_ rfl ?_|refine bZ rfl ?_ ?_|refine bY rfl rfl rfl rfl ?_|refine bB rfl ?_ ?_|refine eC rfl ?_ ?_|exact aN|refine aG ?_ ?_|refine jX ?_|refine bU rfl ?_ rfl ?_|refine eO rfl rfl rfl ?_
    try any_goals with_reducible rfl
    try any_goals rfl
    refine⟨⟨?_,?_,?_,?_⟩,?_⟩
    all_goals(try dsimp only)
    all_goals first|exact hall x hx|omega|(refine⟨?_,?_⟩<;>rw[aF (by omega)]<;>omega)|exact eJ (l:=[-1,4]) (j:=(bT l (p+1+1+1+1+1+1) 2).toNat) (by decide) (by simp;omega)|exact eJ (l:=[0,99,100]) (j:=(bT l (p+1+1+1+1+1+1) 3).toNat) (by decide) (by simp;omega)|exact eJ (l:=[0,999,1000]) (j:=(bT l (p+1+1+1+1+1+1) 3).toNat) (by decide) (by simp;omega)
    done)
  |(refine cX _ ⟨⟨?za6,?zb6,?zc6,?zd6,y⟩,q,?zn6,⟨by omega,by omega⟩,rfl⟩ (eF _ [] [] rfl ?_ rfl rfl)
    repeat' first|exact trivial|refine lZ rfl ?_|refine cQ rfl ?_ ?_|refine jF rfl rfl ?_ rfl ?_|refine bZ rfl ?_ ?_|refine bY rfl rfl rfl rfl ?_|refine bB rfl ?_ ?_|refine eC rfl ?_ ?_|exact aN|refine aG ?_ ?_|refine jX ?_|refine bU rfl ?_ rfl ?_|refine eO rfl rfl rfl ?_
    try any_goals with_reducible rfl
    try any_goals rfl
    refine⟨⟨?_,?_,?_,?_⟩,?_⟩
    all_goals(try dsimp only)
    all_goals first|exact hq.2.2|omega|(refine⟨?_,?_⟩<;>rw[aF (by omega)]<;>omega)|exact eJ (l:=[-1,4]) (j:=(bT l (p+1+1+1+1+1+1) 2).toNat) (by decide) (by simp;omega)|exact eJ (l:=[0,99,100]) (j:=(bT l (p+1+1+1+1+1+1) 3).toNat) (by decide) (by simp;omega)|exact eJ (l:=[0,999,1000]) (j:=(bT l (p+1+1+1+1+1+1) 3).toNat) (by decide) (by simp;omega)
    done)
theorem dz (l:List bI) (hl:l.length≤100000):Sp 114 2 [tD 0 (.sl (aI l)),tD 1 (.sl (aI l))] [tB 0 true]:=by
 refine sb Tryz.func114 rfl (sq (rT [0,1] (s1 (sq (sq (rT [0,1,10] (s5 (cd rfl (fun c10=> ?_) fun c10=> ?_))))))))
 · simp at c10
 refine sk (sq (sq (rT [0,1,5] (s1 (bk (SW.loopW (n:=l.length) (fun n s=> ∃i:Nat,n=l.length - i∧i≤l.length∧s=[tD 0 (.sl (aI l)),tD 1 (.sl (aI l)),tI 5 (i:Nat)]) ?_ ?_))))))
 · exact wq (σ':=[tD 0 (.sl (aI l)),tD 1 (.sl (aI l)),tI 5 (0:Nat)]) [] [] (⟨0,rfl,aX5 _,rfl⟩) qz
 rintro n s ⟨i,rfl,hi,rfl⟩
 refine sq (sq (rT [0,1,5,14] (s4 (cd rfl (fun c14=> ?_) fun c14=> ?_))))
 · have hi2:i<l.length:=by simpa[aH] using c14
   have hg:=aX (l:=l) hi2
   have hlen:=aH l
   refine sk (sq (bk (sq (rD [0,1,5,25] (s2 (ai (by rw[aXy,hg];exact⟨⟨by omega,by rw[hlen];omega⟩,rfl⟩) (ai (by rw[aXy,hg];exact⟨aX0 rfl,rfl⟩) (s2 (ai (by rw[aXy,hg];exact⟨⟨by omega,by rw[hlen];omega⟩,rfl⟩) (ai (by rw[aXy,hg];exact⟨aX0 rfl,rfl⟩) (aIt cK (kY aQi.zero ((aI l).getD (Int.toNat (i:Int)) []) 0) (kY aQi.zero ((aI l).getD (Int.toNat (i:Int)) []) 0) rfl rfl rfl (by kernel_rfl) (by kernel_rfl) (by kernel_rfl) (by kernel_rfl) rfl rfl (ai (by kernel_rfl) (cd rfl (fun c25=> ?_) fun c25=> ?_)))))))))))))
   · exact absurd c25 (by simp[co,eqD,kY,aDk])
   refine sk (rT [0,1,5] (s3 (wq [] [] (⟨l.length - (i+1),by omega,i+1,rfl,by omega,rfl⟩) ?_)))
   repeat' apply ai
   all_goals first|exact qx|exact aA D.i (aF (by omega))|rfl|exact qz
 refine xt (sq (rT [4] (s1 (rt (bQ rfl ?_)))))
 rfl
theorem zj (l:List cD) (hl:l.length≤100000):Sp 115 2 [tD 0 (.sl (aS l)),tD 1 (.sl (aS l))] [tB 0 true]:=by
 refine sb Tryz.func115 rfl (sq (rT [0,1] (s1 (sq (sq (rT [0,1,10] (s5 (cd rfl (fun c10=> ?_) fun c10=> ?_))))))))
 · simp at c10
 refine sk (sq (sq (rT [0,1,5] (s1 (bk (SW.loopW (n:=l.length) (fun n s=> ∃i:Nat,n=l.length - i∧i≤l.length∧s=[tD 0 (.sl (aS l)),tD 1 (.sl (aS l)),tI 5 (i:Nat)]) ?_ ?_))))))
 · exact wq (σ':=[tD 0 (.sl (aS l)),tD 1 (.sl (aS l)),tI 5 (0:Nat)]) [] [] (⟨0,rfl,aX5 _,rfl⟩) qz
 rintro n s ⟨i,rfl,hi,rfl⟩
 refine sq (sq (rT [0,1,5,14] (s4 (cd rfl (fun c14=> ?_) fun c14=> ?_))))
 · have hi2:i<l.length:=by simpa[aR] using c14
   have hg:=cA (l:=l) hi2
   have hlen:=aR l
   refine sk (sq (bk (sq (rD [0,1,5,25] (s2 (ai (by rw[aXy,hg];exact⟨⟨by omega,by rw[hlen];omega⟩,rfl⟩) (ai (by rw[aXy,hg];exact⟨aX0 rfl,rfl⟩) (s2 (ai (by rw[aXy,hg];exact⟨⟨by omega,by rw[hlen];omega⟩,rfl⟩) (ai (by rw[aXy,hg];exact⟨aX0 rfl,rfl⟩) (aIt cK (kY aKf.zero ((aS l).getD (Int.toNat (i:Int)) []) 0) (kY aKf.zero ((aS l).getD (Int.toNat (i:Int)) []) 0) rfl rfl rfl (by kernel_rfl) (by kernel_rfl) (by kernel_rfl) (by kernel_rfl) rfl rfl (ai (by kernel_rfl) (cd rfl (fun c25=> ?_) fun c25=> ?_)))))))))))))
   · exact absurd c25 (by simp[co,eqD,kY,aDk])
   refine sk (rT [0,1,5] (s3 (wq [] [] (⟨l.length - (i+1),by omega,i+1,rfl,by omega,rfl⟩) ?_)))
   repeat' apply ai
   all_goals first|exact qx|exact aA D.i (aF (by omega))|rfl|exact qz
 refine xt (sq (rT [4] (s1 (rt (bQ rfl ?_)))))
 rfl
theorem tG (k:bH) (hk:KB k):Sp 51 2 [tV 0 k.V,tV 1 k.V] [tB 0 true]:=by
 refine sb Tryz.func51 rfl (sq (rT [2,3] (s3 (sq (rT [4] (s6 (y4 (y1 (ai pk (s1 (y4 (y1 (ai pk (s1 (y4 (xc (fun h=>dz k.held (by have:=hk.1;omega)) (ai rfl (ai rk ?_))))))))))))))))))
 refine ai pk (s1 (y4 (xc (fun h=>zj k.marks (by have:=hk.1;omega)) (ai rfl (ai rk ?_)))))
 refine ai pk (s1 (y4 (xc (fun h=>dz k.inbox (by have:=hk.1;omega)) (ai rfl (ai rk ?_)))))
 refine ai pk (s1 (rt (bQ rfl (aA D.b ?_))))
 simp
theorem ta (a b c:Int) (h:R1 a∧R1 b∧R1 c):tn 95 3 [tI 0 a,tI 1 b,tI 2 c] (fun s=> ∃x:List UInt8,x.length≤60∧s=[tD 0 (.s x)]):=by
 have q1:=qr h.1
 have q2:=qr h.2.1
 have q3:=qr h.2.2
 refine ul Tryz.func95 rfl (sq (rT [0,1,2] (s1 (sq (rT [6] (s1 (xp (vU a (by omega)) (ai rfl ?_))))))))
 refine ai (by first|trivial|(show _≤9223372036854775807;(try simp only[aXz,aX1,aX2]);omega)) (s1 (xp (vU b (by omega)) (ai rfl ?_)))
 refine ai (by first|trivial|(show _≤9223372036854775807;(try simp only[aXz,aX1,aX2]);omega)) (ai (by first|trivial|(show _≤9223372036854775807;(try simp only[aXz,aX1,aX2]);omega)) (s1 (xp (vU c (by omega)) (ai rfl ?_))))
 refine ai (by first|trivial|(show _≤9223372036854775807;(try simp only[aXz,aX1,aX2]);omega)) (s1 (rt ?_))
 exact cX _ ⟨mB a++[32]++mB b++[32]++mB c,by simp only[aXz,aX1,aX2];omega,rfl⟩ (bQ rfl rfl)
theorem gr (l:List UInt8) (p:Int) (hp:0≤p∧p≤790000) (hl:l.length≤2000):tn 167 1 [tP 0 0,oB 0 177 [.d (.sl (aE l)),.d (.i (p))]] (fun s=> ∃(x:List UInt8) (q:Int),(p≤q∧q≤p+70∧x.length≤130)∧s=[tD 0 (.s x),oB 0 177 [.d (.sl (aE l)),.d (.i (q))]]):=by
 have hall: ∀y∈([[111,119,110,32],[116,97,107,101,32],[116,97,107,101,32],[104,101,108,100,32],[105,110,98,111,120,32]]:List (List UInt8)),y.length≤10:=by decide
 refine ul Tryz.func167 rfl (sq (rT [0] (s1 (sq (sq (rT [0,4] (s1 (bP (robj:=[(0,.box 177 [.d (.sl (aE (l))),.d (.i (p))])]) (rl:=[(0,0)]) (bor:=[]) (cR (l) (p) _ (by omega) hl) rfl rfl rfl rfl ⟨bY rfl rfl rfl rfl (cQ rfl rfl (bB rfl (aG rfl (aG rfl aN)) trivial)),rfl⟩ rfl (.inl rfl) (aM ⟨rfl,trivial⟩) (fun _ hj=>nomatch hj) (bk (sq (rT [0,4,5] (ai (by first|trivial|(show _≤9223372036854775807;(try simp only[aXz,aX1,aX2]);omega)) (s1 (cd rfl (fun c5=> ?_) fun c5=> ?_))))))))))))))
 · refine sq (rT [2] (s1 (bP (robj:=[(0,.box 177 [.d (.sl (aE (l))),.d (.i (p+1))])]) (rl:=[(0,0)]) (bor:=[]) (cR (l) (p+1) _ (by omega) hl) rfl rfl rfl rfl ⟨bY rfl rfl rfl rfl (cQ rfl rfl (bB rfl (aG rfl (aG rfl aN)) trivial)),rfl⟩ rfl (.inl rfl) (aM ⟨rfl,trivial⟩) (fun _ hj=>nomatch hj) ?_)))
   have hpv:=cG l (p:=p+1) (n:=30) (by omega) (by omega)
   have q1:=bW (k:=6) (n:=(bT l (p+1) 30).toNat) (by simp;omega)
   refine xp (kW (bT l (p+1) 30) (by omega)) (ai rfl ?_)
   refine ai (by first|trivial|(show _≤9223372036854775807;(try simp only[aXz,aX1,aX2]);omega)) (s1 (rt (cX _ ⟨[116,105,109,101,32]++kH (bT l (p+1) 30).toNat,p+1+1,⟨by omega,by omega,by simp only[aXz,aX1,aX2];omega⟩,rfl⟩ (eF _ [] [] rfl ?_ rfl rfl))))
   refine qs ?_
   repeat' first|exact qx|apply ai
   all_goals rfl
 refine sq (rT [0,4,11] (ai (by first|trivial|(show _≤9223372036854775807;(try simp only[aXz,aX1,aX2]);omega)) (s1 (cd rfl (fun c11=> ?_) fun c11=> ?_))))
 · refine sq (rE [2] (s1 (iO (bP (robj:=[(0,.box 177 [.d (.sl (aE (l))),.d (.i (p+1))])]) (rl:=[(0,0)]) (bor:=[]) (cR (l) (p+1) _ (by omega) hl) rfl rfl rfl rfl ⟨bY rfl rfl rfl rfl (cQ rfl rfl (bB rfl (aG rfl (aG rfl aN)) trivial)),rfl⟩ rfl (.inl rfl) (aM ⟨rfl,trivial⟩) (fun _ hj=>nomatch hj) (s1 (iO (bP (robj:=[(0,.box 177 [.d (.sl (aE (l))),.d (.i (p+1+1))])]) (rl:=[(0,0)]) (bor:=[]) (cR (l) (p+1+1) _ (by omega) hl) rfl rfl rfl rfl ⟨bY rfl rfl rfl rfl (cQ rfl rfl (bB rfl (aG rfl (aG rfl aN)) trivial)),rfl⟩ rfl (.inl rfl) (aM ⟨rfl,trivial⟩) (fun _ hj=>nomatch hj) (ai (by first|trivial|(show _≤9223372036854775807;(try simp only[aXz,aX1,aX2]);omega)) (s1 (iO (bP (robj:=[(0,.box 177 [.d (.sl (aE (l))),.d (.i (p+1+1+1))])]) (rl:=[(0,0)]) (bor:=[]) (cR (l) (p+1+1+1) _ (by omega) hl) rfl rfl rfl rfl ⟨bY rfl rfl rfl rfl (cQ rfl rfl (bB rfl (aG rfl (aG rfl aN)) trivial)),rfl⟩ rfl (.inl rfl) (aM ⟨rfl,trivial⟩) (fun _ hj=>nomatch hj) ?_)))))))))))
   refine ai (by first|trivial|(show _≤9223372036854775807;(try simp only[aXz,aX1,aX2]);omega)) (dB (robj:=[]) (rl:=[]) (bor:=[]) (news:=[]) (ta (bT l (p+1) 4) (wrap64 (1+bT l (p+1+1) 3)) (wrap64 (1+bT l (p+1+1+1) 30)) (by have:=cG l (p:=p+1) (n:=4) (by omega) (by omega);have:=cG l (p:=p+1+1) (n:=3) (by omega) (by omega);have:=cG l (p:=p+1+1+1) (n:=30) (by omega) (by omega);rw[aF (by omega),aF (by omega)];omega)) rfl rfl rfl rfl ⟨cQ rfl rfl (cQ rfl rfl (cQ rfl rfl (trivial))),rfl⟩ (by rintro _ ⟨y,hy,rfl⟩;exact⟨rfl,.inl rfl,fun j hj=>nomatch hj⟩) (fun p hp=>nomatch hp) (fun j hj=>nomatch hj) ?_)
   rintro _ ⟨y,hy,rfl⟩
   refine ai (by first|trivial|(show _≤9223372036854775807;(try simp only[aXz,aX1,aX2]);omega)) (s1 (rt (cX _ ⟨[108,101,116,32]++y,p+1+1+1+1,⟨by omega,by omega,by simp only[aXz,aX1,aX2];omega⟩,rfl⟩ (eF _ [] [] rfl ?_ rfl rfl))))
   refine qs ?_
   repeat' first|exact qx|apply ai
   all_goals rfl
 refine sq (rT [0,4,23] (ai (by first|trivial|(show _≤9223372036854775807;(try simp only[aXz,aX1,aX2]);omega)) (s1 (cd rfl (fun c23=> ?_) fun c23=> ?_))))
 · refine sq (rE [2] (s1 (iO (bP (robj:=[(0,.box 177 [.d (.sl (aE (l))),.d (.i (p+1))])]) (rl:=[(0,0)]) (bor:=[]) (cR (l) (p+1) _ (by omega) hl) rfl rfl rfl rfl ⟨bY rfl rfl rfl rfl (cQ rfl rfl (bB rfl (aG rfl (aG rfl aN)) trivial)),rfl⟩ rfl (.inl rfl) (aM ⟨rfl,trivial⟩) (fun _ hj=>nomatch hj) (s1 (iO (bP (robj:=[(0,.box 177 [.d (.sl (aE (l))),.d (.i (p+1+1))])]) (rl:=[(0,0)]) (bor:=[]) (cR (l) (p+1+1) _ (by omega) hl) rfl rfl rfl rfl ⟨bY rfl rfl rfl rfl (cQ rfl rfl (bB rfl (aG rfl (aG rfl aN)) trivial)),rfl⟩ rfl (.inl rfl) (aM ⟨rfl,trivial⟩) (fun _ hj=>nomatch hj) (ai (by first|trivial|(show _≤9223372036854775807;(try simp only[aXz,aX1,aX2]);omega)) (s1 (iO (bP (robj:=[(0,.box 177 [.d (.sl (aE (l))),.d (.i (p+1+1+1))])]) (rl:=[(0,0)]) (bor:=[]) (cR (l) (p+1+1+1) _ (by omega) hl) rfl rfl rfl rfl ⟨bY rfl rfl rfl rfl (cQ rfl rfl (bB rfl (aG rfl (aG rfl aN)) trivial)),rfl⟩ rfl (.inl rfl) (aM ⟨rfl,trivial⟩) (fun _ hj=>nomatch hj) ?_)))))))))))
   refine ai (by first|trivial|(show _≤9223372036854775807;(try simp only[aXz,aX1,aX2]);omega)) (dB (robj:=[]) (rl:=[]) (bor:=[]) (news:=[]) (ta (bT l (p+1) 4) (wrap64 (1+bT l (p+1+1) 3)) (wrap64 (1+bT l (p+1+1+1) 30)) (by have:=cG l (p:=p+1) (n:=4) (by omega) (by omega);have:=cG l (p:=p+1+1) (n:=3) (by omega) (by omega);have:=cG l (p:=p+1+1+1) (n:=30) (by omega) (by omega);rw[aF (by omega),aF (by omega)];omega)) rfl rfl rfl rfl ⟨cQ rfl rfl (cQ rfl rfl (cQ rfl rfl (trivial))),rfl⟩ (by rintro _ ⟨y,hy,rfl⟩;exact⟨rfl,.inl rfl,fun j hj=>nomatch hj⟩) (fun p hp=>nomatch hp) (fun j hj=>nomatch hj) ?_)
   rintro _ ⟨y,hy,rfl⟩
   refine ai (by first|trivial|(show _≤9223372036854775807;(try simp only[aXz,aX1,aX2]);omega)) (s1 (rt (cX _ ⟨[101,97,116,32]++y,p+1+1+1+1,⟨by omega,by omega,by simp only[aXz,aX1,aX2];omega⟩,rfl⟩ (eF _ [] [] rfl ?_ rfl rfl))))
   refine qs ?_
   repeat' first|exact qx|apply ai
   all_goals rfl
 refine sq (rT [0,35] (ai (by first|trivial|(show _≤9223372036854775807;(try simp only[aXz,aX1,aX2]);omega)) (s1 (cd rfl (fun c35=> ?_) fun c35=> ?_))))
 · refine sq (rE [2] (s1 (dB (robj:=[]) (rl:=[]) (bor:=[]) (news:=[]) (pK [122] 60 rfl (by omega)) rfl rfl rfl rfl ⟨cQ rfl rfl (cQ rfl rfl (trivial)),rfl⟩ (by rintro _ ⟨x1,hx1,rfl⟩;exact⟨rfl,.inl rfl,fun j hj=>nomatch hj⟩) (fun p hp=>nomatch hp) (fun j hj=>nomatch hj) ?_)))
   rintro _ ⟨x1,hx1,rfl⟩
   refine dB (robj:=[]) (rl:=[]) (bor:=[]) (news:=[]) (pK [122] 61 rfl (by omega)) rfl rfl rfl rfl ⟨cQ rfl rfl (cQ rfl rfl (trivial)),rfl⟩ (by rintro _ ⟨x2,hx2,rfl⟩;exact⟨rfl,.inl rfl,fun j hj=>nomatch hj⟩) (fun p hp=>nomatch hp) (fun j hj=>nomatch hj) ?_
   rintro _ ⟨x2,hx2,rfl⟩
   refine ai (by exact⟨by simp,aX0 rfl⟩) (zG 40 40 rfl rfl rfl rfl (dB (robj:=[(0,.box 177 [.d (.sl (aE (l))),.d (.i (p+1))])]) (rl:=[(0,0)]) (bor:=[]) (news:=[]) (aNf (l) (p+1) (([[],[119,104,97,116],[116,105,109,101],[116,105,109,101,32,48],[116,105,109,101,32,48,49],[110,101,120,116,32,51],[110,101,120,116,32,49],[109,97,114,107,32,48,32,49,32,53],[109,97,114,107,32,48,32,49],[109,97,114,107,32,48,32,49,32,53,32],[104,101,108,100,32,48,32,49,32,50,32,57,32,120],[105,110,98,111,120,32,48,32,49,32,50,32,57,32,120],x1,x2]:List (List UInt8))) (by simp) (by omega) hl) rfl rfl rfl rfl ⟨bY rfl rfl rfl rfl (cQ rfl rfl (bB rfl (aG rfl (aG rfl aN)) trivial)),rfl⟩ (by rintro _ ⟨x,hx,rfl⟩;exact⟨rfl,.inl rfl,fun j hj=>nomatch hj⟩) (aM ⟨rfl,trivial⟩) (fun j hj=>nomatch hj) ?_))
   rintro _ ⟨x,hx,rfl⟩
   refine s1 (rt (cX _ ⟨x,p+1+1,⟨by omega,by omega,?_⟩,rfl⟩ (eF _ [] [] rfl ?_ rfl rfl)))
   · simp at hx;rcases hx with rfl|rfl|rfl|rfl|rfl|rfl|rfl|rfl|rfl|rfl|rfl|rfl|rfl|rfl<;>first|omega|(simp;done)
   refine qs ?_
   repeat' first|exact qx|apply ai
   all_goals rfl
 refine sk (sq (rE [2] (s1 (ai (by exact⟨by simp,by decide⟩) (zG 43 43 rfl rfl rfl rfl (dB (robj:=[(0,.box 177 [.d (.sl (aE (l))),.d (.i (p+1))])]) (rl:=[(0,0)]) (bor:=[]) (news:=[]) (aNf (l) (p+1) (([[111,119,110,32],[116,97,107,101,32],[116,97,107,101,32],[104,101,108,100,32],[105,110,98,111,120,32]]:List (List UInt8))) (by simp) (by omega) hl) rfl rfl rfl rfl ⟨bY rfl rfl rfl rfl (cQ rfl rfl (bB rfl (aG rfl (aG rfl aN)) trivial)),rfl⟩ (by rintro _ ⟨x,hx,rfl⟩;exact⟨rfl,.inl rfl,fun j hj=>nomatch hj⟩) (aM ⟨rfl,trivial⟩) (fun j hj=>nomatch hj) ?_))))))
 rintro _ ⟨x,hx,rfl⟩
 have hxl:=hall x hx
 refine s1 (dB (robj:=[(0,.box 177 [.d (.sl (aE (l))),.d (.i (p+1+1))])]) (rl:=[(0,0)]) (bor:=[]) (news:=[]) (dy l (p+1+1) (by omega) hl) rfl rfl rfl rfl ⟨bY rfl rfl rfl rfl (bB rfl (aG rfl (aG rfl aN)) trivial),rfl⟩ (by rintro _ ⟨n1,q1,hn1,hq1,rfl⟩;exact⟨rfl,.inl rfl,fun j hj=>nomatch hj⟩) (aM ⟨rfl,trivial⟩) (fun j hj=>nomatch hj) ?_)
 rintro _ ⟨n1,q1,hn1,hq1,rfl⟩
 have hwl:=mW n1
 have hnt:=hn1.2
 refine iO (xp (kR n1 (by omega)) (ai rfl ?_))
 refine ai (by first|trivial|(show _≤9223372036854775807;(try simp only[aXz,aX1,aX2]);omega)) (s1 (rt (cX _ ⟨x++gE n1,q1,⟨by omega,by omega,by simp only[aXz,aX1,aX2];omega⟩,rfl⟩ (eF _ [] [] rfl ?_ rfl rfl))))
 refine qs ?_
 repeat' first|exact qx|apply ai
 all_goals rfl
theorem zk (l:List dW) (f m:Int) (hl:l.length≤1000000):Sp 198 3 [tD 0 (.sl (aZ l)),tI 1 f,tI 2 m] [tI 0 (hP l f m)]:=by
 refine sb Tryz.func198 rfl (sq (rT [0,1,2] (s1 (sq (sq (rT [0,1,2,7] (s1 (bk (SW.loopW (n:=l.length) (fun n q=> ∃i:Nat,n=l.length - i∧i≤l.length∧(∀k,k<i→iR l f m k=false)∧q=[tD 0 (.sl (aZ l)),tI 1 f,tI 2 m,tI 7 (i:Nat)]) ?_ ?_)))))))))
 · exact wq (σ':=[tD 0 (.sl (aZ l)),tI 1 f,tI 2 m,tI 7 (0:Nat)]) [] [] (⟨0,rfl,aX5 _,fun k h=>absurd h (by omega),rfl⟩) qz
 rintro n s ⟨i,rfl,hi,hk,rfl⟩
 refine sq (sq (rT [0,1,2,7,11] (s4 (cd rfl (fun c11=> ?_) fun c11=> ?_))))
 · have hi2:i<l.length:=by simpa[aJ] using c11
   have hg:=gJ (l:=l) hi2
   refine sk (sq (bk (sq (rT [0,1,2,7,29] (s2 (ai (by rw[aXy,hg];exact⟨⟨by omega,by rw[aJ];omega⟩,rfl⟩) (s1 (ai (by rw[aXy,hg];exact⟨aX0 rfl,rfl⟩) (s3 (y2 (ai (fun h=>(by rw[aXy,hg];exact⟨⟨by omega,by rw[aJ];omega⟩,rfl⟩)) (ai rk (y1 (ai (fun h=>(by rw[aXy,hg];exact⟨aX0 rfl,rfl⟩)) (ai rk (y2 (ai pk (cd rfl (fun c29=> ?_) fun c29=> ?_))))))))))))))))))
   · refine sq (rT [6] (s2 (rt (bQ rfl (aA D.i ?_)))))
     have hs:iR l f m i=true:=by
      have h9:=c29
      rw[aXy,hg] at h9
      exact h9
     exact(mJ (aX5 _) (by omega) (fun j _ h=>hk j h) hs).symm
   refine sk (rT [0,1,2,7] (s3 ?_))
   have hs:iR l f m i=false:=by
    have h9:=c29
    rw[aXy,hg] at h9
    exact h9
   refine wq [] [] (⟨l.length - (i+1),by omega,i+1,rfl,by omega,fun k h=>by by_cases e:k=i;exact e▸hs;exact hk k (by omega),rfl⟩) ?_
   repeat' apply ai
   all_goals first|exact qx|exact aA D.i (aF (by omega))|exact qz
 have hi3:i=l.length:=by simp[aJ] at c11;omega
 refine xt (sq (rT [6] (s1 (rt (bQ rfl (aA D.i ?_))))))
 exact(mP (fun j _ h=>hk j (by omega))).symm
theorem zl (l:List dW) (a:Int) (ha:0≤a∧a<l.length) (hl:l.length≤100000):Sp 160 2 [tD 0 (.sl (aZ l)),tI 1 a] [tO 0 0 (iB l a.toNat).length,oR 0 138 6 (aZ (iB l a.toNat))]:=by
 obtain⟨i,rfl⟩:=Int.eq_ofNat_of_zero_le ha.1
 have hw:wrap64 ((i:Int)+1)=((i+1:Nat):Int):=by rw[aF (by omega)];omega
 refine sb Tryz.func160 rfl (sq (rT [0,1] (s1 (sq (rD [4] (ai (by simp) (s2 (ai (by exact⟨by rw[aJ];exact⟨by first|(simp;done)|(simp;omega),by first|(simp;done)|(simp;omega),by first|(simp;done)|(simp;omega)⟩,sV _⟩) (ai (by exact⟨by first|trivial|rfl|(simp;done),by first|rfl|(simp[aJ];done),by first|exact lp l _ _|(simp;done),by(try simp only[aXz,aX1,aX2,aX4,aX7,aJ,jY,jZ,kA,kB]);show _*64≤_;omega⟩) (s3 (ai (by rw[hw];exact⟨by rw[aJ];exact⟨by first|(simp;done)|(simp;omega),by first|(simp;done)|(simp;omega),by first|(simp;done)|(simp;omega)⟩,sV _⟩) (ai (by exact⟨by first|trivial|rfl|(simp;done),by first|rfl|(simp[aJ];done),by first|exact lp l _ _|(simp;done),by(try simp only[hw]);(try simp only[aXz,aX1,aX2,aX4,aX7,aJ,jY,jZ,kA,kB]);show _*64≤_;omega⟩) (s1 (ai (by kernel_rfl) (rt (eF _ [(0,5)] [] rfl (jF rfl rfl ?_ rfl (bZ rfl ?_ trivial)) rfl rfl))))))))))))))))
 · rw[hw,vN,zQ];simp[aZ,iB]
 rw[hw,vN,zQ];simp[aZ,iB,List.map_take,List.map_drop]
theorem zm (l:List dW) (a:Int) (ha:0≤a∧a<l.length) (hl:l.length≤100000):Ab.Spec Tryz.prog 160 2 [(.t 0,.v (Dv (.sl (aZ l)))),(.t 1,.v (I a))] [(.t 0,.v (Dv (.sl (aZ (iB l a.toNat)))))]:=
 Spec.told (rl:=[]) (bor:=[0]) (zl l a ha hl) (fB rfl rfl rfl (aJ _) rfl trivial) rfl rfl
theorem aNg (k:aK) (hl:k.log.length≤900000):Sp 76 1 [tV 0 (.e (.agg [.d (.i (k).id),.d (.b (k).up),.d (.s (k).log),.d (.i (k).forced),.own 0 k.halves.length])),oR 0 138 6 (aZ k.halves)] [tV 0 (.tup [.agg [.d (.i (bA k).1.id),.d (.i (bA k).1.time),.d (.i (bA k).1.next),.d (.sl (aI (bA k).1.held)),.d (.sl (aS (bA k).1.marks)),.d (.sl (aI (bA k).1.inbox))],.c (.d (.b (bA k).2))]),oR 0 138 6 (aZ k.halves)]:=by
 refine sb Tryz.func76 rfl (sq (rT [1,2] (s3 (sq (rT [1,2,4] (s3 (xp (gM k.log (by omega)) (ai rfl ?_))))))))
 refine s5 (sq (rT [2,3] (s3 (xp (xP k.id (bG k.log).1 (kE k.log hl).1 (kE k.log hl).2) (ai rfl ?_)))))
 exact s4 (rt (eF _ [] [] rfl (aVx rfl (aR7 (aG rfl (aG rfl (aG rfl (aG rfl (aG rfl (aG rfl aN)))))) (aXr rfl aO9)) (bZ rfl rfl trivial)) rfl rfl))
theorem sM (a:Int) (f:cI):Sp 154 2 [tI 0 a,tV 1 f.V] [tV 0 ((bw a f).V)]:=by
 exact sb Tryz.func154 rfl (sq (rT [0,3,4] (s2 (sq (rT [4] (s9 (s6 (rt (eF _ [] [] rfl (eC rfl (aG rfl (aG rfl (aG rfl (aG rfl (aG rfl (aG rfl (aG rfl (aG rfl (aG rfl (aG rfl aN)))))))))) trivial) rfl rfl)))))))))
theorem aBd (k:aK) (f:cI) (hb:k.halves.length≤3) (hb2: ∀x∈k.halves,x.got.length≤14):Sp 158 2 [tV 0 (.e (.agg [.d (.i (k).id),.d (.b (k).up),.d (.s (k).log),.d (.i (k).forced),.own 0 k.halves.length])),(.t 1,.v f.V),oR 0 138 6 (aZ k.halves)] [tV 0 (.tup [.agg [.d (.i ((eE k (cB k.halves f).1)).id),.d (.b ((eE k (cB k.halves f).1)).up),.d (.s ((eE k (cB k.halves f).1)).log),.d (.i ((eE k (cB k.halves f).1)).forced),.d (.sl (aZ ((eE k (cB k.halves f).1)).halves))],.c (.d (.i (cB k.halves f).2))])]:=by
 have hlt:=yp (f:=f) hb
 have hg14:=aEk (f:=f) hb2
 refine sb Tryz.func158 rfl (sq (rT [2,3,4] (s4 (sq (wa [tP 2 2,tP 3 3,tP 4 4,oB 2 31 [.d (.i (k).id),.d (.b (k).up),.d (.s (k).log),.d (.i (k).forced),.own 0 k.halves.length],oB 3 63 [.d (.i f.kind),.d (.i f.src),.d (.i f.dst),.d (.i f.frm),.d (.i f.num),.d (.i f.to),.d (.i f.til),.d (.i f.size),.d (.i f.mix),.d (.s f.data)],oB 4 31 [.d (.i 0),.d (.b false),.d (.s []),.d (.i 0),.nil],oR 0 138 6 (aZ k.halves)] [] [] qz (rT [2,3,4,6] (s6 (bP (robj:=[(0,.row 138 6 (aZ k.halves))]) (rl:=[]) (bor:=[0]) (zk k.halves f.frm f.num (by omega)) rfl rfl rfl rfl ⟨fB rfl rfl rfl (aJ _) rfl (cQ rfl rfl (cQ rfl rfl trivial)),rfl⟩ rfl (.inr (fun p hp=>by simp at hp;subst hp;trivial)) (aM ⟨rfl,trivial⟩) (fun j hj=>nomatch hj) ?_))))))))
 refine s1 (SW.midW (fun q=>q=[tP 2 2,tP 3 3,tP 4 4,tI 6 ((dT k.halves f).2:Nat),oB 2 31 [.d (.i (k).id),.d (.b (k).up),.d (.s (k).log),.d (.i (k).forced),.own 50 (dT k.halves f).1.length],oB 3 63 [.d (.i f.kind),.d (.i f.src),.d (.i f.dst),.d (.i f.frm),.d (.i f.num),.d (.i f.to),.d (.i f.til),.d (.i f.size),.d (.i f.mix),.d (.s f.data)],oB 4 31 [.d (.i 0),.d (.b false),.d (.s []),.d (.i 0),.nil],oR 50 138 6 (aZ (dT k.halves f).1)]) ?_ ?_)
 · refine sq (rT [2,3,4,6,18] (s2 (cd rfl (fun c18=> ?_) fun c18=> ?_)))
   · have hneg:hP k.halves f.frm f.num<0:=by simpa using c18
     have hput:=de hneg
     refine SW.midW (fun q=>q=[tP 2 2,tP 3 3,tP 4 4,oB 2 31 [.d (.i (k).id),.d (.b (k).up),.d (.s (k).log),.d (.i (k).forced),.own 50 (hO k.halves).length],oB 3 63 [.d (.i f.kind),.d (.i f.src),.d (.i f.dst),.d (.i f.frm),.d (.i f.num),.d (.i f.to),.d (.i f.til),.d (.i f.size),.d (.i f.mix),.d (.s f.data)],oB 4 31 [.d (.i 0),.d (.b false),.d (.s []),.d (.i 0),.nil],oR 50 138 6 (aZ (hO k.halves))]) ?_ ?_
     · refine sq (rT [2,3,4,22] (s2 (ai (by exact aJ _) (s1 (cd rfl (fun c22=> ?_) fun c22=> ?_)))))
       · have h3:3≤k.halves.length:=by simp[aJ] at c22;omega
         have hcut:hO k.halves=iB k.halves (0:Int).toNat:=by unfold hO;rw[aC h3];rfl
         refine rE [2,3,4] (s2 (zG 24 0 rfl rfl (aJ _) (by rfl) (iO (bP (robj:=[]) (rl:=[(0,25)]) (bor:=[]) (zl k.halves 0 (by omega) (by omega)) rfl rfl rfl rfl ⟨cQ rfl rfl (cQ rfl rfl trivial),rfl⟩ rfl (.inl rfl) (fun p hp=>nomatch hp) (fun j hj=>by(obtain rfl:j=0:=by simpa[kU,cE,iS] using hj);rfl) (s2 ?_)))))
         first
         |(refine wq [(50,25)] [] (rfl) ?_
           repeat' apply ai
           all_goals first|exact qx|(rw[hcut];done)|(rw[hcut];simp[aJ];done)|(simp[aJ];done)|exact qz)
         |(refine wq [(50,0)] [] (rfl) ?_
           repeat' apply ai
           all_goals first|exact qx|(rw[hcut];done)|(rw[hcut];simp[aJ];done)|(simp[aJ];done)|exact qz)
       have h3: ¬3≤k.halves.length:=by simp[aJ] at c22;omega
       have hcut:hO k.halves=k.halves:=by unfold hO;rw[aB h3]
       refine sk ?_
       first
       |(refine wq [(50,25)] [] (rfl) ?_
         repeat' apply ai
         all_goals first|exact qx|(rw[hcut];done)|(rw[hcut];simp[aJ];done)|(simp[aJ];done)|exact qz)
       |(refine wq [(50,0)] [] (rfl) ?_
         repeat' apply ai
         all_goals first|exact qx|(rw[hcut];done)|(rw[hcut];simp[aJ];done)|(simp[aJ];done)|exact qz)
     rintro s rfl
     have hc2:=mn k.halves hb
     refine sq (rT [2,3,4] (s9 (s5 (ai (by exact⟨rfl,aJ _,by intro r hr;rw[List.mem_singleton.1 hr];rfl,by show(_+1)*64≤_;omega⟩) (s2 (rT [2,3,4,6] (s2 (ai (by first|rfl|(simp[aJ];done)) (s2 ?_)))))))))
     first
     |(refine wq [] [] (rfl) ?_
       repeat' apply ai
       all_goals first|exact qx|(rw[hput];done)|(rw[hput];rfl)|(rw[hput];simp[aJ];done)|(rw[hput];exact pH _ (sW f))|(simp[aJ];done)|(rw[hput];show D.i _=D.i (((hO k.halves).length:Nat):Int);refine aA D.i ?_;simp only[aXz,aX1,aX2,aJ];rw[aF (by omega)];omega)|(rw[hput];show D.i _=D.i (((hP k.halves f.frm f.num).toNat:Nat):Int);exact aA D.i (Int.toNat_of_nonneg (by omega)).symm)|exact qz)
     |(refine wq [(50,0)] [] (rfl) ?_
       repeat' apply ai
       all_goals first|exact qx|(rw[hput];done)|(rw[hput];rfl)|(rw[hput];simp[aJ];done)|(rw[hput];exact pH _ (sW f))|(simp[aJ];done)|(rw[hput];show D.i _=D.i (((hO k.halves).length:Nat):Int);refine aA D.i ?_;simp only[aXz,aX1,aX2,aJ];rw[aF (by omega)];omega)|(rw[hput];show D.i _=D.i (((hP k.halves f.frm f.num).toNat:Nat):Int);exact aA D.i (Int.toNat_of_nonneg (by omega)).symm)|exact qz)
   have hneg: ¬hP k.halves f.frm f.num<0:=by simpa using c18
   have hput:=iz hneg
   refine sk ?_
   first
   |(refine wq [] [] (rfl) ?_
     repeat' apply ai
     all_goals first|exact qx|(rw[hput];done)|(rw[hput];rfl)|(rw[hput];simp[aJ];done)|(rw[hput];exact pH _ (sW f))|(simp[aJ];done)|(rw[hput];show D.i _=D.i (((hO k.halves).length:Nat):Int);refine aA D.i ?_;simp only[aXz,aX1,aX2,aJ];rw[aF (by omega)];omega)|(rw[hput];show D.i _=D.i (((hP k.halves f.frm f.num).toNat:Nat):Int);exact aA D.i (Int.toNat_of_nonneg (by omega)).symm)|exact qz)
   |(refine wq [(50,0)] [] (rfl) ?_
     repeat' apply ai
     all_goals first|exact qx|(rw[hput];done)|(rw[hput];rfl)|(rw[hput];simp[aJ];done)|(rw[hput];exact pH _ (sW f))|(simp[aJ];done)|(rw[hput];show D.i _=D.i (((hO k.halves).length:Nat):Int);refine aA D.i ?_;simp only[aXz,aX1,aX2,aJ];rw[aF (by omega)];omega)|(rw[hput];show D.i _=D.i (((hP k.halves f.frm f.num).toNat:Nat):Int);exact aA D.i (Int.toNat_of_nonneg (by omega)).symm)|exact qz)
 rintro s rfl
 refine sq (rT [2,3,4,6,7] (s3 (ai (by exact⟨aJ _,by omega,by omega⟩) (ai (by rw[aXy,gJ hlt.1];exact⟨⟨aJ _,hlt.1⟩,aX0 rfl,rfl⟩) (s2 (sq (sq (wa [tP 2 2,tP 3 3,tP 4 4,tP 7 7,tI 6 ((dT k.halves f).2:Nat),oB 2 31 [.d (.i (k).id),.d (.b (k).up),.d (.s (k).log),.d (.i (k).forced),.own 50 (dT k.halves f).1.length],oB 3 63 [.d (.i f.kind),.d (.i f.src),.d (.i f.dst),.d (.i f.frm),.d (.i f.num),.d (.i f.to),.d (.i f.til),.d (.i f.size),.d (.i f.mix),.d (.s f.data)],oB 4 31 [.d (.i 0),.d (.b false),.d (.s []),.d (.i 0),.nil],oB 7 138 [.d (.i ((bX k.halves f)).frm),.d (.i ((bX k.halves f)).num),.d (.i ((bX k.halves f)).to),.d (.i ((bX k.halves f)).til),.d (.i ((bX k.halves f)).size),.d (.sl (cN ((bX k.halves f)).got))],oR 50 138 6 (aZ (dT k.halves f).1)] [] [] ?_ ?_))))))))
 · repeat' apply ai
   all_goals first|exact qx|(rw[aXy,gJ hlt.1];rfl)|rfl|exact qz
 refine rT [2,3,4,6,7,70] (s6 (y4 (y1 (ai pk (s1 (y4 (y1 (ai pk (cd rfl (fun c70=> ?_) fun c70=> ?_)))))))))
 · have hno: ¬rL (bX k.halves f) f=true:=by intro h;simp only[rL,aX3,beq_iff_eq] at h;simp[h.1.1,h.1.2,h.2] at c70
   have hadd:=ja hno
   refine sq (rT [4,5] (s3 (rt (rq [] [50] rfl ?_))))
   repeat' apply ai
   all_goals try exact qx
   all_goals(first|with_reducible rfl|(rw[hadd];done)|(rw[hadd];rfl)|exact aJ _)
 have hyes:rL (bX k.halves f) f=true:=by simp at c70;simp[rL,c70]
 have hadd:=df hyes
 refine sk (sq (rT [2,3,4,6,7,8] (s2 (sq (sq (rT [2,3,4,6,7,8,9] (s1 (bk (SW.loopW (n:=(bX k.halves f).got.length) (fun m q=> ∃i:Nat,m=(bX k.halves f).got.length - i∧i≤(bX k.halves f).got.length∧q=[tP 2 2,tP 3 3,tP 4 4,tP 7 7,tI 6 ((dT k.halves f).2:Nat),tO 8 72 (iW ((bX k.halves f).got.take (i)) f.mix).length,tI 9 (i:Nat),oB 2 31 [.d (.i (k).id),.d (.b (k).up),.d (.s (k).log),.d (.i (k).forced),.own 50 (dT k.halves f).1.length],oB 3 63 [.d (.i f.kind),.d (.i f.src),.d (.i f.dst),.d (.i f.frm),.d (.i f.num),.d (.i f.to),.d (.i f.til),.d (.i f.size),.d (.i f.mix),.d (.s f.data)],oB 4 31 [.d (.i 0),.d (.b false),.d (.s []),.d (.i 0),.nil],oB 7 138 [.d (.i ((bX k.halves f)).frm),.d (.i ((bX k.halves f)).num),.d (.i ((bX k.halves f)).to),.d (.i ((bX k.halves f)).til),.d (.i ((bX k.halves f)).size),.d (.sl (cN ((bX k.halves f)).got))],oR 50 138 6 (aZ (dT k.halves f).1),oR 72 86 2 (cN (iW ((bX k.halves f).got.take (i)) f.mix))]) ?_ ?_)))))))))
 · refine wq (σ':=[tP 2 2,tP 3 3,tP 4 4,tP 7 7,tI 6 ((dT k.halves f).2:Nat),tO 8 72 (iW ((bX k.halves f).got.take (0)) f.mix).length,tI 9 (0:Nat),oB 2 31 [.d (.i (k).id),.d (.b (k).up),.d (.s (k).log),.d (.i (k).forced),.own 50 (dT k.halves f).1.length],oB 3 63 [.d (.i f.kind),.d (.i f.src),.d (.i f.dst),.d (.i f.frm),.d (.i f.num),.d (.i f.to),.d (.i f.til),.d (.i f.size),.d (.i f.mix),.d (.s f.data)],oB 4 31 [.d (.i 0),.d (.b false),.d (.s []),.d (.i 0),.nil],oB 7 138 [.d (.i ((bX k.halves f)).frm),.d (.i ((bX k.halves f)).num),.d (.i ((bX k.halves f)).to),.d (.i ((bX k.halves f)).til),.d (.i ((bX k.halves f)).size),.d (.sl (cN ((bX k.halves f)).got))],oR 50 138 6 (aZ (dT k.halves f).1),oR 72 86 2 (cN (iW ((bX k.halves f).got.take (0)) f.mix))]) [] [] (⟨0,rfl,aX5 _,rfl⟩) ?_
   repeat' apply ai
   all_goals first|exact qx|rfl|exact qz
 rintro n s ⟨i,rfl,hi,rfl⟩
 refine sq (sq (rT [2,3,4,6,7,8,9,77] (s5 (cd rfl (fun c77=> ?_) fun c77=> ?_))))
 · have hi2:i< (bX k.halves f).got.length:=by simpa[bL] using c77
   have hg:=mS (l:=(bX k.halves f).got) hi2
   have hts:=eX (z:=iJ.zero) hi2
   have hle:=yq ((bX k.halves f).got.take i) f.mix
   rw[aX4] at hle
   refine sk (sq (bk (sq (rD [2,3,4,6,7,8,9,88] (s3 (ai (by rw[aXy,hg];exact⟨⟨by omega,by rw[bL];omega⟩,rfl⟩) (s1 (ai (by rw[aXy,hg];exact⟨aX0 rfl,rfl⟩) (s3 (ai (by kernel_rfl) (cd rfl (fun c88=> ?_) fun c88=> ?_)))))))))))
   · have hlg:=aG4 (l:=(bX k.halves f).got.take i) (m:=(bX k.halves f).got.getD i .zero) (n:=f.mix) (by rw[aXy,hg] at c88;exact c88)
     refine rT [2,3,4,6,7,8,9] (s4 (ai (by rw[aXy,hg];exact⟨⟨by omega,by rw[bL];omega⟩,rfl⟩) (ai (by rw[aXy,hg];exact⟨aX0 rfl,rfl⟩) (s1 (ai (by exact⟨rfl,bL _,by intro r hr;rw[List.mem_singleton.1 hr];rfl,by show(_+1)*24≤_;omega⟩) (s1 (rT [2,3,4,6,7,8,9] (s3 (wq [] [] (⟨(bX k.halves f).got.length - (i+1),by omega,i+1,rfl,by omega,rfl⟩) ?_)))))))))
     repeat' apply ai
     all_goals first|exact qx|exact aA D.i (by rw[aF (by omega)];omega)|(rw[hts,hlg];done)|(rw[hts,hlg,aXz];rfl)|(rw[hts,hlg];simp[bL];done)|(rw[hts,hlg,aXy,hg];exact zV _ _)|exact qz
   have hlg:=aJj (l:=(bX k.halves f).got.take i) (m:=(bX k.halves f).got.getD i .zero) (n:=f.mix) (by rw[aXy,hg] at c88;exact c88)
   refine sk (rT [2,3,4,6,7,8,9] (s3 (wq [] [] (⟨(bX k.halves f).got.length - (i+1),by omega,i+1,rfl,by omega,rfl⟩) ?_)))
   repeat' apply ai
   all_goals first|exact qx|exact aA D.i (by rw[aF (by omega)];omega)|(rw[hts,hlg];done)|(rw[hts,hlg,aXz];rfl)|(rw[hts,hlg];simp[bL];done)|(rw[hts,hlg,aXy,hg];exact zV _ _)|exact qz
 have hi3:i=(bX k.halves f).got.length:=by simp[bL] at c77;omega
 subst hi3
 clear hi
 have hle:=yq (bX k.halves f).got f.mix
 refine xt (SW.midW (fun q=>q=[tP 2 2,tP 3 3,tP 4 4,tP 7 7,tI 6 ((dT k.halves f).2:Nat),tO 8 60 (sJ (iW (bX k.halves f).got f.mix)).length,oB 2 31 [.d (.i (k).id),.d (.b (k).up),.d (.s (k).log),.d (.i (k).forced),.own 50 (dT k.halves f).1.length],oB 3 63 [.d (.i f.kind),.d (.i f.src),.d (.i f.dst),.d (.i f.frm),.d (.i f.num),.d (.i f.to),.d (.i f.til),.d (.i f.size),.d (.i f.mix),.d (.s f.data)],oB 4 31 [.d (.i 0),.d (.b false),.d (.s []),.d (.i 0),.nil],oB 7 138 [.d (.i ((bX k.halves f)).frm),.d (.i ((bX k.halves f)).num),.d (.i ((bX k.halves f)).to),.d (.i ((bX k.halves f)).til),.d (.i ((bX k.halves f)).size),.d (.sl (cN ((bX k.halves f)).got))],oR 50 138 6 (aZ (dT k.halves f).1),oR 60 86 2 (cN (sJ (iW (bX k.halves f).got f.mix)))]) ?_ ?_)
 · refine sq (rT [2,3,4,6,7,8,99] (s1 (ai (by exact bL _) (s1 (cd rfl (fun c99=> ?_) fun c99=> ?_)))))
   · have h14:14≤(iW (bX k.halves f).got f.mix).length:=by rw[aYe] at c99;simp[bL] at c99;omega
     have hcg:sJ (iW (bX k.halves f).got f.mix)=(iW (bX k.halves f).got f.mix).drop 1:=by unfold sJ;rw[aC h14]
     refine rE [2,3,4,6,7,8] (s2 (zG 101 72 rfl rfl (by simp[bL]) (by rfl) (iO (sx cK rfl (by exact⟨⟨by simp,by simp[bL] at *; omega,by simp⟩,rC _⟩) (ai (by rw[aYe];exact⟨trivial,rfl,aGm _ _ _,by have h9:=Nat.le_trans (show(((cN (iW (bX k.halves f).got f.mix)).take (gB none (cN (iW (bX k.halves f).got f.mix)).length)).drop (eZ (some 1))).length≤(cN (iW (bX k.halves f).got f.mix)).length by rw[aX7,aX4];omega) (Nat.le_of_eq (bL _));simp only[aX2];show _*24≤_;omega⟩) (s1 ?_))))))
     first
     |(refine wq [(60,72)] [] (rfl) ?_
       repeat' apply ai
       all_goals first|exact qx|(rw[hcg];done)|(rw[hcg,aYe];done)|(rw[hcg];simp[bL,gB,eZ];done)|(simp[bL];done)|(rw[hcg];simp[gB,eZ,cN,List.map_drop];done)|(rw[hcg];simp[gB,eZ,cN,List.map_drop];rw[List.take_of_length_le (by simp)];done)|exact qz)
     |(refine wq [(60,100)] [] (rfl) ?_
       repeat' apply ai
       all_goals first|exact qx|(rw[hcg];done)|(rw[hcg,aYe];done)|(rw[hcg];simp[bL,gB,eZ];done)|(simp[bL];done)|(rw[hcg];simp[gB,eZ,cN,List.map_drop];done)|(rw[hcg];simp[gB,eZ,cN,List.map_drop];rw[List.take_of_length_le (by simp)];done)|exact qz)
   have h14: ¬14≤(iW (bX k.halves f).got f.mix).length:=by rw[aYe] at c99;simp[bL] at c99;omega
   have hcg:sJ (iW (bX k.halves f).got f.mix)=(iW (bX k.halves f).got f.mix):=by unfold sJ;rw[aB h14]
   refine sk ?_
   first
   |(refine wq [(60,72)] [] (rfl) ?_
     repeat' apply ai
     all_goals first|exact qx|(rw[hcg];done)|(rw[hcg,aYe];done)|(rw[hcg];simp[bL,gB,eZ];done)|(simp[bL];done)|(rw[hcg];simp[gB,eZ,cN,List.map_drop];done)|(rw[hcg];simp[gB,eZ,cN,List.map_drop];rw[List.take_of_length_le (by simp)];done)|exact qz)
   |(refine wq [(60,100)] [] (rfl) ?_
     repeat' apply ai
     all_goals first|exact qx|(rw[hcg];done)|(rw[hcg,aYe];done)|(rw[hcg];simp[bL,gB,eZ];done)|(simp[bL];done)|(rw[hcg];simp[gB,eZ,cN,List.map_drop];done)|(rw[hcg];simp[gB,eZ,cN,List.map_drop];rw[List.take_of_length_le (by simp)];done)|exact qz)
 rintro s rfl
 have hcl: (sJ (iW (bX k.halves f).got f.mix)).length≤14:=by unfold sJ;split<;>(try rw[aX7])<;>omega
 refine sq (rT [2,4,6,7] (s7 (ai (by exact⟨rfl,bL _,by intro r hr;rw[List.mem_singleton.1 hr];rfl,by show(_+1)*24≤_;omega⟩) (s2 (sq (wa [tP 2 2,tP 4 4,tP 7 7,tI 6 ((dT k.halves f).2:Nat),oB 2 31 [.d (.i (k).id),.d (.b (k).up),.d (.s (k).log),.d (.i (k).forced),.own 50 (dT k.halves f).1.length],oB 3 63 [.d (.i f.kind),.d (.i f.src),.d (.i f.dst),.d (.i f.frm),.d (.i f.num),.d (.i f.to),.d (.i f.til),.d (.i f.size),.d (.i f.mix),.d (.s f.data)],oB 4 31 [.d (.i 0),.d (.b false),.d (.s []),.d (.i 0),.nil],oB 7 138 [.d (.i ((uP (bX k.halves f) f)).frm),.d (.i ((uP (bX k.halves f) f)).num),.d (.i ((uP (bX k.halves f) f)).to),.d (.i ((uP (bX k.halves f) f)).til),.d (.i ((uP (bX k.halves f) f)).size),.d (.sl (cN ((uP (bX k.halves f) f)).got))],oR 50 138 6 (aZ (dT k.halves f).1)] [] [60] ?_ ?_))))))
 · repeat' apply ai
   all_goals first|exact qx|rfl|(exact aA D.sl (zV _ ⟨f.mix,f.data⟩).symm)|(simp[bL];done)|exact qz
 refine rT [2,4,6] (s4 (ai (by exact⟨aJ _,by omega,by omega⟩) (ai (by rw[aXy,gJ hlt.1];exact⟨aJ _,hlt.1,rfl,aX0 rfl⟩) (sq (rT [4,5] (s4 (rt (rq [] [50] rfl ?_))))))))
 repeat' apply ai
 all_goals try exact qx
 all_goals(first|with_reducible rfl|(rw[hadd];done)|(rw[hadd];rfl)|(rw[aXy,hadd];exact aA D.sl (aEj (h:=uP (bX k.halves f) f) hlt.1).symm)|(simp[aJ];done))
end Go.Proofs.YtmabaopgkimfmaaGreatDoor
