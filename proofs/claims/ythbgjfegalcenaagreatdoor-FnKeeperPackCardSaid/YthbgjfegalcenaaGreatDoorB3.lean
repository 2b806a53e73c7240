/- Plain functions, and contracts of the functions that the law reaches. -/
import Derived.Test.YthbgjfegalcenaaGreatDoorB2
namespace Go.Proofs.YthbgjfegalcenaaGreatDoor
open Int renaming toNat_natCast→aWz
open List renaming length_append→aW0,length_nil→aW2,length_cons→aW3,length_take→aW5,getD_eq_getElem?_getD→aW7,getElem?_eq_getElem→aW8,length_drop→aW9,getElem?_eq_some_iff→aXb,range→aXc,mem_map→aXd,all_eq_true→aXe,take_length→aXf
open Nat renaming le_of_ble_eq_true→aW1,zero_le→aW6,le_refl→aXa
open Bool renaming and_eq_true→aW4
open Go Go.Ab Go.RowKit
set_option linter.unusedVariables false
set_option linter.unusedSimpArgs false
set_option maxRecDepth 9000
set_option maxHeartbeats 1600000 in
theorem gv (k:bB) (n:bA) (hb:k.held.length≤100000∧k.marks.length≤100000∧k.inbox.length≤100000) (hn:n.text.length≤140737488355328):Sp 184 2 [tV 0 k.V,tV 1 n.V] [tV 0 (.tup [.agg [.d (.i ((iI k n).1).id),.d (.i ((iI k n).1).time),.d (.i ((iI k n).1).next),.d (.sl (aE ((iI k n).1).held)),.d (.sl (aO ((iI k n).1).marks)),.d (.sl (aE ((iI k n).1).inbox))],.c (.d (.b (iI k n).2))])]:=by
 refine sb Tryz.func184 rfl (sq (rT [2,3,4] (s4 (sq (sq (rT [2,3,4,56] (s1 (xp (sU n hn) (ai rfl ?_)))))))))
 refine s2 (y4 (y1 (ai pk (s1 (y4 (y2 (xc (fun h=>(nF k.held _ _ (by omega))) (ai rfl (ai rk ?_)))))))))
 refine y1 (ai pk (s1 (y4 (y2 (xc (fun h=>(nF k.inbox _ _ (by omega))) (ai rfl (ai rk ?_)))))))
 refine y1 (ai pk (s1 (y4 (y2 (xc (fun h=>(sV k.marks _ _ (by omega))) (ai rfl (ai rk ?_)))))))
 refine y1 (ai pk (s1 (y4 (y4 (y1 (ai pk (cd rfl (fun c56=> ?_) fun c56=> ?_)))))))
 · have ha:=vu hb c56
   refine sq (rT [4,5] (s3 (rt ?_)))
   have hr:iI k n=(k,false):=if_neg (bn ha)
   refine bO rfl rfl ?_
   rw[hr]<;>rfl
 have ha:=vu hb c56
 refine sk (sq (sq (rT [2,3,4,62] (s5 (cd rfl (fun c62=> ?_) fun c62=> ?_)))))
 · refine sq (rT [2,3,4] (s3 (xp (sW k.inbox n hb.2.2) (ai rfl ?_))))
   refine s2 (rT [2,4] (s9 (xp (xO k.marks ⟨n.frm,n.num,n.til⟩ hb.2.1) (ai rfl ?_))))
   refine s2 (sq (rT [4,5] (s3 (rt ?_))))
   first|have hr:=aB2 ha c62|have hr:=aB3 ha c62
   refine bO rfl rfl ?_
   rw[hr]<;>rfl
 refine rT [2,4] (s3 (xp (sW k.held n hb.1) (ai rfl ?_)))
 refine s2 (sq (rT [4,5] (s3 (rt ?_))))
 first|have hr:=aB2 ha c62|have hr:=aB3 ha c62
 refine bO rfl rfl ?_
 rw[hr]<;>rfl
theorem aEi (k:bB) (w:List UInt8) (n:Int) (hb:k.held.length≤100000∧k.marks.length≤100000∧k.inbox.length≤100000):Sp 150 3 [tV 0 k.V,tD 1 (.s w),tI 2 n] [tV 0 (.tup [.agg [.d (.i ((lF k w n).1).id),.d (.i ((lF k w n).1).time),.d (.i ((lF k w n).1).next),.d (.sl (aE ((lF k w n).1).held)),.d (.sl (aO ((lF k w n).1).marks)),.d (.sl (aE ((lF k w n).1).inbox))],.c (.d (.b (lF k w n).2))])]:=by
 refine sb Tryz.func150 rfl (sq (rT [1,2,3,6] (s3 (sq (bk (sq (rT [1,2,3,6,8] (s3 (y4 (ai pk (s1 (cd rfl (fun c8=> ?_) fun c8=> ?_))))))))))))
 · refine sq (rT [6,7] (s2 (xp (ym k n hb) (ai rfl ?_))))
   refine s2 (rt ?_)
   have hr:lF k w n=(kU k n,true):=if_pos c8
   refine bO rfl rfl ?_
   rw[hr]<;>rfl
 refine sq (rT [2,3,6,20] (s3 (y4 (ai pk (s1 (cd rfl (fun c20=> ?_) fun c20=> ?_))))))
 · refine sq (rT [3,6] (s3 (sq (rT [6,7] (s3 (rt ?_))))))
   have hr:lF k w n=({k with next:=n},true):=(if_neg (bn c8)).trans (if_pos c20)
   refine bO rfl rfl ?_
   rw[hr]<;>rfl
 refine sk (sq (rT [6,7] (s3 (rt ?_))))
 have hr:lF k w n=(k,false):=(if_neg (bn c8)).trans (if_neg (bn c20))
 refine bO rfl rfl ?_
 rw[hr]<;>rfl
set_option maxHeartbeats 1600000 in
theorem aAq (k:bB) (w:List UInt8) (n:bA) (hb:k.held.length≤100000∧k.marks.length≤100000∧k.inbox.length≤100000) (hn:n.text.length≤140737488355328):Sp 152 3 [tV 0 k.V,tD 1 (.s w),tV 2 n.V] [tV 0 (.tup [.agg [.d (.i ((gC k w n).1).id),.d (.i ((gC k w n).1).time),.d (.i ((gC k w n).1).next),.d (.sl (aE ((gC k w n).1).held)),.d (.sl (aO ((gC k w n).1).marks)),.d (.sl (aE ((gC k w n).1).inbox))],.c (.d (.b (gC k w n).2))])]:=by
 refine sb Tryz.func152 rfl (sq (rT [1,3,5,6] (s4 (sq (bk (sq (rT [1,3,5,6,8] (s3 (y4 (y1 (ai pk (s1 (y4 (y1 (ai pk (s1 (cd rfl (fun c8=> ?_) fun c8=> ?_)))))))))))))))))
 · refine sq (rT [3,5,6] (s5 (sq (rT [6,7] (s2 (xp (gv {k with next:=wrap64 (k.next+1)} n hb hn) (ai rfl ?_)))))))
   refine s4 (rt ?_)
   have hr:gC k w n=iI {k with next:=wrap64 (k.next+1)} n:=if_pos c8
   refine bO rfl rfl ?_
   rw[hr]<;>rfl
 refine sq (rT [1,3,5,6,34] (s3 (y4 (y1 (ai pk (s1 (cd rfl (fun c34=> ?_) fun c34=> ?_)))))))
 · refine sq (rT [6,7] (s2 (xp (gv k n hb hn) (ai rfl ?_))))
   refine s4 (rt ?_)
   have hr:gC k w n=iI k n:=(if_neg (bn c8)).trans (if_pos c34)
   refine bO rfl rfl ?_
   rw[hr]<;>rfl
 refine sq (rT [1,3,5,6,49] (s6 (xp (nF k.held _ _ (by omega)) (ai rfl ?_))))
 refine s2 (y4 (y2 (xc (fun h=>(nF k.inbox _ _ (by omega))) (ai rfl (ai rk ?_)))))
 refine y1 (ai pk (s1 (cd rfl (fun c49=> ?_) fun c49=> ?_)))
 · refine sk (sq (rT [6,7] (s3 (rt ?_))))
   have hr:gC k w n=(k,false):=by
    first|exact(if_neg (bn c8)).trans ((if_neg (bn c34)).trans (if_pos c49))|exact(if_neg (bn c8)).trans ((if_neg (bn c34)).trans ((if_neg (bn c49)).trans ((if_neg (bn c68)).trans (if_neg (bn c77)))))
   refine bO rfl rfl ?_
   rw[hr]<;>rfl
 refine sq (rT [1,3,5,6,68] (s3 (cd rfl (fun c68=> ?_) fun c68=> ?_)))
 · refine sq (rT [3,6] (s3 (xp (sW k.held n hb.1) (ai rfl ?_))))
   refine s2 (sq (rT [6,7] (s3 (rt ?_))))
   have hr:gC k w n=({k with held:=kC k.held n},true):=(if_neg (bn c8)).trans ((if_neg (bn c34)).trans ((if_neg (bn c49)).trans (if_pos c68)))
   refine bO rfl rfl ?_
   rw[hr]<;>rfl
 refine sq (rT [3,5,6,77] (s3 (cd rfl (fun c77=> ?_) fun c77=> ?_)))
 · refine sq (rT [3,6] (s3 (xp (sW k.inbox n hb.2.2) (ai rfl ?_))))
   refine s2 (sq (rT [6,7] (s3 (rt ?_))))
   have hr:gC k w n=({k with inbox:=kC k.inbox n},true):=(if_neg (bn c8)).trans ((if_neg (bn c34)).trans ((if_neg (bn c49)).trans ((if_neg (bn c68)).trans (if_pos c77))))
   refine bO rfl rfl ?_
   rw[hr]<;>rfl
 refine sk (sq (rT [6,7] (s3 (rt ?_))))
 have hr:gC k w n=(k,false):=by
  first|exact(if_neg (bn c8)).trans ((if_neg (bn c34)).trans (if_pos c49))|exact(if_neg (bn c8)).trans ((if_neg (bn c34)).trans ((if_neg (bn c49)).trans ((if_neg (bn c68)).trans (if_neg (bn c77)))))
 refine bO rfl rfl ?_
 rw[hr]<;>rfl
set_option maxHeartbeats 1600000 in
theorem aAr (k:bB) (w:List UInt8) (m:cB) (hb:k.held.length≤100000∧k.marks.length≤100000∧k.inbox.length≤100000):Sp 155 3 [tV 0 k.V,tD 1 (.s w),tV 2 m.V] [tV 0 (.tup [.agg [.d (.i ((iX k w m).1).id),.d (.i ((iX k w m).1).time),.d (.i ((iX k w m).1).next),.d (.sl (aE ((iX k w m).1).held)),.d (.sl (aO ((iX k w m).1).marks)),.d (.sl (aE ((iX k w m).1).inbox))],.c (.d (.b (iX k w m).2))])]:=by
 refine sb Tryz.func155 rfl (sq (rT [1,3,5,6] (s4 (sq (rD [1,3,5,6,8,9] (s6 (xp (nF k.held _ _ (by omega)) (ai rfl ?_))))))))
 refine s6 (xp (nF k.inbox _ _ (by omega)) (ai rfl ?_))
 refine s2 (ai (by kernel_rfl) (sq (rT [1,3,5,6,8,9,10] (s6 (xp (sV k.marks _ _ (by omega)) (ai rfl ?_))))))
 refine s2 (sq (bk (sq (rD [1,3,5,6,8,9,10,33] (s3 (y2 (ai pk (s1 (y3 (ai (fun h=>(by skip;have hp:0≤aW k.held m.frm m.num:=(by have h8:=h;simp only[gb,aW4,decide_eq_true_eq] at h8;exact h8.2);have hr:=fV k.held m.frm m.num;rw[aR (by omega)];exact⟨⟨hp,by rw[aB];omega⟩,rfl⟩)) (ai rk (y1 (ai (fun h=>(by have hp:0≤aW k.held m.frm m.num:=(by have h8:=h;simp only[gb,aW4,decide_eq_true_eq] at h8;exact h8.2);have hr:=fV k.held m.frm m.num;rw[aR (by omega)];exact⟨aW1 rfl,rfl⟩)) (ai rk (y3 (ai pk (s1 (ai (by kernel_rfl) (cd rfl (fun c33=> ?_) fun c33=> ?_)))))))))))))))))))
 · have hc: (w==nP&&decide (0≤aW k.held m.frm m.num)&&(k.held.getD (aW k.held m.frm m.num).toNat .zero).til==m.til)=true:=by
    have h9:=c33
    by_cases hp:0≤aW k.held m.frm m.num
    · have hr:=fV k.held m.frm m.num
      rw[aR (by omega)] at h9
      exact h9
    · rw[show decide (aW k.held m.frm m.num≥0)=false from decide_eq_false hp,Bool.and_false,Bool.false_and] at h9
      rw[show decide (0≤aW k.held m.frm m.num)=false from decide_eq_false hp,Bool.and_false,Bool.false_and]<;>exact h9
   have hp:0≤aW k.held m.frm m.num:=by
    simp only[aW4,decide_eq_true_eq] at hc
    exact hc.1.2
   have hr:=fV k.held m.frm m.num
   refine sq (rT [3,5,6] (s3 (xp (dy k.held (aW k.held m.frm m.num) ⟨hp,by omega⟩ hb.1) (ai rfl ?_))))
   refine s2 (sq (rT [3,6] (s3 (xp (xO k.marks m hb.2.1) (ai rfl ?_)))))
   refine s2 (sq (rT [6,7] (s3 (rt ?_))))
   have hr:iX k w m=({k with held:=gX k.held (aW k.held m.frm m.num).toNat,marks:=qN k.marks m},true):=if_pos hc
   refine bO rfl rfl ?_
   rw[hr]<;>rfl
 have hc: (w==nP&&decide (0≤aW k.held m.frm m.num)&&(k.held.getD (aW k.held m.frm m.num).toNat .zero).til==m.til)=false:=by
  have h9:=c33
  by_cases hp:0≤aW k.held m.frm m.num
  · have hr:=fV k.held m.frm m.num
    rw[aR (by omega)] at h9
    exact h9
  · rw[show decide (aW k.held m.frm m.num≥0)=false from decide_eq_false hp,Bool.and_false,Bool.false_and] at h9
    rw[show decide (0≤aW k.held m.frm m.num)=false from decide_eq_false hp,Bool.and_false,Bool.false_and]<;>exact h9
 have hc1:=hc
 clear hc
 refine sq (rD [1,3,5,6,9,10,62] (s3 (y2 (ai pk (s1 (y3 (ai (fun h=>(by skip;have hp:0≤aW k.inbox m.frm m.num:=(by have h8:=h;simp only[gb,aW4,decide_eq_true_eq] at h8;exact h8.2);have hr:=fV k.inbox m.frm m.num;rw[aR (by omega)];exact⟨⟨hp,by rw[aB];omega⟩,rfl⟩)) (ai rk (y1 (ai (fun h=>(by have hp:0≤aW k.inbox m.frm m.num:=(by have h8:=h;simp only[gb,aW4,decide_eq_true_eq] at h8;exact h8.2);have hr:=fV k.inbox m.frm m.num;rw[aR (by omega)];exact⟨aW1 rfl,rfl⟩)) (ai rk (y3 (ai pk (s1 (ai (by kernel_rfl) (cd rfl (fun c62=> ?_) fun c62=> ?_))))))))))))))))
 · have hc: (w==mS&&decide (0≤aW k.inbox m.frm m.num)&&(k.inbox.getD (aW k.inbox m.frm m.num).toNat .zero).til==m.til)=true:=by
    have h9:=c62
    by_cases hp:0≤aW k.inbox m.frm m.num
    · have hr:=fV k.inbox m.frm m.num
      rw[aR (by omega)] at h9
      exact h9
    · rw[show decide (aW k.inbox m.frm m.num≥0)=false from decide_eq_false hp,Bool.and_false,Bool.false_and] at h9
      rw[show decide (0≤aW k.inbox m.frm m.num)=false from decide_eq_false hp,Bool.and_false,Bool.false_and]<;>exact h9
   have hp:0≤aW k.inbox m.frm m.num:=by
    simp only[aW4,decide_eq_true_eq] at hc
    exact hc.1.2
   have hr:=fV k.inbox m.frm m.num
   refine sq (rT [3,6] (s3 (xp (dy k.inbox (aW k.inbox m.frm m.num) ⟨hp,by omega⟩ hb.2.2) (ai rfl ?_))))
   refine s2 (sq (rT [6,7] (s3 (rt ?_))))
   have hr:iX k w m=({k with inbox:=gX k.inbox (aW k.inbox m.frm m.num).toNat},true):=(if_neg (bn hc1)).trans (if_pos hc)
   refine bO rfl rfl ?_
   rw[hr]<;>rfl
 have hc: (w==mS&&decide (0≤aW k.inbox m.frm m.num)&&(k.inbox.getD (aW k.inbox m.frm m.num).toNat .zero).til==m.til)=false:=by
  have h9:=c62
  by_cases hp:0≤aW k.inbox m.frm m.num
  · have hr:=fV k.inbox m.frm m.num
    rw[aR (by omega)] at h9
    exact h9
  · rw[show decide (aW k.inbox m.frm m.num≥0)=false from decide_eq_false hp,Bool.and_false,Bool.false_and] at h9
    rw[show decide (0≤aW k.inbox m.frm m.num)=false from decide_eq_false hp,Bool.and_false,Bool.false_and]<;>exact h9
 refine sq (rT [3,5,6,86] (s3 (y2 (ai pk (s1 (cd rfl (fun c86=> ?_) fun c86=> ?_))))))
 · have hm: (w==iD&&decide (gR k.marks m.frm m.num<0))=true:=by
    have h9:=c86
    rw[aBv,Bool.not_not] at h9
    exact h9
   refine sq (rT [3,6] (s3 (xp (xO k.marks m hb.2.1) (ai rfl ?_))))
   refine s2 (sq (rT [6,7] (s3 (rt ?_))))
   have hr:iX k w m=({k with marks:=qN k.marks m},true):=(if_neg (bn hc1)).trans ((if_neg (bn hc)).trans (if_pos hm))
   refine bO rfl rfl ?_
   rw[hr]<;>rfl
 have hm: (w==iD&&decide (gR k.marks m.frm m.num<0))=false:=by
  have h9:=c86
  rw[aBv,Bool.not_not] at h9
  exact h9
 refine sk (sq (rT [6,7] (s3 (rt ?_))))
 have hr:iX k w m=(k,false):=(if_neg (bn hc1)).trans ((if_neg (bn hc)).trans (if_neg (bn hm)))
 refine bO rfl rfl ?_
 rw[hr]<;>rfl
set_option maxHeartbeats 3200000 in
theorem aEj (k:bB) (rec:List UInt8) (hb:k.held.length≤100000∧k.marks.length≤100000∧k.inbox.length≤100000) (hr:rec.length≤900000):Sp 111 2 [tV 0 k.V,tD 1 (.s rec)] [tV 0 (.tup [.agg [.d (.i ((eS k rec).1).id),.d (.i ((eS k rec).1).time),.d (.i ((eS k rec).1).next),.d (.sl (aE ((eS k rec).1).held)),.d (.sl (aO ((eS k rec).1).marks)),.d (.sl (aE ((eS k rec).1).inbox))],.c (.d (.b (eS k rec).2))])]:=by
 have hl1:=uY rec
 have hl2:=fa rec
 have hl3:=zP (aP rec)
 refine sb Tryz.func111 rfl (sq (rT [1,2,4] (s3 (sq (rT [2,4,6,7,8] (s1 (xp (aAp rec (by omega)) (ai rfl ?_))))))))
 refine s7 (sq (sq (rT [2,4,6,7,22] (s2 (cd rfl (fun c22=> ?_) fun c22=> ?_)))))
 · have hs:fZ rec=false:=by simpa using c22
   refine sq (rT [4,5] (s3 (rt ?_)))
   have hr:eS k rec=(k,false):=aL6 hs
   refine bO rfl rfl ?_
   rw[hr]<;>rfl
 have hs:fZ rec=true:=by simpa using c22
 refine sk (sq (sq (rT [2,4,6,7,24] (s1 (bk (SW.midW (fun q=>q=[tP 2 2,tP 4 4,tD 6 (.s (bF rec)),tD 7 (.s (aP rec)),tD 24 (.s (bF rec)),tB 25 (bF rec==jH||bF rec==jL),oB 2 32 [.d (.i k.id),.d (.i k.time),.d (.i k.next),.d (.sl (aE k.held)),.d (.sl (aO k.marks)),.d (.sl (aE k.inbox))],oB 4 32 [.d (.i 0),.d (.i 0),.d (.i 0),.nil,.nil,.nil]]) ?_ ?_))))))
 · refine sq (rT [2,4,6,7,24,25] (s2 (cd rfl (fun c25=> ?_) fun c25=> ?_)))
   · refine sk (wq [] [] (rfl) ?_)
     repeat' apply ai
     all_goals first|exact qx|(refine congrArg D.b ?_;simp_all[jH,jL,kE,gK,gY,fR,nP,mS,iD])|exact qz
   refine rT [2,4,6,7,24,25] (s2 (wq [] [] (rfl) ?_))
   repeat' apply ai
   all_goals first|exact qx|(refine congrArg D.b ?_;simp_all[jH,jL,kE,gK,gY,fR,nP,mS,iD])|exact qz
 rintro s rfl
 refine cd rfl (fun c25=> ?_) fun c25=> ?_
 · refine sq (rT [2,4,6,9,10] (s1 (xp (aCo (aP rec) (by omega)) (ai rfl ?_))))
   refine s5 (sq (rT [2,4,6,9,33] (s1 (cd rfl (fun c33=> ?_) fun c33=> ?_))))
   · refine sq (rT [4,5] (s3 (xp (aEi k (bF rec) (jE (aP rec)) hb) (ai rfl ?_))))
     refine s4 (rt ?_)
     have hr:eS k rec=_:=vv hs c25 c33
     refine bO rfl rfl ?_
     rw[hr]<;>rfl
   refine sk (sq (rT [4,5] (s3 (rt ?_))))
   have hr2:eS k rec=(k,false):=by
    first|exact ff hs c25 c33|exact sB hs c25 c40 c50|exact zQ hs c25 c40 c57 hm3|exact li hs c25 c40 c57
   refine bO rfl rfl ?_
   rw[hr2]<;>rfl
 refine SW.midW (fun q=>q=[tP 2 2,tP 4 4,tD 6 (.s (bF rec)),tD 7 (.s (aP rec)),tD 24 (.s (bF rec)),tB 40 (bF rec==kE||bF rec==gK||bF rec==gY||bF rec==fR),oB 2 32 [.d (.i k.id),.d (.i k.time),.d (.i k.next),.d (.sl (aE k.held)),.d (.sl (aO k.marks)),.d (.sl (aE k.inbox))],oB 4 32 [.d (.i 0),.d (.i 0),.d (.i 0),.nil,.nil,.nil]]) ?_ ?_
 · refine sq (rT [2,4,6,7,24,40] (s2 (cd rfl (fun c40=> ?_) fun c40=> ?_)))
   · refine sk (wq [] [] (rfl) ?_)
     repeat' apply ai
     all_goals first|exact qx|(refine congrArg D.b ?_;simp_all[jH,jL,kE,gK,gY,fR,nP,mS,iD])|exact qz
   refine sq (rT [2,4,6,7,24,40] (s2 (cd rfl (fun c40_2=> ?_) fun c40_2=> ?_)))
   · refine sk (wq [] [] (rfl) ?_)
     repeat' apply ai
     all_goals first|exact qx|(refine congrArg D.b ?_;simp_all[jH,jL,kE,gK,gY,fR,nP,mS,iD])|exact qz
   refine sq (rT [2,4,6,7,24,40] (s2 (cd rfl (fun c40_3=> ?_) fun c40_3=> ?_)))
   · refine sk (wq [] [] (rfl) ?_)
     repeat' apply ai
     all_goals first|exact qx|(refine congrArg D.b ?_;simp_all[jH,jL,kE,gK,gY,fR,nP,mS,iD])|exact qz
   refine rT [2,4,6,7,24,40] (s2 (wq [] [] (rfl) ?_))
   repeat' apply ai
   all_goals first|exact qx|(refine congrArg D.b ?_;simp_all[jH,jL,kE,gK,gY,fR,nP,mS,iD])|exact qz
 rintro s rfl
 refine cd rfl (fun c40=> ?_) fun c40=> ?_
 · refine sq (rT [2,4,6,11,12] (s1 (xp (ta (aP rec) (by omega)) (ai rfl ?_))))
   refine s6 (sq (rT [2,4,6,11,50] (s1 (cd rfl (fun c50=> ?_) fun c50=> ?_))))
   · refine sq (rT [4,5] (s3 (xp (aAq k (bF rec) (eD (aP rec)).1 hb (by omega)) (ai rfl ?_))))
     refine s4 (rt ?_)
     have hr:eS k rec=_:=aB4 hs c25 c40 c50
     refine bO rfl rfl ?_
     rw[hr]<;>rfl
   refine sk (sq (rT [4,5] (s3 (rt ?_))))
   have hr2:eS k rec=(k,false):=by
    first|exact ff hs c25 c33|exact sB hs c25 c40 c50|exact zQ hs c25 c40 c57 hm3|exact li hs c25 c40 c57
   refine bO rfl rfl ?_
   rw[hr2]<;>rfl
 refine SW.midW (fun q=>q=[tP 2 2,tP 4 4,tD 6 (.s (bF rec)),tD 7 (.s (aP rec)),tB 57 (bF rec==nP||bF rec==mS||bF rec==iD),oB 2 32 [.d (.i k.id),.d (.i k.time),.d (.i k.next),.d (.sl (aE k.held)),.d (.sl (aO k.marks)),.d (.sl (aE k.inbox))],oB 4 32 [.d (.i 0),.d (.i 0),.d (.i 0),.nil,.nil,.nil]]) ?_ ?_
 · refine sq (rT [2,4,6,7,24,57] (s2 (cd rfl (fun c57=> ?_) fun c57=> ?_)))
   · refine sk (wq [] [] (rfl) ?_)
     repeat' apply ai
     all_goals first|exact qx|(refine congrArg D.b ?_;simp_all[jH,jL,kE,gK,gY,fR,nP,mS,iD])|exact qz
   refine sq (rT [2,4,6,7,24,57] (s2 (cd rfl (fun c57_2=> ?_) fun c57_2=> ?_)))
   · refine sk (wq [] [] (rfl) ?_)
     repeat' apply ai
     all_goals first|exact qx|(refine congrArg D.b ?_;simp_all[jH,jL,kE,gK,gY,fR,nP,mS,iD])|exact qz
   refine rT [2,4,6,7,57] (s2 (wq [] [] (rfl) ?_))
   repeat' apply ai
   all_goals first|exact qx|(refine congrArg D.b ?_;simp_all[jH,jL,kE,gK,gY,fR,nP,mS,iD])|exact qz
 rintro s rfl
 refine cd rfl (fun c57=> ?_) fun c57=> ?_
 · refine sq (rT [2,4,6,13,14] (s1 (xp (sy (aP rec) (by omega)) (ai rfl ?_))))
   refine xp (bm (dD (aP rec)) (by have:=aL5 (aP rec);omega) (fun x hx=>by have:=aO3 (aP rec) x hx;omega)) (ai rfl ?_)
   refine s5 (sq (rT [2,4,6,13,72] (s2 (y3 (ai pk (cd rfl (fun c72=> ?_) fun c72=> ?_))))))
   · have hm3:=aB6 c72
     have hm4:=hm3
     rw[aW4,beq_iff_eq] at hm4
     obtain⟨hno,hl4⟩:=hm4
     have e0:zr (((cZ (kY (dD (aP rec)))).getD 0 []).getD 0 (.i 0))=jE ((dD (aP rec)).getD 0 []):=aDr hno (by omega)
     have e1:zr (((cZ (kY (dD (aP rec)))).getD 1 []).getD 0 (.i 0))=jE ((dD (aP rec)).getD 1 []):=aDr hno (by omega)
     have e2:zr (((cZ (kY (dD (aP rec)))).getD 2 []).getD 0 (.i 0))=jE ((dD (aP rec)).getD 2 []):=aDr hno (by omega)
     refine sq (rD [4,5] (s3 (ai (by exact kt (l:=kY (dD (aP rec))) (by omega) (by rw[iE hno];omega)) (ai (by have:=iR (l:=kY (dD (aP rec))) (i:=0) (by rw[iE hno];omega);first|(rw[show((0:Int)).toNat=((0:Nat):Int).toNat from rfl,this];exact⟨aW1 rfl,rfl⟩)) (s1 (ai (by exact kt (l:=kY (dD (aP rec))) (by omega) (by rw[iE hno];omega)) (ai (by have:=iR (l:=kY (dD (aP rec))) (i:=1) (by rw[iE hno];omega);first|(rw[show((1:Int)).toNat=((1:Nat):Int).toNat from rfl,this];exact⟨aW1 rfl,rfl⟩)) (s1 (ai (by exact kt (l:=kY (dD (aP rec))) (by omega) (by rw[iE hno];omega)) (ai (by have:=iR (l:=kY (dD (aP rec))) (i:=2) (by rw[iE hno];omega);first|(rw[show((2:Int)).toNat=((2:Nat):Int).toNat from rfl,this];exact⟨aW1 rfl,rfl⟩)) (s1 (xp (aAr k (bF rec) (three (dD (aP rec))) hb) (ai (by exact aWv e0 e1 e2) ?_)))))))))))))
     refine s4 (ai (by kernel_rfl) (rt ?_))
     have hr:eS k rec=_:=aB5 hs c25 c40 c57 hm3
     refine bO rfl rfl ?_
     rw[hr]<;>rfl
   have hm3:=aB6 c72
   refine sk (sq (rT [4,5] (s3 (rt ?_))))
   have hr2:eS k rec=(k,false):=by
    first|exact ff hs c25 c33|exact sB hs c25 c40 c50|exact zQ hs c25 c40 c57 hm3|exact li hs c25 c40 c57
   refine bO rfl rfl ?_
   rw[hr2]<;>rfl
 refine sk (sq (rT [4,5] (s3 (rt ?_))))
 have hr2:eS k rec=(k,false):=by
  first|exact ff hs c25 c33|exact sB hs c25 c40 c50|exact zQ hs c25 c40 c57 hm3|exact li hs c25 c40 c57
 refine bO rfl rfl ?_
 rw[hr2]<;>rfl
theorem pw (id:Int):Sp 75 1 [tI 0 id] [tV 0 ((cE id).V)]:=by
 refine sb Tryz.func75 rfl (sq (rT [0,2] (s1 (sq (sq (rT [0,2,5] (s1 (xp (iN _) (ai rfl ?_)))))))))
 refine s1 (cd rfl (fun c5=> ?_) fun c5=> ?_)
 · have hr:cE id= .zero:=if_neg (by simpa using c5)
   refine sq (rT [2] (s2 (rt ?_)))
   rw[hr]
   exact rq [] [] rfl qz
 have hr:cE id=⟨id,0,1,[],[],[]⟩:=if_pos (by simpa using c5)
 refine sk (sq (rT [2] (s3 (rt ?_))))
 rw[hr]
 exact rq [] [] rfl qz
set_option maxHeartbeats 1600000 in
theorem aAs (k:bB) (rec:List UInt8) (hk:KB k) (hr:rec.length≤900000):Sp 56 2 [tV 0 k.V,tD 1 (.s rec)] [tV 0 (.tup [.agg [.d (.i ((dA k rec).1).id),.d (.i ((dA k rec).1).time),.d (.i ((dA k rec).1).next),.d (.sl (aE ((dA k rec).1).held)),.d (.sl (aO ((dA k rec).1).marks)),.d (.sl (aE ((dA k rec).1).inbox))],.c (.d (.b (dA k rec).2))])]:=by
 refine sb Tryz.func56 rfl (sq (rT [1,2,4] (s3 (sq (sq (rT [1,2,4,10] (s1 (xp (xN k hk.2.1 hk.2.2) (ai rfl ?_)))))))))
 refine s1 (cd rfl (fun c10=> ?_) fun c10=> ?_)
 · refine sq (rT [4,5] (s3 (rt ?_)))
   have hr:dA k rec=(.zero,false):=if_neg (by simpa using c10)
   rw[hr]
   exact rq [] [] rfl qz
 have hok:dJ k=true:=by simpa using c10
 refine sk (sq (rT [2,4,6,7] (s1 (xp (tX k (by have:=hk.1;omega)) (ai rfl ?_)))))
 refine s1 (xp (aEj k rec hk.1 hr) (ai rfl ?_))
 refine s6 (sq (sq (rT [2,4,6,25] (s3 (y1 (xc (fun h=>xN (eS k rec).1 (ot (eK hok) (by omega)).2.1 (ot (eK hok) (by omega)).2.2) (ai rfl (ai rk ?_))))))))
 refine y1 (ai pk (cd rfl (fun c25=> ?_) fun c25=> ?_))
 · refine sq (rT [4,5] (s1 (xp (tX k (by have:=hk.1;omega)) (ai rfl ?_))))
   refine s2 (rt ?_)
   have hr:dA k rec=(k,false):=(if_pos hok).trans (if_neg (by intro h;rw[aW4] at h;rw[h.1,h.2] at c25;cases c25))
   rw[hr]
   exact rq [] [] rfl qz
 refine sk (sq (rT [4,5] (s1 (xp (tX (eS k rec).1 (by have:=(ot (eK hok) (show rec.length≤1000000 by omega)).1;omega)) (ai rfl ?_)))))
 refine s2 (rt ?_)
 have hr:dA k rec=((eS k rec).1,true):=(if_pos hok).trans (if_pos (by simpa using c25))
 rw[hr]
 exact rq [] [] rfl qz
set_option maxHeartbeats 1600000 in
theorem xP (id:Int) (l:List (List UInt8)) (hl:l.length≤900000) (hx: ∀x∈l,x.length≤900000):Sp 21 2 [tI 0 id,tD 1 (.sl (aV l))] [tV 0 (.tup [.agg [.d (.i ((dS id l).1).id),.d (.i ((dS id l).1).time),.d (.i ((dS id l).1).next),.d (.sl (aE ((dS id l).1).held)),.d (.sl (aO ((dS id l).1).marks)),.d (.sl (aE ((dS id l).1).inbox))],.c (.d (.b (dS id l).2))])]:=by
 refine sb Tryz.func21 rfl (sq (rT [0,1,4] (s2 (sq (sq (rT [0,1,4,13] (s1 (xp (iN _) (ai rfl ?_)))))))))
 refine s1 (cd rfl (fun c13=> ?_) fun c13=> ?_)
 · refine sq (rT [4,5] (s3 (rt ?_)))
   have hr:dS id l=(.zero,false):=if_neg (by simpa using c13)
   rw[hr]
   exact rq [] [] rfl qz
 have hnode:eN id=true:=by simpa using c13
 refine sk (sq (rT [1,4,6] (s1 (xp (pw id) (ai rfl ?_)))))
 refine s2 (sq (sq (rT [4,6,17,18,19] (s3 (bk (SW.loopW (n:=l.length) (fun m s=> ∃(i:Nat) (q:bB),m=l.length - i∧i≤l.length∧K6 q∧gE (cE id) l=gE q (l.drop i)∧s=[tP 4 4,tP 6 6,tD 17 (.sl (aV l)),tI 18 (l.length:Nat),tI 19 (i:Nat),oB 4 32 [.d (.i 0),.d (.i 0),.d (.i 0),.nil,.nil,.nil],oB 6 32 [.d (.i (q).id),.d (.i (q).time),.d (.i (q).next),.d (.sl (aE (q).held)),.d (.sl (aO (q).marks)),.d (.sl (aE (q).inbox))]]) ?_ ?_))))))
 · refine wq (σ':=[tP 4 4,tP 6 6,tD 17 (.sl (aV l)),tI 18 (l.length:Nat),tI 19 (0:Nat),oB 4 32 [.d (.i 0),.d (.i 0),.d (.i 0),.nil,.nil,.nil],oB 6 32 [.d (.i (cE id).id),.d (.i (cE id).time),.d (.i (cE id).next),.d (.sl (aE (cE id).held)),.d (.sl (aO (cE id).marks)),.d (.sl (aE (cE id).inbox))]]) [] [] (⟨0,cE id,rfl,aW6 _,zR id,rfl,rfl⟩) ?_
   repeat' apply ai
   all_goals first|exact qx|rfl|(rw[aJ];done)|exact qz
 rintro n s ⟨i,q,rfl,hi,hq,hgo,rfl⟩
 refine sq (rT [4,6,17,18,19,20] (s1 (sq (cd rfl (fun c20=> ?_) fun c20=> ?_))))
 · have hi2:i<l.length:=by simpa using c20
   have hg:=fB (l:=l) hi2
   have hmem:l.getD i []∈l:=dG hi2
   refine sk (sq (bk (sq (rT [4,6,8,17,18,19] (ai (by rw[aWz,hg];exact⟨⟨by omega,by rw[aJ];omega⟩,rfl⟩) (ai (by rw[aWz,hg];exact⟨aW1 rfl,rfl⟩) (s1 (sq (wa [tP 4 4,tP 6 6,tD 8 (.s (l.getD i [])),tD 17 (.sl (aV l)),tI 18 (l.length:Nat),tI 19 (i:Nat),oB 4 32 [.d (.i 0),.d (.i 0),.d (.i 0),.nil,.nil,.nil],oB 6 32 [.d (.i (q).id),.d (.i (q).time),.d (.i (q).next),.d (.sl (aE (q).held)),.d (.sl (aO (q).marks)),.d (.sl (aE (q).inbox))]] [] [] ?_ ?_)))))))))
   · repeat' apply ai
     all_goals first|exact qx|(rw[aWz,hg];rfl)|exact qz
   refine rT [4,6,9,10,17,18,19] (s2 (xp (aAs q (l.getD i []) hq.seven.big (hx _ hmem)) (ai rfl ?_)))
   refine s6 (sq (sq (rT [4,6,9,17,18,19,30] (s2 (cd rfl (fun c30=> ?_) fun c30=> ?_)))))
   · have hno: (dA q (l.getD i [])).2=false:=by simpa using c30
     rw[List.drop_eq_getElem_cons hi2,gE,show l[i]=l.getD i [] by rw[aW7,aW8 hi2];rfl,hno] at hgo
     refine sq (rT [4,5] (s3 (rt ?_)))
     have hr:dS id l=(.zero,false):=(if_pos hnode).trans (hgo.trans (if_neg (by simp)))
     rw[hr]
     exact rq [] [] rfl qz
   have hno: (dA q (l.getD i [])).2=true:=by simpa using c30
   rw[List.drop_eq_getElem_cons hi2,gE,show l[i]=l.getD i [] by rw[aW7,aW8 hi2];rfl,if_pos hno] at hgo
   refine sk (rT [4,6,17,18,19] (s2 (rT [4,6,17,18,19] (s2 (wq [] [] (⟨l.length - (i+1),by omega,i+1,(dA q (l.getD i [])).1,rfl,by omega,ou,hgo,rfl⟩) ?_)))))
   repeat' apply ai
   all_goals first|exact qx|exact congrArg D.i (aC (by omega))|exact qz
 have hi3:i=l.length:=by simp at c20;omega
 subst hi3
 refine xt (sq (rT [4,5] (s3 (rt ?_))))
 have hr:dS id l=(q,true):=(if_pos hnode).trans (hgo.trans (by rw[List.drop_length];rfl))
 rw[hr]
 exact rq [] [] rfl qz
set_option maxHeartbeats 800000 in
theorem tb (k:bB) (n:bA) (hb:k.held.length≤100000∧k.marks.length≤100000∧k.inbox.length≤100000) (hn:n.text.length≤140737488355328):Sp 210 2 [tV 0 k.V,tV 1 n.V] [tB 0 (iv k n)]:=by
 refine sb Tryz.func210 rfl (sq (rT [2,3] (s3 (sq (rT [4] (s1 (xp (xM n hn) (ai rfl ?_))))))))
 refine s1 (y4 (y1 (ai pk (s1 (y4 (y2 (xc (fun h=>(gG k.held _ _ (by omega))) (ai rfl (ai rk ?_)))))))))
 refine y1 (ai pk (s1 (y4 (y2 (xc (fun h=>(nT k.marks _ _ (by omega))) (ai rfl (ai rk ?_)))))))
 refine y1 (ai pk (s1 (y4 (y2 (xc (fun h=>(gG k.inbox _ _ (by omega))) (ai rfl (ai rk ?_)))))))
 refine y1 (ai pk (s1 (rt (bJ rfl (congrArg D.b ?_)))))
 rfl
set_option maxHeartbeats 1600000 in
theorem dz (k:bB) (n:bA) (hb:k.held.length≤100000∧k.marks.length≤100000∧k.inbox.length≤100000) (hn:n.text.length≤140737488355328):Sp 192 2 [tV 0 k.V,tV 1 n.V] [tV 0 (.tup [.agg [.d (.i ((mT k n).1).id),.d (.i ((mT k n).1).time),.d (.i ((mT k n).1).next),.d (.sl (aE ((mT k n).1).held)),.d (.sl (aO ((mT k n).1).marks)),.d (.sl (aE ((mT k n).1).inbox))],.c (.d (.b (mT k n).2))])]:=by
 refine sb Tryz.func192 rfl (sq (rT [2,3,4] (s4 (sq (sq (rT [2,3,4,9] (s2 (xp (tb k n hb hn) (ai rfl ?_)))))))))
 refine s1 (cd rfl (fun c9=> ?_) fun c9=> ?_)
 · refine sq (rT [4,5] (s3 (rt ?_)))
   have hr:mT k n=_:=aO6 c9
   refine bO rfl rfl ?_
   rw[hr]<;>rfl
 refine sk (sq (sq (rT [2,3,4,15] (s5 (cd rfl (fun c15=> ?_) fun c15=> ?_)))))
 · refine sq (rT [2,4] (s3 (xp (nI k.held n hb.1) (ai rfl ?_))))
   refine s2 (sq (rD [4,5] (s9 (s2 (ai (by kernel_rfl) (rt ?_))))))
   have hr:mT k n=_:=aO7 hb c9 c15
   refine bO rfl rfl ?_
   rw[hr]<;>rfl
 refine sk (sq (rT [2,3,4] (s3 (xp (nI k.inbox n hb.2.2) (ai rfl ?_)))))
 refine s2 (sq (rT [2,4] (s9 (xp (rG k.marks ⟨n.frm,n.num,n.til⟩ hb.2.1) (ai rfl ?_)))))
 refine s2 (sq (rD [4,5] (s9 (s2 (ai (by kernel_rfl) (rt ?_))))))
 have hr:mT k n=_:=aO8 hb c9 c15
 refine bO rfl rfl ?_
 rw[hr]<;>rfl
set_option maxHeartbeats 1600000 in
theorem aAt (k:bB) (a b:Int) (hb:k.held.length≤100000∧k.marks.length≤100000∧k.inbox.length≤100000):Sp 195 3 [tV 0 k.V,tI 1 a,tI 2 b] [tV 0 (.tup [.agg [.d (.i ((kz k a b).1).id),.d (.i ((kz k a b).1).time),.d (.i ((kz k a b).1).next),.d (.sl (aE ((kz k a b).1).held)),.d (.sl (aO ((kz k a b).1).marks)),.d (.sl (aE ((kz k a b).1).inbox))],.c (.d (.b (kz k a b).2))])]:=by
 refine sb Tryz.func195 rfl (sq (rT [1,2,3,6] (s3 (sq (rT [1,2,3,6,8] (s4 (xp (gG k.held a b (by omega)) (ai rfl ?_))))))))
 refine s1 (sq (sq (rT [1,2,3,6,8,16] (s2 (cd rfl (fun c16=> ?_) fun c16=> ?_)))))
 · have hr:kz k a b=(k,false):=if_neg (by simpa using c16)
   refine sq (rT [6,7] (s3 (rt ?_)))
   rw[hr]
   exact rq [] [] rfl qz
 have hp:0≤aW k.held a b:=by simpa using c16
 have hr0:=fV k.held a b
 obtain⟨i,hi⟩:=Int.eq_ofNat_of_zero_le hp
 rw[hi] at hr0
 have hw:wrap64 ((i:Int)+1)=((i+1:Nat):Int):=by rw[aC (by omega)];omega
 have hr:kz k a b=_:=if_pos hp
 have hg:=aR (l:=k.held) (i:=i) (by omega)
 have et:zr (((aE k.held).getD (aW k.held a b).toNat []).getD 3 (.i 0))=(k.held.getD i .zero).til:=by rw[hi,aWz,hg];rfl
 refine sk (sq (rT [1,2,3,6,8,9] (s3 (ai (by rw[hi,aWz,hg];exact⟨⟨by omega,by rw[aB];omega⟩,rfl⟩) (ai (by rw[hi,aWz,hg];exact⟨aW1 rfl,rfl⟩) (s2 (sq (rD [1,2,3,6,9] (ai (by simp) (s3 (ai (by rw[hi];(try rw[hw]);exact⟨by rw[aB];exact⟨by first|(simp;done)|(simp;omega),by first|(simp;done)|(simp;omega),by first|(simp;done)|(simp;omega)⟩,eU _⟩) (ai (by rw[hi];(try rw[hw]);exact⟨by first|trivial|rfl|(simp;done),by first|rfl|(simp[aB];done),by first|exact kF _ _ _|(simp;done),by(try simp only[aW0,aW3,aW2,aW5,aW9,aB,jR,jS,jT,jU]);show _*48≤_;omega⟩) (s4 (ai (by rw[hi];(try rw[hw]);exact⟨by rw[aB];exact⟨by first|(simp;done)|(simp;omega),by first|(simp;done)|(simp;omega),by first|(simp;done)|(simp;omega)⟩,eU _⟩) (ai (by rw[hi];(try rw[hw]);exact⟨by first|trivial|rfl|(simp;done),by first|rfl|(simp[aB];done),by first|exact kF _ _ _|(simp;done),by(try simp only[aW0,aW3,aW2,aW5,aW9,aB,jR,jS,jT,jU]);show _*48≤_;omega⟩) (s2 (ai (by kernel_rfl) (sq (rT [3,6] (s7 (xp (rG k.marks ⟨a,b,(k.held.getD i .zero).til⟩ hb.2.1) (ai (by exact aO5 rfl rfl et) ?_))))))))))))))))))))))
 refine s2 (sq (rT [6,7] (s3 (rt ?_))))
 rw[hr]
 refine rq [] [23] rfl ?_
 repeat' apply ai
 all_goals try exact qx
 all_goals(first|with_reducible rfl|(rw[hi,hw,vO,zO,aWz];simp[aE,gX,List.map_take,List.map_drop];done)|(rw[hi];rfl)|rfl)
set_option maxHeartbeats 1600000 in
theorem aAu (k:bB) (a b:Int) (hb:k.held.length≤100000∧k.marks.length≤100000∧k.inbox.length≤100000):Sp 196 3 [tV 0 k.V,tI 1 a,tI 2 b] [tV 0 (.tup [.agg [.d (.i ((lc k a b).1).id),.d (.i ((lc k a b).1).time),.d (.i ((lc k a b).1).next),.d (.sl (aE ((lc k a b).1).held)),.d (.sl (aO ((lc k a b).1).marks)),.d (.sl (aE ((lc k a b).1).inbox))],.c (.d (.b (lc k a b).2))])]:=by
 refine sb Tryz.func196 rfl (sq (rT [1,2,3,6] (s3 (sq (rT [3,6,8] (s4 (xp (gG k.inbox a b (by omega)) (ai rfl ?_))))))))
 refine s1 (sq (sq (rT [3,6,8,15] (s2 (cd rfl (fun c15=> ?_) fun c15=> ?_)))))
 · have hr:lc k a b=(k,false):=if_neg (by simpa using c15)
   refine sq (rT [6,7] (s3 (rt ?_)))
   rw[hr]
   exact rq [] [] rfl qz
 have hp:0≤aW k.inbox a b:=by simpa using c15
 have hr0:=fV k.inbox a b
 obtain⟨i,hi⟩:=Int.eq_ofNat_of_zero_le hp
 rw[hi] at hr0
 have hw:wrap64 ((i:Int)+1)=((i+1:Nat):Int):=by rw[aC (by omega)];omega
 have hr:lc k a b=_:=if_pos hp
 refine sk (sq (rD [3,6] (ai (by simp) (s3 (ai (by rw[hi];(try rw[hw]);exact⟨by rw[aB];exact⟨by first|(simp;done)|(simp;omega),by first|(simp;done)|(simp;omega),by first|(simp;done)|(simp;omega)⟩,eU _⟩) (ai (by rw[hi];(try rw[hw]);exact⟨by first|trivial|rfl|(simp;done),by first|rfl|(simp[aB];done),by first|exact kF _ _ _|(simp;done),by(try simp only[aW0,aW3,aW2,aW5,aW9,aB,jR,jS,jT,jU]);show _*48≤_;omega⟩) (s4 (ai (by rw[hi];(try rw[hw]);exact⟨by rw[aB];exact⟨by first|(simp;done)|(simp;omega),by first|(simp;done)|(simp;omega),by first|(simp;done)|(simp;omega)⟩,eU _⟩) (ai (by rw[hi];(try rw[hw]);exact⟨by first|trivial|rfl|(simp;done),by first|rfl|(simp[aB];done),by first|exact kF _ _ _|(simp;done),by(try simp only[aW0,aW3,aW2,aW5,aW9,aB,jR,jS,jT,jU]);show _*48≤_;omega⟩) (s2 (ai (by kernel_rfl) (sq (rT [6,7] (s3 (rt ?_)))))))))))))))
 rw[hr]
 refine rq [] [17] rfl ?_
 repeat' apply ai
 all_goals try exact qx
 all_goals(first|with_reducible rfl|(rw[hi,hw,vO,zO,aWz];simp[aE,gX,List.map_take,List.map_drop];done)|rfl)
theorem aJk (m:Nat) (hm:1≤m∧m≤1000000):Sp 97 1 [tI 0 (-(m:Int))] [tD 0 (.s (45::jZ m))]:=by
 refine sb Tryz.func97 rfl (sq (rT [0] (s1 (sq (sq (rT [0,4] (s2 (cd rfl (fun c4=> ?_) fun c4=> ?_))))))))
 · simp at c4
   omega
 refine sk (sq (sq (rT [0,6] (s2 (cd rfl (fun c6=> ?_) fun c6=> ?_)))))
 · refine sq (rT [2] (s2 (xp (uQ m (by omega)) (ai (by exact aKm (show wrap64 (0 - -(m:Int))=m by rw[aC (by omega)];omega)) ?_))))
   refine ai (by have:=aKh m;show _≤9223372036854775807;simp only[aW3,aW2];omega) (s1 (rt (bJ rfl (congrArg D.s ?_))))
   rfl
 simp at c6
 omega
theorem yN (n:Int) (h: -1≤n∧n≤9999):Sp 97 1 [tI 0 n] [tD 0 (.s (oq n))]:=by
 unfold oq
 by_cases h0:n<0
 · obtain rfl:n= -1:=by omega
   exact aJk 1 (by omega)
 rw[if_neg h0]
 exact kR n (by omega)
set_option maxHeartbeats 6400000 in
theorem gw (k:bB) (rec:List UInt8) (hb:k.held.length≤100000∧k.marks.length≤100000∧k.inbox.length≤100000) (hr:rec.length≤900000):Sp 160 2 [tV 0 k.V,tD 1 (.s rec)] [tV 0 (.tup [.agg [.d (.i ((gD k rec).1).id),.d (.i ((gD k rec).1).time),.d (.i ((gD k rec).1).next),.d (.sl (aE ((gD k rec).1).held)),.d (.sl (aO ((gD k rec).1).marks)),.d (.sl (aE ((gD k rec).1).inbox))],.c (.d (.b (gD k rec).2))])]:=by
 have hl1:=uY rec
 have hl2:=fa rec
 have hl3:=zP (aP rec)
 have e0:zr (((cZ (fE 3 (aP rec))).getD 0 []).getD 0 (.i 0))=dQ (aP rec) 0:=wb (by omega)
 have e1:zr (((cZ (fE 3 (aP rec))).getD 1 []).getD 0 (.i 0))=dQ (aP rec) 1:=wb (by omega)
 have e2:zr (((cZ (fE 3 (aP rec))).getD 2 []).getD 0 (.i 0))=dQ (aP rec) 2:=wb (by omega)
 refine sb Tryz.func160 rfl (sq (rT [1,2,4] (s3 (sq (rT [2,4,6,7] (s1 (xp (gt rec (by omega)) (ai rfl ?_))))))))
 refine s5 (sq (sq (rT [2,4,6,7,25] (s1 (bk (sq (rT [2,4,6,7,25,26] (s2 (cd rfl (fun c26=> ?_) fun c26=> ?_)))))))))
 · refine sq (rT [2,4,8] (s1 (xp (uR (aP rec) (by omega)) (ai rfl ?_))))
   refine s1 (sq (sq (rT [2,4,8,33] (s4 (cd rfl (fun c33=> ?_) fun c33=> ?_)))))
   · refine sq (rT [4,5] (s3 (rt ?_)))
     have hr:gD k rec=(k,false):=(if_pos c26).trans (if_pos (by simpa using c33))
     refine bO rfl rfl ?_
     rw[hr]<;>rfl
   refine sk (sq (rT [4,5] (s2 (xp (yn k (gS (aP rec)) hb) (ai rfl ?_)))))
   refine s2 (rt ?_)
   have hr:gD k rec=_:=(if_pos c26).trans (if_neg (by simpa using c33))
   refine bO rfl rfl ?_
   rw[hr]<;>rfl
 refine sq (rT [2,4,6,7,25,38] (s2 (cd rfl (fun c38=> ?_) fun c38=> ?_)))
 · refine sq (rT [2,4,9,10] (s1 (xp (tW (aP rec) (by omega)) (ai rfl ?_))))
   refine s6 (sq (sq (rT [2,4,9,60] (s3 (y4 (y1 (ai pk (s1 (y4 (y1 (ai pk (cd rfl (fun c60=> ?_) fun c60=> ?_))))))))))))
   · refine sq (rT [4,5] (s3 (rt ?_)))
     have hr:gD k rec=(k,false):=(if_neg (bn c26)).trans ((if_pos c38).trans (if_pos c60))
     refine bO rfl rfl ?_
     rw[hr]<;>rfl
   refine sk (sq (rT [2,4,9] (s5 (sq (rT [4,5] (s2 (xp (dz {k with next:=wrap64 (k.next+1)} (eD (aP rec)).1 hb (by omega)) (ai rfl ?_))))))))
   refine s4 (rt ?_)
   have hr:gD k rec=_:=(if_neg (bn c26)).trans ((if_pos c38).trans (if_neg (bn c60)))
   refine bO rfl rfl ?_
   rw[hr]<;>rfl
 refine sq (rT [2,4,6,7,25,71] (s2 (cd rfl (fun c71=> ?_) fun c71=> ?_)))
 · refine sq (rT [2,4,11,12] (s1 (xp (tW (aP rec) (by omega)) (ai rfl ?_))))
   refine s6 (sq (sq (rT [2,4,11,86] (s3 (y4 (y1 (ai pk (cd rfl (fun c86=> ?_) fun c86=> ?_))))))))
   · refine sq (rT [4,5] (s3 (rt ?_)))
     have hr:gD k rec=(k,false):=(if_neg (bn c26)).trans ((if_neg (bn c38)).trans ((if_pos c71).trans (if_pos c86)))
     refine bO rfl rfl ?_
     rw[hr]<;>rfl
   refine sk (sq (rT [4,5] (s2 (xp (dz k (eD (aP rec)).1 hb (by omega)) (ai rfl ?_)))))
   refine s4 (rt ?_)
   have hr:gD k rec=_:=(if_neg (bn c26)).trans ((if_neg (bn c38)).trans ((if_pos c71).trans (if_neg (bn c86))))
   refine bO rfl rfl ?_
   rw[hr]<;>rfl
 refine sq (rT [2,4,6,7,25,93] (s2 (cd rfl (fun c93=> ?_) fun c93=> ?_)))
 · refine sq (rT [2,4,13] (s1 (xp (uR (aP rec) (by omega)) (ai rfl ?_))))
   refine s1 (sq (sq (rT [2,4,13,100] (s4 (cd rfl (fun c100=> ?_) fun c100=> ?_)))))
   · refine sq (rT [4,5] (s3 (rt ?_)))
     have hr:gD k rec=(k,false):=(if_neg (bn c26)).trans ((if_neg (bn c38)).trans ((if_neg (bn c71)).trans ((if_pos c93).trans (if_pos (by simpa using c100)))))
     refine bO rfl rfl ?_
     rw[hr]<;>rfl
   refine sk (sq (rT [2,4] (s3 (sq (rT [4,5] (s3 (rt ?_)))))))
   have hr:gD k rec=_:=(if_neg (bn c26)).trans ((if_neg (bn c38)).trans ((if_neg (bn c71)).trans ((if_pos c93).trans (if_neg (by simpa using c100)))))
   refine bO rfl rfl ?_
   rw[hr]<;>rfl
 refine SW.midW (fun q=>q=[tP 2 2,tP 4 4,tD 6 (.s (bF rec)),tD 7 (.s (aP rec)),tB 105 (bF rec==gY||bF rec==fR),oB 2 32 [.d (.i k.id),.d (.i k.time),.d (.i k.next),.d (.sl (aE k.held)),.d (.sl (aO k.marks)),.d (.sl (aE k.inbox))],oB 4 32 [.d (.i 0),.d (.i 0),.d (.i 0),.nil,.nil,.nil]]) ?_ ?_
 · refine sq (rT [2,4,6,7,25,105] (s2 (cd rfl (fun c105=> ?_) fun c105=> ?_)))
   · refine sk (wq [] [] (rfl) ?_)
     repeat' apply ai
     all_goals first|exact qx|(refine congrArg D.b ?_;simp_all[gY,fR])|exact qz
   refine rT [2,4,6,7,105] (s2 (wq [] [] (rfl) ?_))
   repeat' apply ai
   all_goals first|exact qx|(refine congrArg D.b ?_;simp_all[gY,fR])|exact qz
 rintro s rfl
 refine cd rfl (fun c105=> ?_) fun c105=> ?_
 · refine sq (rT [2,4,6,14,15] (s1 (xp (tW (aP rec) (by omega)) (ai rfl ?_))))
   refine s6 (sq (sq (rT [2,4,6,14,134] (s3 (y4 (y2 (xc (fun h=>(gG k.held _ _ (by omega))) (ai rfl (ai rk ?_)))))))))
   refine y1 (ai pk (s1 (y4 (y2 (xc (fun h=>(gG k.inbox _ _ (by omega))) (ai rfl (ai rk ?_)))))))
   refine y1 (ai pk (cd rfl (fun c134=> ?_) fun c134=> ?_))
   · refine sq (rT [4,5] (s3 (rt ?_)))
     have hr:gD k rec=(k,false):=(if_neg (bn c26)).trans ((if_neg (bn c38)).trans ((if_neg (bn c71)).trans ((if_neg (bn c93)).trans ((if_pos c105).trans (if_pos c134)))))
     refine bO rfl rfl ?_
     rw[hr]<;>rfl
   refine sk (sq (sq (rT [2,4,14,137] (s2 (cd rfl (fun c137=> ?_) fun c137=> ?_)))))
   · refine rT [2,4] (s3 (xp (nI k.held (eD (aP rec)).1 hb.1) (ai rfl ?_)))
     refine s2 (sq (rT [4,5] (s3 (rt ?_))))
     first|have hr:gD k rec=_:=(if_neg (bn c26)).trans ((if_neg (bn c38)).trans ((if_neg (bn c71)).trans ((if_neg (bn c93)).trans ((if_pos c105).trans ((if_neg (bn c134)).trans (if_pos c137))))))|have hr:gD k rec=_:=(if_neg (bn c26)).trans ((if_neg (bn c38)).trans ((if_neg (bn c71)).trans ((if_neg (bn c93)).trans ((if_pos c105).trans ((if_neg (bn c134)).trans (if_neg (bn c137)))))))
     refine bO rfl rfl ?_
     rw[hr]<;>rfl
   refine rT [2,4] (s3 (xp (nI k.inbox (eD (aP rec)).1 hb.2.2) (ai rfl ?_)))
   refine s2 (sq (rT [4,5] (s3 (rt ?_))))
   first|have hr:gD k rec=_:=(if_neg (bn c26)).trans ((if_neg (bn c38)).trans ((if_neg (bn c71)).trans ((if_neg (bn c93)).trans ((if_pos c105).trans ((if_neg (bn c134)).trans (if_pos c137))))))|have hr:gD k rec=_:=(if_neg (bn c26)).trans ((if_neg (bn c38)).trans ((if_neg (bn c71)).trans ((if_neg (bn c93)).trans ((if_pos c105).trans ((if_neg (bn c134)).trans (if_neg (bn c137)))))))
   refine bO rfl rfl ?_
   rw[hr]<;>rfl
 refine sk (sq (rT [2,4,6,7,16,17] (s1 (xp (gu (aP rec) 3 (by omega) (by omega)) (ai rfl ?_)))))
 refine s5 (sq (sq (rD [2,4,6,16,175] (s3 (y2 (ai (fun h=>(by exact kt (l:=fE 3 (aP rec)) (by omega) (by rw[bN];omega))) (ai rk (ai (fun h=>(by have:=iR (l:=fE 3 (aP rec)) (i:=0) (by rw[bN];omega);rw[show((0:Int)).toNat=((0:Nat):Int).toNat from rfl,this];exact⟨aW1 rfl,rfl⟩)) (ai rk (xc (fun h=>yN (dQ (aP rec) 0) (gO _ _)) (ai (by exact aKm e0) (ai rk ?_))))))))))))
 refine ai (fun h=>(by have q0:=mU (gO (aP rec) 0);have q1:=mU (gO (aP rec) 1);have q2:=mU (gO (aP rec) 2);show _≤9223372036854775807;simp only[aW0,aW3,aW2];omega)) (ai rk (y1 (ai (fun h=>(by exact kt (l:=fE 3 (aP rec)) (by omega) (by rw[bN];omega))) (ai rk (ai (fun h=>(by have:=iR (l:=fE 3 (aP rec)) (i:=1) (by rw[bN];omega);rw[show((1:Int)).toNat=((1:Nat):Int).toNat from rfl,this];exact⟨aW1 rfl,rfl⟩)) (ai rk (xc (fun h=>yN (dQ (aP rec) 1) (gO _ _)) (ai (by exact aKm e1) (ai rk ?_)))))))))
 refine ai (fun h=>(by have q0:=mU (gO (aP rec) 0);have q1:=mU (gO (aP rec) 1);have q2:=mU (gO (aP rec) 2);show _≤9223372036854775807;simp only[aW0,aW3,aW2];omega)) (ai rk (ai (fun h=>(by have q0:=mU (gO (aP rec) 0);have q1:=mU (gO (aP rec) 1);have q2:=mU (gO (aP rec) 2);show _≤9223372036854775807;simp only[aW0,aW3,aW2];omega)) (ai rk (y1 (ai (fun h=>(by exact kt (l:=fE 3 (aP rec)) (by omega) (by rw[bN];omega))) (ai rk (ai (fun h=>(by have:=iR (l:=fE 3 (aP rec)) (i:=2) (by rw[bN];omega);rw[show((2:Int)).toNat=((2:Nat):Int).toNat from rfl,this];exact⟨aW1 rfl,rfl⟩)) (ai rk (xc (fun h=>yN (dQ (aP rec) 2) (gO _ _)) (ai (by exact aKm e2) (ai rk ?_)))))))))))
 refine ai (fun h=>(by have q0:=mU (gO (aP rec) 0);have q1:=mU (gO (aP rec) 1);have q2:=mU (gO (aP rec) 2);show _≤9223372036854775807;simp only[aW0,aW3,aW2];omega)) (ai rk (y1 (ai pk (ai (by kernel_rfl) (cd rfl (fun c175=> ?_) fun c175=> ?_)))))
 · refine sq (rT [4,5] (s3 (rt ?_)))
   have hr:gD k rec=(k,false):=(if_neg (bn c26)).trans ((if_neg (bn c38)).trans ((if_neg (bn c71)).trans ((if_neg (bn c93)).trans ((if_neg (bn c105)).trans (if_pos c175)))))
   refine bO rfl rfl ?_
   rw[hr]<;>rfl
 refine sk (sq (sq (rT [2,4,16,177] (s1 (bk (sq (rT [2,4,16,177,178] (s2 (cd rfl (fun c178=> ?_) fun c178=> ?_)))))))))
 · refine sq (rD [2,4,16,18] (s3 (ai (by exact kt (l:=fE 3 (aP rec)) (by omega) (by rw[bN];omega)) (ai (by have:=iR (l:=fE 3 (aP rec)) (i:=0) (by rw[bN];omega);rw[show((0:Int)).toNat=((0:Nat):Int).toNat from rfl,this];exact⟨aW1 rfl,rfl⟩) (s1 (ai (by exact kt (l:=fE 3 (aP rec)) (by omega) (by rw[bN];omega)) (ai (by have:=iR (l:=fE 3 (aP rec)) (i:=1) (by rw[bN];omega);rw[show((1:Int)).toNat=((1:Nat):Int).toNat from rfl,this];exact⟨aW1 rfl,rfl⟩) (xp (gG k.held (dQ (aP rec) 0) (dQ (aP rec) 1) (by omega)) (ai (by exact vz e0 e1) ?_)))))))))
   refine s1 (ai (by kernel_rfl) (sq (sq (rD [2,4,16,202] (s3 (y3 (ai (fun h=>(by have hp:0≤aW k.held (dQ (aP rec) 0) (dQ (aP rec) 1):=(by have h8:=h;simp[gb] at h8;omega);have hr:=fV k.held (dQ (aP rec) 0) (dQ (aP rec) 1);rw[aR (by omega)];exact⟨⟨hp,by rw[aB];omega⟩,rfl⟩)) (ai rk (y1 (ai (fun h=>(by have hp:0≤aW k.held (dQ (aP rec) 0) (dQ (aP rec) 1):=(by have h8:=h;simp[gb] at h8;omega);have hr:=fV k.held (dQ (aP rec) 0) (dQ (aP rec) 1);rw[aR (by omega)];exact⟨aW1 rfl,rfl⟩)) (ai rk (y1 (ai (fun h=>(by exact kt (l:=fE 3 (aP rec)) (by omega) (by rw[bN];omega))) (ai rk (ai (fun h=>(by have:=iR (l:=fE 3 (aP rec)) (i:=2) (by rw[bN];omega);rw[show((2:Int)).toNat=((2:Nat):Int).toNat from rfl,this];exact⟨aW1 rfl,rfl⟩)) (ai rk (y1 (ai pk (ai (by kernel_rfl) (cd rfl (fun c202=> ?_) fun c202=> ?_))))))))))))))))))))
   · have hq:=fh (y:=(k.held.getD (aW k.held (dQ (aP rec) 0) (dQ (aP rec) 1)).toNat .zero).til != (dQ (aP rec) 2)) c202 (fun hp=>by have hr:=fV k.held (dQ (aP rec) 0) (dQ (aP rec) 1);rw[aR (by omega)];exact congrArg (fun z=>((k.held.getD (aW k.held (dQ (aP rec) 0) (dQ (aP rec) 1)).toNat .zero).til != z)) e2)
     refine sq (rT [4,5] (s3 (rt ?_)))
     have hr:gD k rec=(k,false):=(if_neg (bn c26)).trans ((if_neg (bn c38)).trans ((if_neg (bn c71)).trans ((if_neg (bn c93)).trans ((if_neg (bn c105)).trans ((if_neg (bn c175)).trans ((if_pos c178).trans (if_pos hq)))))))
     refine bO rfl rfl ?_
     rw[hr]<;>rfl
   have hq:=fh (y:=(k.held.getD (aW k.held (dQ (aP rec) 0) (dQ (aP rec) 1)).toNat .zero).til != (dQ (aP rec) 2)) c202 (fun hp=>by have hr:=fV k.held (dQ (aP rec) 0) (dQ (aP rec) 1);rw[aR (by omega)];exact congrArg (fun z=>((k.held.getD (aW k.held (dQ (aP rec) 0) (dQ (aP rec) 1)).toNat .zero).til != z)) e2)
   refine sk (sq (rD [4,5] (s2 (ai (by exact kt (l:=fE 3 (aP rec)) (by omega) (by rw[bN];omega)) (ai (by have:=iR (l:=fE 3 (aP rec)) (i:=0) (by rw[bN];omega);rw[show((0:Int)).toNat=((0:Nat):Int).toNat from rfl,this];exact⟨aW1 rfl,rfl⟩) (s1 (ai (by exact kt (l:=fE 3 (aP rec)) (by omega) (by rw[bN];omega)) (ai (by have:=iR (l:=fE 3 (aP rec)) (i:=1) (by rw[bN];omega);rw[show((1:Int)).toNat=((1:Nat):Int).toNat from rfl,this];exact⟨aW1 rfl,rfl⟩) (xp (aAt k (dQ (aP rec) 0) (dQ (aP rec) 1) hb) (ai (by exact vz e0 e1) ?_))))))))))
   refine s4 (ai (by kernel_rfl) (rt ?_))
   have hr:gD k rec=_:=(if_neg (bn c26)).trans ((if_neg (bn c38)).trans ((if_neg (bn c71)).trans ((if_neg (bn c93)).trans ((if_neg (bn c105)).trans ((if_neg (bn c175)).trans ((if_pos c178).trans (if_neg (bn hq))))))))
   refine bO rfl rfl ?_
   rw[hr]<;>rfl
 refine sq (rT [2,4,16,177,214] (s2 (cd rfl (fun c214=> ?_) fun c214=> ?_)))
 · refine sq (rD [2,4,16,19] (s3 (ai (by exact kt (l:=fE 3 (aP rec)) (by omega) (by rw[bN];omega)) (ai (by have:=iR (l:=fE 3 (aP rec)) (i:=0) (by rw[bN];omega);rw[show((0:Int)).toNat=((0:Nat):Int).toNat from rfl,this];exact⟨aW1 rfl,rfl⟩) (s1 (ai (by exact kt (l:=fE 3 (aP rec)) (by omega) (by rw[bN];omega)) (ai (by have:=iR (l:=fE 3 (aP rec)) (i:=1) (by rw[bN];omega);rw[show((1:Int)).toNat=((1:Nat):Int).toNat from rfl,this];exact⟨aW1 rfl,rfl⟩) (xp (gG k.inbox (dQ (aP rec) 0) (dQ (aP rec) 1) (by omega)) (ai (by exact vz e0 e1) ?_)))))))))
   refine s1 (ai (by kernel_rfl) (sq (sq (rD [2,4,16,238] (s3 (y3 (ai (fun h=>(by have hp:0≤aW k.inbox (dQ (aP rec) 0) (dQ (aP rec) 1):=(by have h8:=h;simp[gb] at h8;omega);have hr:=fV k.inbox (dQ (aP rec) 0) (dQ (aP rec) 1);rw[aR (by omega)];exact⟨⟨hp,by rw[aB];omega⟩,rfl⟩)) (ai rk (y1 (ai (fun h=>(by have hp:0≤aW k.inbox (dQ (aP rec) 0) (dQ (aP rec) 1):=(by have h8:=h;simp[gb] at h8;omega);have hr:=fV k.inbox (dQ (aP rec) 0) (dQ (aP rec) 1);rw[aR (by omega)];exact⟨aW1 rfl,rfl⟩)) (ai rk (y1 (ai (fun h=>(by exact kt (l:=fE 3 (aP rec)) (by omega) (by rw[bN];omega))) (ai rk (ai (fun h=>(by have:=iR (l:=fE 3 (aP rec)) (i:=2) (by rw[bN];omega);rw[show((2:Int)).toNat=((2:Nat):Int).toNat from rfl,this];exact⟨aW1 rfl,rfl⟩)) (ai rk (y1 (ai pk (ai (by kernel_rfl) (cd rfl (fun c238=> ?_) fun c238=> ?_))))))))))))))))))))
   · have hq:=fh (y:=(k.inbox.getD (aW k.inbox (dQ (aP rec) 0) (dQ (aP rec) 1)).toNat .zero).til != (dQ (aP rec) 2)) c238 (fun hp=>by have hr:=fV k.inbox (dQ (aP rec) 0) (dQ (aP rec) 1);rw[aR (by omega)];exact congrArg (fun z=>((k.inbox.getD (aW k.inbox (dQ (aP rec) 0) (dQ (aP rec) 1)).toNat .zero).til != z)) e2)
     refine sq (rT [4,5] (s3 (rt ?_)))
     have hr:gD k rec=(k,false):=(if_neg (bn c26)).trans ((if_neg (bn c38)).trans ((if_neg (bn c71)).trans ((if_neg (bn c93)).trans ((if_neg (bn c105)).trans ((if_neg (bn c175)).trans ((if_neg (bn c178)).trans ((if_pos c214).trans (if_pos hq))))))))
     refine bO rfl rfl ?_
     rw[hr]<;>rfl
   have hq:=fh (y:=(k.inbox.getD (aW k.inbox (dQ (aP rec) 0) (dQ (aP rec) 1)).toNat .zero).til != (dQ (aP rec) 2)) c238 (fun hp=>by have hr:=fV k.inbox (dQ (aP rec) 0) (dQ (aP rec) 1);rw[aR (by omega)];exact congrArg (fun z=>((k.inbox.getD (aW k.inbox (dQ (aP rec) 0) (dQ (aP rec) 1)).toNat .zero).til != z)) e2)
   refine sk (sq (rD [4,5] (s2 (ai (by exact kt (l:=fE 3 (aP rec)) (by omega) (by rw[bN];omega)) (ai (by have:=iR (l:=fE 3 (aP rec)) (i:=0) (by rw[bN];omega);rw[show((0:Int)).toNat=((0:Nat):Int).toNat from rfl,this];exact⟨aW1 rfl,rfl⟩) (s1 (ai (by exact kt (l:=fE 3 (aP rec)) (by omega) (by rw[bN];omega)) (ai (by have:=iR (l:=fE 3 (aP rec)) (i:=1) (by rw[bN];omega);rw[show((1:Int)).toNat=((1:Nat):Int).toNat from rfl,this];exact⟨aW1 rfl,rfl⟩) (xp (aAu k (dQ (aP rec) 0) (dQ (aP rec) 1) hb) (ai (by exact vz e0 e1) ?_))))))))))
   refine s4 (ai (by kernel_rfl) (rt ?_))
   have hr:gD k rec=_:=(if_neg (bn c26)).trans ((if_neg (bn c38)).trans ((if_neg (bn c71)).trans ((if_neg (bn c93)).trans ((if_neg (bn c105)).trans ((if_neg (bn c175)).trans ((if_neg (bn c178)).trans ((if_pos c214).trans (if_neg (bn hq)))))))))
   refine bO rfl rfl ?_
   rw[hr]<;>rfl
 refine sq (rT [2,4,16,250] (s2 (cd rfl (fun c250=> ?_) fun c250=> ?_)))
 · refine sq (sq (rD [2,4,16,261] (s3 (ai (by exact kt (l:=fE 3 (aP rec)) (by omega) (by rw[bN];omega)) (ai (by have:=iR (l:=fE 3 (aP rec)) (i:=0) (by rw[bN];omega);rw[show((0:Int)).toNat=((0:Nat):Int).toNat from rfl,this];exact⟨aW1 rfl,rfl⟩) (s1 (ai (by exact kt (l:=fE 3 (aP rec)) (by omega) (by rw[bN];omega)) (ai (by have:=iR (l:=fE 3 (aP rec)) (i:=1) (by rw[bN];omega);rw[show((1:Int)).toNat=((1:Nat):Int).toNat from rfl,this];exact⟨aW1 rfl,rfl⟩) (xp (nT k.marks (dQ (aP rec) 0) (dQ (aP rec) 1) (by omega)) (ai (by exact vz e0 e1) ?_))))))))))
   refine s1 (ai (by kernel_rfl) (cd rfl (fun c261=> ?_) fun c261=> ?_))
   · refine sq (rT [4,5] (s3 (rt ?_)))
     have hr:gD k rec=(k,false):=(if_neg (bn c26)).trans ((if_neg (bn c38)).trans ((if_neg (bn c71)).trans ((if_neg (bn c93)).trans ((if_neg (bn c105)).trans ((if_neg (bn c175)).trans ((if_neg (bn c178)).trans ((if_neg (bn c214)).trans ((if_pos c250).trans (if_pos (of_decide_eq_true c261))))))))))
     refine bO rfl rfl ?_
     rw[hr]<;>rfl
   refine sk (sq (rD [2,4] (s3 (ai (by exact kt (l:=fE 3 (aP rec)) (by omega) (by rw[bN];omega)) (ai (by have:=iR (l:=fE 3 (aP rec)) (i:=0) (by rw[bN];omega);rw[show((0:Int)).toNat=((0:Nat):Int).toNat from rfl,this];exact⟨aW1 rfl,rfl⟩) (s1 (ai (by exact kt (l:=fE 3 (aP rec)) (by omega) (by rw[bN];omega)) (ai (by have:=iR (l:=fE 3 (aP rec)) (i:=1) (by rw[bN];omega);rw[show((1:Int)).toNat=((1:Nat):Int).toNat from rfl,this];exact⟨aW1 rfl,rfl⟩) (s1 (ai (by exact kt (l:=fE 3 (aP rec)) (by omega) (by rw[bN];omega)) (ai (by have:=iR (l:=fE 3 (aP rec)) (i:=2) (by rw[bN];omega);rw[show((2:Int)).toNat=((2:Nat):Int).toNat from rfl,this];exact⟨aW1 rfl,rfl⟩) (s1 (xp (rG k.marks ⟨(dQ (aP rec) 0),(dQ (aP rec) 1),(dQ (aP rec) 2)⟩ hb.2.1) (ai (by exact aO5 e0 e1 e2) ?_))))))))))))))
   refine s2 (ai (by kernel_rfl) (sq (rT [4,5] (s3 (rt ?_)))))
   have hr:gD k rec=_:=(if_neg (bn c26)).trans ((if_neg (bn c38)).trans ((if_neg (bn c71)).trans ((if_neg (bn c93)).trans ((if_neg (bn c105)).trans ((if_neg (bn c175)).trans ((if_neg (bn c178)).trans ((if_neg (bn c214)).trans ((if_pos c250).trans (if_neg (of_decide_eq_false c261))))))))))
   refine bO rfl rfl ?_
   rw[hr]<;>rfl
 refine sk (sq (rT [4,5] (s3 (rt ?_))))
 have hr:gD k rec=(k,false):=(if_neg (bn c26)).trans ((if_neg (bn c38)).trans ((if_neg (bn c71)).trans ((if_neg (bn c93)).trans ((if_neg (bn c105)).trans ((if_neg (bn c175)).trans ((if_neg (bn c178)).trans ((if_neg (bn c214)).trans (if_neg (bn c250)))))))))
 refine bO rfl rfl ?_
 rw[hr]<;>rfl
theorem px (id:Int):Sp 115 1 [tI 0 id] [tV 0 ((cE id).V)]:=by
 refine sb Tryz.func115 rfl (sq (rT [0,2] (s1 (sq (sq (rT [0,2,5] (s1 (xp (dF _) (ai rfl ?_)))))))))
 refine s1 (cd rfl (fun c5=> ?_) fun c5=> ?_)
 · have hr:cE id= .zero:=if_neg (by simpa using c5)
   refine sq (rT [2] (s2 (rt ?_)))
   rw[hr]
   exact rq [] [] rfl qz
 have hr:cE id=⟨id,0,1,[],[],[]⟩:=if_pos (by simpa using c5)
 refine sk (sq (rT [2] (s3 (rt ?_))))
 rw[hr]
 exact rq [] [] rfl qz
set_option maxHeartbeats 1600000 in
theorem gx (k:bB) (rec:List UInt8) (hk:KB k) (hr:rec.length≤900000):Sp 116 2 [tV 0 k.V,tD 1 (.s rec)] [tV 0 (.tup [.agg [.d (.i ((iB k rec).1).id),.d (.i ((iB k rec).1).time),.d (.i ((iB k rec).1).next),.d (.sl (aE ((iB k rec).1).held)),.d (.sl (aO ((iB k rec).1).marks)),.d (.sl (aE ((iB k rec).1).inbox))],.c (.d (.b (iB k rec).2))])]:=by
 refine sb Tryz.func116 rfl (sq (rT [1,2,4] (s3 (sq (sq (rT [1,2,4,10] (s1 (xp (oX k hk.1 hk.2.1 hk.2.2) (ai rfl ?_)))))))))
 refine s1 (cd rfl (fun c10=> ?_) fun c10=> ?_)
 · refine sq (rT [4,5] (s3 (rt ?_)))
   have hr:iB k rec=(.zero,false):=if_neg (by simpa using c10)
   rw[hr]
   exact rq [] [] rfl qz
 have hok:dJ k=true:=by simpa using c10
 refine sk (sq (rT [2,4,6,7] (s1 (xp (rC k (by have:=hk.1;omega)) (ai rfl ?_)))))
 refine s1 (xp (gw k rec hk.1 hr) (ai rfl ?_))
 refine s6 (sq (sq (rT [2,4,6,25] (s3 (y1 (xc (fun h=>oX (gD k rec).1 (pT (eK hok) (by omega)).big.1 (pT (eK hok) (by omega)).2.1 (pT (eK hok) (by omega)).2.2) (ai rfl (ai rk ?_))))))))
 refine y1 (ai pk (cd rfl (fun c25=> ?_) fun c25=> ?_))
 · refine sq (rT [4,5] (s1 (xp (rC k (by have:=hk.1;omega)) (ai rfl ?_))))
   refine s2 (rt ?_)
   have hr:iB k rec=(k,false):=(if_pos hok).trans (if_neg (by intro h;rw[aW4] at h;rw[h.1,h.2] at c25;cases c25))
   rw[hr]
   exact rq [] [] rfl qz
 refine sk (sq (rT [4,5] (s1 (xp (rC (gD k rec).1 (by have:=(pT (eK hok) (show rec.length≤1000000 by omega)).1;omega)) (ai rfl ?_)))))
 refine s2 (rt ?_)
 have hr:iB k rec=((gD k rec).1,true):=(if_pos hok).trans (if_pos (by simpa using c25))
 rw[hr]
 exact rq [] [] rfl qz
theorem aPn (k:bB) (rec:List UInt8) (hk:KB k) (hr:rec.length≤900000):Ab.Spec Tryz.prog 116 2 [(.t 0,.v (k.V)),(.t 1,.v (Dv (.s rec)))] [(.t 0,.v (.tup [.agg [.d (.i ((dA k rec).1).id),.d (.i ((dA k rec).1).time),.d (.i ((dA k rec).1).next),.d (.sl (aE ((dA k rec).1).held)),.d (.sl (aO ((dA k rec).1).marks)),.d (.sl (aE ((dA k rec).1).inbox))],.c (.d (.b (dA k rec).2))]))]:=fj k rec▸gx k rec hk hr
set_option maxHeartbeats 1600000 in
theorem xQ (id:Int) (l:List (List UInt8)) (hl:l.length≤900000) (hx: ∀x∈l,x.length≤900000):Sp 70 2 [tI 0 id,tD 1 (.sl (aV l))] [tV 0 (.tup [.agg [.d (.i ((dS id l).1).id),.d (.i ((dS id l).1).time),.d (.i ((dS id l).1).next),.d (.sl (aE ((dS id l).1).held)),.d (.sl (aO ((dS id l).1).marks)),.d (.sl (aE ((dS id l).1).inbox))],.c (.d (.b (dS id l).2))])]:=by
 refine sb Tryz.func70 rfl (sq (rT [0,1,4] (s2 (sq (rT [0,1,4,6] (s1 (xp (px id) (ai rfl ?_))))))))
 refine s2 (sq (sq (rT [1,4,6,14] (s1 (xp (dF _) (ai rfl ?_))))))
 refine s1 (cd rfl (fun c14=> ?_) fun c14=> ?_)
 · refine sq (rT [4,5] (s3 (rt ?_)))
   have hr:dS id l=(.zero,false):=if_neg (by simpa using c14)
   have hz:cE id= .zero:=if_neg (by simpa using c14)
   rw[hr,hz]
   exact rq [] [] rfl qz
 have hnode:eN id=true:=by simpa using c14
 refine sk (sq (sq (rT [1,4,6,7] (s1 (bk (SW.loopW (n:=l.length) (fun m s=> ∃(i:Nat) (q:bB),m=l.length - i∧i≤l.length∧K6 q∧gE (cE id) l=gE q (l.drop i)∧s=[tD 1 (.sl (aV l)),tP 4 4,tP 6 6,tI 7 (i:Nat),oB 4 32 [.d (.i 0),.d (.i 0),.d (.i 0),.nil,.nil,.nil],oB 6 32 [.d (.i (q).id),.d (.i (q).time),.d (.i (q).next),.d (.sl (aE (q).held)),.d (.sl (aO (q).marks)),.d (.sl (aE (q).inbox))]]) ?_ ?_))))))
 · refine wq (σ':=[tD 1 (.sl (aV l)),tP 4 4,tP 6 6,tI 7 (0:Nat),oB 4 32 [.d (.i 0),.d (.i 0),.d (.i 0),.nil,.nil,.nil],oB 6 32 [.d (.i (cE id).id),.d (.i (cE id).time),.d (.i (cE id).next),.d (.sl (aE (cE id).held)),.d (.sl (aO (cE id).marks)),.d (.sl (aE (cE id).inbox))]]) [] [] (⟨0,cE id,rfl,aW6 _,zR id,rfl,rfl⟩) ?_
   repeat' apply ai
   all_goals first|exact qx|rfl|(rw[aJ];done)|exact qz
 rintro n s ⟨i,q,rfl,hi,hq,hgo,rfl⟩
 refine sq (sq (rT [1,4,6,7,19] (s4 (cd rfl (fun c19=> ?_) fun c19=> ?_))))
 · have hi2:i<l.length:=by simpa[aJ] using c19
   have hg:=fB (l:=l) hi2
   have hmem:l.getD i []∈l:=dG hi2
   have es:toS (((aV l).getD (i:Int).toNat []).getD 0 (.i 0))=l.getD i []:=by rw[aWz,hg];rfl
   refine sk (sq (bk (sq (rD [1,4,6,7,8,9] (s3 (ai (by rw[aWz,hg];exact⟨⟨by omega,by rw[aJ];omega⟩,rfl⟩) (ai (by rw[aWz,hg];exact⟨aW1 rfl,rfl⟩) (xp (aPn q (l.getD i []) hq.seven.big (hx _ hmem)) (ai (by exact aWw es) ?_)))))))))
   refine s6 (ai (by kernel_rfl) (sq (sq (rT [1,4,6,7,8,32] (s2 (cd rfl (fun c32=> ?_) fun c32=> ?_))))))
   · have hno: (dA q (l.getD i [])).2=false:=by simpa using c32
     rw[List.drop_eq_getElem_cons hi2,gE,show l[i]=l.getD i [] by rw[aW7,aW8 hi2];rfl,hno] at hgo
     refine sq (rT [4,5] (s3 (rt ?_)))
     have hr:dS id l=(.zero,false):=(if_pos hnode).trans (hgo.trans (if_neg (by simp)))
     rw[hr]
     exact rq [] [] rfl qz
   have hno: (dA q (l.getD i [])).2=true:=by simpa using c32
   rw[List.drop_eq_getElem_cons hi2,gE,show l[i]=l.getD i [] by rw[aW7,aW8 hi2];rfl,if_pos hno] at hgo
   refine sk (rT [1,4,6,7] (s2 (rT [1,4,6,7] (s3 (wq [] [] (⟨l.length - (i+1),by omega,i+1,(dA q (l.getD i [])).1,rfl,by omega,ou,hgo,rfl⟩) ?_)))))
   repeat' apply ai
   all_goals first|exact qx|exact congrArg D.i (aC (by omega))|exact qz
 have hi3:i=l.length:=by simp[aJ] at c19;omega
 subst hi3
 refine xt (sq (rT [4,5] (s3 (rt ?_))))
 have hr:dS id l=(q,true):=(if_pos hnode).trans (hgo.trans (by rw[List.drop_length];rfl))
 rw[hr]
 exact rq [] [] rfl qz
theorem gZ (s:List UInt8) (hl:s.length≤1000000):Sp 20 1 [tD 0 (.s s)] [tV 0 (.tup [.c (.d (.sl (aV (bD s).1))),.c (.d (.i ((bD s).2:Nat)))])]:=by
 refine Spec.told (rl:=[]) (bor:=[0]) (pq s hl) ?_ rfl rfl
 refine qs ?_
 repeat' first|exact qx|apply ai
 all_goals first|rfl|exact aJ _
theorem fQ (s:List UInt8) (hl:s.length≤1000000):Sp 69 1 [tD 0 (.s s)] [tV 0 (.tup [.c (.d (.sl (aV (bD s).1))),.c (.d (.i ((bD s).2:Nat)))])]:=by
 refine Spec.told (rl:=[]) (bor:=[0]) (po s hl) ?_ rfl rfl
 refine qs ?_
 repeat' first|exact qx|apply ai
 all_goals first|rfl|exact aJ _
theorem rH (l:List UInt8) (f:Int) (hl:l.length≤140737488355328):Sp 64 1 [tV 0 (.e (.agg [.d (.s l),.d (.i f)]))] [tB 0 (dP l f)]:=by
 refine sb Tryz.func64 rfl (sq (rT [1] (s2 (sq (sq (rT [1,19] (s5 (y4 (y1 (xc (fun h=>(gM _ _ _)) (ai rfl (ai rk ?_))))))))))))
 refine y1 (ai pk (cd rfl (fun c19=> ?_) fun c19=> ?_))
 · refine sq (rT [2] (s1 (rt (bJ rfl (congrArg D.b ?_)))))
   exact(wn c19).symm
 obtain⟨⟨h1,h2,h3⟩,hs⟩:=sa c19
 refine sk (sq (rT [1,4] (s2 (xp (gZ l (by omega)) (ai rfl ?_)))))
 refine s5 (sq (rT [1,4,6] (s4 (ai (by exact⟨by simp,by simpa using h2,by simpa using h3⟩) (xp (gZ (l.take f.toNat) (by rw[aW5];omega)) (ai rfl ?_))))))
 refine s5 (sq (rT [2] (s6 (y4 (ai pk (s1 (rt (bJ rfl (congrArg D.b ?_)))))))))
 exact hs.symm
theorem nU (l:List UInt8) (f:Int) (hl:l.length≤140737488355328):Sp 68 1 [tV 0 (.e (.agg [.d (.s l),.d (.i f)]))] [tB 0 (dP l f)]:=by
 refine sb Tryz.func68 rfl (sq (rT [1] (s2 (sq (sq (rT [1,19] (s5 (y4 (y1 (xc (fun h=>(dM _ _ _)) (ai rfl (ai rk ?_))))))))))))
 refine y1 (ai pk (cd rfl (fun c19=> ?_) fun c19=> ?_))
 · refine sq (rT [2] (s1 (rt (bJ rfl (congrArg D.b ?_)))))
   exact(wn c19).symm
 obtain⟨⟨h1,h2,h3⟩,hs⟩:=sa c19
 refine sk (sq (rT [1,4] (s2 (xp (fQ l (by omega)) (ai rfl ?_)))))
 refine s5 (sq (rT [1,4,6] (s4 (ai (by exact⟨by simp,by simpa using h2,by simpa using h3⟩) (xp (fQ (l.take f.toNat) (by rw[aW5];omega)) (ai rfl ?_))))))
 refine s5 (sq (rT [2] (s6 (y4 (ai pk (s1 (rt (bJ rfl (congrArg D.b ?_)))))))))
 exact hs.symm
set_option maxHeartbeats 800000 in
theorem vU (id:Int) (s:List UInt8) (hl:s.length≤900000):Sp 60 2 [tI 0 id,tD 1 (.s s)] [tV 0 (.tup [.agg [.d (.i ((dS id (bD s).1).1).id),.d (.i ((dS id (bD s).1).1).time),.d (.i ((dS id (bD s).1).1).next),.d (.sl (aE ((dS id (bD s).1).1).held)),.d (.sl (aO ((dS id (bD s).1).1).marks)),.d (.sl (aE ((dS id (bD s).1).1).inbox))],.c (.d (.b (dS id (bD s).1).2))])]:=by
 refine sb Tryz.func60 rfl (sq (rT [0,1,4] (s2 (sq (rT [0,4,6] (s1 (xp (gZ s (by omega)) (ai rfl ?_))))))))
 refine s5 (sq (rT [4,5] (s2 (xp (xP id (bD s).1 (jF s hl).1 (jF s hl).2) (ai rfl ?_)))))
 exact s4 (rt (bO rfl rfl rfl))
set_option maxHeartbeats 800000 in
theorem hZ (k:aH) (hl:k.log.length≤900000):Sp 59 1 [tV 0 k.V] [tV 0 (.tup [.agg [.d (.i ((bC k).1).id),.d (.i ((bC k).1).time),.d (.i ((bC k).1).next),.d (.sl (aE ((bC k).1).held)),.d (.sl (aO ((bC k).1).marks)),.d (.sl (aE ((bC k).1).inbox))],.c (.d (.b (bC k).2))])]:=by
 refine sb Tryz.func59 rfl (sq (rT [1,2] (s3 (sq (rT [1,2,4] (s3 (xp (fQ k.log (by omega)) (ai rfl ?_))))))))
 refine s5 (sq (rT [2,3] (s3 (xp (xQ k.id (bD k.log).1 (jF k.log hl).1 (jF k.log hl).2) (ai rfl ?_)))))
 exact s4 (rt (bO rfl rfl rfl))
theorem wS (b n:Int):Sp 162 2 [tI 0 b,tI 1 n] [tB 0 (tR b n)]:=by
 refine sb Tryz.func162 rfl (sq (rT [0,1] (s1 (sq (rT [4] (s1 (xp (dM _ _ _) (ai rfl ?_))))))))
 refine s1 (y1 (xc (fun h=>(dM _ _ _)) (ai rfl (ai rk ?_))))
 refine ai pk (s1 (rt (bJ rfl ?_)))
 rfl
theorem pE (n:Int) (hn:0≤n∧n≤140737488355328):Sp 118 1 [tI 0 n] [tI 0 ((n+3) / 4)]:=by
 refine sb Tryz.func118 rfl (sq (rT [0] (s1 (sq (rT [2] (s3 (ai (by decide) (s1 (rt (bJ rfl (congrArg D.i ?_)))))))))))
 rw[aC (n:=n+4) (by omega),aC (n:=n+4 - 1) (by omega),Int.tdiv_eq_ediv_of_nonneg (by omega),aC (by omega)]
 omega
theorem ec (b:Int) (m:hP):Sp 117 2 [tI 0 b,tV 1 m.V] [tB 0 (tR b m.num&&decide ((m.data.length:Int)=4))]:=by
 refine sb Tryz.func117 rfl (sq (rT [0,3] (s2 (sq (rT [4] (s3 (xp (wS _ _) (ai rfl ?_))))))))
 refine s1 (y4 (ai pk (s1 (rt (bJ rfl (congrArg D.b ?_))))))
 show(_&&_)=_
 congr 1
set_option maxHeartbeats 1600000 in
theorem aAv (h:dT):Sp 65 1 [tV 0 h.V] [tB 0 (mD h)]:=by
 refine sb Tryz.func65 rfl (sq (rT [1] (s2 (sq (sq (rT [1,40] (s2 (xp (iN _) (ai rfl ?_)))))))))
 refine s2 (y2 (xc (fun h=>(iN _)) (ai rfl (ai rk ?_))))
 refine y1 (ai pk (s1 (y2 (xc (fun h=>(gM _ _ _)) (ai rfl (ai rk ?_))))))
 refine y1 (ai pk (s1 (y2 (xc (fun h=>(gM _ _ _)) (ai rfl (ai rk ?_))))))
 refine y1 (ai pk (s1 (y2 (xc (fun h=>(gM _ _ _)) (ai rfl (ai rk ?_))))))
 refine y1 (ai pk (s1 (y4 (ai pk (cd rfl (fun c40=> ?_) fun c40=> ?_)))))
 · have hh:=lr c40
   refine sq (rT [2] (s1 (rt (bJ rfl (congrArg D.b ?_)))))
   rw[mD,hh];rfl
 have hh:=lr c40
 obtain⟨p1,p2,p3,p4,p5,p6⟩:=lQ hh
 refine sk (sq (sq (rT [1,42,43,44] (s4 (bk (SW.loopW (n:=h.got.length) (fun m q=> ∃i:Nat,m=h.got.length - i∧i≤h.got.length∧(∀k,k<i→oF h.got k=true)∧q=[tP 1 1,tD 42 (.sl (cM h.got)),tI 43 (h.got.length:Nat),tI 44 (i:Nat),oB 1 85 [.d (.i (h).frm),.d (.i (h).num),.d (.i (h).to),.d (.i (h).til),.d (.i (h).size),.d (.sl (cM (h).got))]]) ?_ ?_))))))
 · refine wq (σ':=[tP 1 1,tD 42 (.sl (cM h.got)),tI 43 (h.got.length:Nat),tI 44 (0:Nat),oB 1 85 [.d (.i (h).frm),.d (.i (h).num),.d (.i (h).to),.d (.i (h).til),.d (.i (h).size),.d (.sl (cM (h).got))]]) [] [] (⟨0,rfl,aW6 _,fun k h=>absurd h (by omega),rfl⟩) ?_
   repeat' apply ai
   all_goals first|exact qx|rfl|(rw[bG];done)|exact qz
 rintro n s ⟨i,rfl,hi,hk,rfl⟩
 refine sq (rT [1,42,43,44,45] (s1 (sq (cd rfl (fun c45=> ?_) fun c45=> ?_))))
 · have hi2:i<h.got.length:=by simpa using c45
   have hg:=mB (l:=h.got) hi2
   refine sk (sq (bk (sq (rT [1,3,4,42,43,44] (s1 (ai (by rw[aWz,hg];exact⟨⟨by omega,by rw[bG];omega⟩,rfl⟩) (ai (by rw[aWz,hg];exact⟨aW1 rfl,rfl⟩) (s3 (sq (sq (wa [tP 1 1,tI 3 (i:Nat),tP 4 4,tD 42 (.sl (cM h.got)),tI 43 (h.got.length:Nat),tI 44 (i:Nat),oB 1 85 [.d (.i (h).frm),.d (.i (h).num),.d (.i (h).to),.d (.i (h).til),.d (.i (h).size),.d (.sl (cM (h).got))],oB 4 68 [.d (.i (h.got.getD i .zero).num),.d (.s (h.got.getD i .zero).data)]] [] [] ?_ ?_)))))))))))
   · repeat' apply ai
     all_goals first|exact qx|(rw[aWz,hg];rfl)|exact qz
   refine rT [1,3,4,42,43,44,58] (s2 (xp (gM _ _ _) (ai rfl ?_)))
   refine s2 (y4 (ai pk (cd rfl (fun c58=> ?_) fun c58=> ?_)))
   · have hm:wL (h.got.getD i .zero)=false:=by
      unfold wL
      rw[← Bool.not_eq_true',Bool.not_and]
      exact mixC c58
     have hs:=ry hm
     refine sq (rT [2] (s1 (rt (bJ rfl (congrArg D.b ?_)))))
     rw[mD,hh,Bool.not_false,Bool.true_and,fU hi2 hs]
   have hm:wL (h.got.getD i .zero)=true:=aWx c58
   refine sk (sq (rT [1,4,42,43,44,62,63,64] (s3 (ai (by exact⟨by rw[bG];exact⟨by first|(simp;done)|(simp;omega),by first|(simp;done)|(simp;omega),by first|(simp;done)|(simp;omega)⟩,qS _⟩) (s2 (bk (SW.loopW (n:=i) (fun m q=> ∃j:Nat,m=i - j∧j≤i∧(∀k,k<j→((h.got.getD k .zero).num==(h.got.getD i .zero).num)=false)∧q=[tP 1 1,tP 4 4,tD 42 (.sl (cM h.got)),tI 43 (h.got.length:Nat),tI 44 (i:Nat),tD 62 (.sl ((cM h.got).take i)),tI 63 (i:Nat),tI 64 (j:Nat),oB 1 85 [.d (.i (h).frm),.d (.i (h).num),.d (.i (h).to),.d (.i (h).til),.d (.i (h).size),.d (.sl (cM (h).got))],oB 4 68 [.d (.i (h.got.getD i .zero).num),.d (.s (h.got.getD i .zero).data)]]) ?_ ?_)))))))
   · refine wq (σ':=[tP 1 1,tP 4 4,tD 42 (.sl (cM h.got)),tI 43 (h.got.length:Nat),tI 44 (i:Nat),tD 62 (.sl ((cM h.got).take i)),tI 63 (i:Nat),tI 64 (0:Nat),oB 1 85 [.d (.i (h).frm),.d (.i (h).num),.d (.i (h).to),.d (.i (h).til),.d (.i (h).size),.d (.sl (cM (h).got))],oB 4 68 [.d (.i (h.got.getD i .zero).num),.d (.s (h.got.getD i .zero).data)]]) [] [] (⟨0,rfl,aW6 _,fun k h=>absurd h (by omega),rfl⟩) ?_
     repeat' apply ai
     all_goals first|exact qx|rfl|(rw[zO];done)|(rw[zO,aW5,bG];refine congrArg D.i ?_;omega)|exact qz
   rintro n s ⟨j,rfl,hj,hkj,rfl⟩
   refine sq (rT [1,4,42,43,44,62,63,64,65] (s1 (sq (cd rfl (fun c65=> ?_) fun c65=> ?_))))
   · have hj2:j<i:=by simpa using c65
     have hg2: ((cM h.got).take i).getD j []=(h.got.getD j .zero).row:=by rw[yF hj2,mB (by omega)]
     refine sk (sq (bk (sq (rT [1,4,6,42,43,44,62,63,64] (ai (by rw[aWz,hg2];exact⟨⟨by omega,by rw[aW5,bG];omega⟩,rfl⟩) (ai (by rw[aWz,hg2];exact⟨aW1 rfl,rfl⟩) (s2 (sq (rT [1,4,42,43,44,62,63,64,72] (s5 (cd rfl (fun c72=> ?_) fun c72=> ?_)))))))))))
     · have hq: ((h.got.getD j .zero).num==(h.got.getD i .zero).num)=true:=by
        have h9:=c72
        rw[aWz,hg2] at h9
        exact h9
       have hs:=wm hj2 hq
       refine sq (rT [2] (s1 (rt (bJ rfl (congrArg D.b ?_)))))
       rw[mD,hh,Bool.not_false,Bool.true_and,fU hi2 hs]
     refine sk (rT [1,4,42,43,44,62,63,64] (s2 ?_))
     have hq: ((h.got.getD j .zero).num==(h.got.getD i .zero).num)=false:=by
      have h9:=c72
      rw[aWz,hg2] at h9
      exact h9
     refine wq [] [] (⟨i - (j+1),by omega,j+1,rfl,by omega,fun k h=>by by_cases e:k=j;exact e▸hq;exact hkj k (by omega),rfl⟩) ?_
     repeat' apply ai
     all_goals first|exact qx|exact congrArg D.i (aC (by omega))|exact qz
   have hj3:j=i:=by simp at c65;omega
   subst hj3
   have hs:=rx hm hkj
   refine xt (rT [1,42,43,44] (s2 (wq [] [] (⟨h.got.length - (j+1),by omega,j+1,rfl,by omega,fun k h=>by by_cases e:k=j;exact e▸hs;exact hk k (by omega),rfl⟩) ?_)))
   repeat' apply ai
   all_goals first|exact qx|exact congrArg D.i (aC (by omega))|exact qz
 have hi3:i=h.got.length:=by simp at c45;omega
 refine xt (sq (rT [2] (s1 (rt (bJ rfl (congrArg D.b ?_))))))
 rw[mD,hh,Bool.not_false,Bool.true_and]
 subst hi3
 exact(iP hk).symm
set_option maxHeartbeats 1600000 in
theorem py (h:dT):Sp 71 1 [tV 0 h.V] [tB 0 (mD h)]:=by
 refine sb Tryz.func71 rfl (sq (rT [1] (s2 (sq (sq (rT [1,38] (s2 (xp (dF _) (ai rfl ?_)))))))))
 refine s2 (y2 (xc (fun h=>(dF _)) (ai rfl (ai rk ?_))))
 refine y1 (ai pk (s1 (y2 (xc (fun h=>(dM _ _ _)) (ai rfl (ai rk ?_))))))
 refine y1 (ai pk (s1 (y2 (xc (fun h=>(dM _ _ _)) (ai rfl (ai rk ?_))))))
 refine y1 (ai pk (s1 (y2 (xc (fun h=>(dM _ _ _)) (ai rfl (ai rk ?_))))))
 refine y1 (ai pk (s1 (y4 (ai pk (cd rfl (fun c38=> ?_) fun c38=> ?_)))))
 · have hh:=lr c38
   refine sq (rT [2] (s1 (rt (bJ rfl (congrArg D.b ?_)))))
   rw[mD,hh];rfl
 have hh:=lr c38
 obtain⟨p1,p2,p3,p4,p5,p6⟩:=lQ hh
 have hb1:iK ((h.size+3) / 4) 1 6=true:=by simp only[iK,aW4,decide_eq_true_eq];omega
 refine sk (sq (sq (rT [1,3] (s1 (bk (SW.loopW (n:=h.got.length) (fun m q=> ∃i:Nat,m=h.got.length - i∧i≤h.got.length∧(∀k,k<i→oF h.got k=true)∧q=[tP 1 1,tI 3 (i:Nat),oB 1 85 [.d (.i (h).frm),.d (.i (h).num),.d (.i (h).to),.d (.i (h).til),.d (.i (h).size),.d (.sl (cM (h).got))]]) ?_ ?_))))))
 · exact wq (σ':=[tP 1 1,tI 3 (0:Nat),oB 1 85 [.d (.i (h).frm),.d (.i (h).num),.d (.i (h).to),.d (.i (h).til),.d (.i (h).size),.d (.sl (cM (h).got))]]) [] [] (⟨0,rfl,aW6 _,fun k h=>absurd h (by omega),rfl⟩) qz
 rintro n s ⟨i,rfl,hi,hk,rfl⟩
 refine sq (sq (rT [1,3,43] (s5 (cd rfl (fun c43=> ?_) fun c43=> ?_))))
 · have hi2:i<h.got.length:=by simpa[bG] using c43
   have hg:=mB (l:=h.got) hi2
   refine sk (sq (bk (sq (sq (rD [1,3,55] (s2 (xp (pE h.size (by omega)) (ai rfl ?_))))))))
   refine s3 (ai (by rw[aWz,hg];exact⟨⟨by omega,by rw[bG];omega⟩,rfl⟩) (ai (by rw[aWz,hg];exact⟨aW1 rfl,rfl⟩) (xp (ec ((h.size+3) / 4) (h.got.getD i .zero)) (ai (by rw[aWz,hg];rfl) ?_))))
   refine s1 (ai (by kernel_rfl) (cd rfl (fun c55=> ?_) fun c55=> ?_))
   · have hm:wL (h.got.getD i .zero)=false:=by
      have h9:=c55
      rw[tR,hb1,Bool.true_and] at h9
      simpa only[wL,Bool.not_eq_true'] using h9
     have hs:=ry hm
     refine sq (rT [2] (s1 (rt (bJ rfl (congrArg D.b ?_)))))
     rw[mD,hh,Bool.not_false,Bool.true_and,fU hi2 hs]
   have hm:wL (h.got.getD i .zero)=true:=by
    have h9:=c55
    rw[tR,hb1,Bool.true_and] at h9
    simpa only[wL,Bool.not_eq_false'] using h9
   refine sk (sq (rT [1,3,4] (s1 (bk (SW.loopW (n:=i) (fun m q=> ∃j:Nat,m=i - j∧j≤i∧(∀k,k<j→((h.got.getD k .zero).num==(h.got.getD i .zero).num)=false)∧q=[tP 1 1,tI 3 (i:Nat),tI 4 (j:Nat),oB 1 85 [.d (.i (h).frm),.d (.i (h).num),.d (.i (h).to),.d (.i (h).til),.d (.i (h).size),.d (.sl (cM (h).got))]]) ?_ ?_)))))
   · exact wq (σ':=[tP 1 1,tI 3 (i:Nat),tI 4 (0:Nat),oB 1 85 [.d (.i (h).frm),.d (.i (h).num),.d (.i (h).to),.d (.i (h).til),.d (.i (h).size),.d (.sl (cM (h).got))]]) [] [] (⟨0,rfl,aW6 _,fun k h=>absurd h (by omega),rfl⟩) qz
   rintro n s ⟨j,rfl,hj,hkj,rfl⟩
   refine sq (sq (rT [1,3,4,58] (s3 (cd rfl (fun c58=> ?_) fun c58=> ?_))))
   · have hj2:j<i:=by simpa using c58
     have hg2:=mB (l:=h.got) (i:=j) (by omega)
     refine sk (sq (bk (sq (rD [1,3,4,73] (s3 (ai (by rw[aWz,hg2];exact⟨⟨by omega,by rw[bG];omega⟩,rfl⟩) (s1 (ai (by rw[aWz,hg2];exact⟨aW1 rfl,rfl⟩) (s3 (ai (by rw[aWz,hg];exact⟨⟨by omega,by rw[bG];omega⟩,rfl⟩) (s1 (ai (by rw[aWz,hg];exact⟨aW1 rfl,rfl⟩) (s1 (ai (by kernel_rfl) (cd rfl (fun c73=> ?_) fun c73=> ?_)))))))))))))))
     · have hq: ((h.got.getD j .zero).num==(h.got.getD i .zero).num)=true:=by
        have h9:=c73
        rw[aWz,aWz,hg2,hg] at h9
        exact h9
       have hs:=wm hj2 hq
       refine sq (rT [2] (s1 (rt (bJ rfl (congrArg D.b ?_)))))
       rw[mD,hh,Bool.not_false,Bool.true_and,fU hi2 hs]
     refine sk (rT [1,3,4] (s3 ?_))
     have hq: ((h.got.getD j .zero).num==(h.got.getD i .zero).num)=false:=by
      have h9:=c73
      rw[aWz,aWz,hg2,hg] at h9
      exact h9
     refine wq [] [] (⟨i - (j+1),by omega,j+1,rfl,by omega,fun k h=>by by_cases e:k=j;exact e▸hq;exact hkj k (by omega),rfl⟩) ?_
     repeat' apply ai
     all_goals first|exact qx|exact congrArg D.i (aC (by omega))|exact qz
   have hj3:j=i:=by simp at c58;omega
   subst hj3
   have hs:=rx hm hkj
   refine xt (rT [1,3] (s3 (wq [] [] (⟨h.got.length - (j+1),by omega,j+1,rfl,by omega,fun k h=>by by_cases e:k=j;exact e▸hs;exact hk k (by omega),rfl⟩) ?_)))
   repeat' apply ai
   all_goals first|exact qx|exact congrArg D.i (aC (by omega))|exact qz
 have hi3:i=h.got.length:=by simp[bG] at c43;omega
 refine xt (sq (rT [2] (s1 (rt (bJ rfl (congrArg D.b ?_))))))
 rw[mD,hh,Bool.not_false,Bool.true_and]
 subst hi3
 exact(iP hk).symm
theorem aAw (l:List dT) (f m:Int) (hl:l.length≤1000000):Sp 66 3 [tD 0 (.sl (aX l)),tI 1 f,tI 2 m] [tI 0 (gV l f m)]:=by
 refine sb Tryz.func66 rfl (sq (rT [0,1,2] (s1 (sq (sq (rT [1,2,9,10,11] (s3 (bk (SW.loopW (n:=l.length) (fun n q=> ∃i:Nat,n=l.length - i∧i≤l.length∧(∀k,k<i→iJ l f m k=false)∧q=[tI 1 f,tI 2 m,tD 9 (.sl (aX l)),tI 10 (l.length:Nat),tI 11 (i:Nat)]) ?_ ?_)))))))))
 · refine wq (σ':=[tI 1 f,tI 2 m,tD 9 (.sl (aX l)),tI 10 (l.length:Nat),tI 11 (0:Nat)]) [] [] (⟨0,rfl,aW6 _,fun k h=>absurd h (by omega),rfl⟩) ?_
   repeat' apply ai
   all_goals first|exact qx|(rw[aG];done)|rfl|exact qz
 rintro n s ⟨i,rfl,hi,hk,rfl⟩
 refine sq (rT [1,2,9,10,11,12] (s1 (sq (cd rfl (fun c12=> ?_) fun c12=> ?_))))
 · have hi2:i<l.length:=by simpa using c12
   have hg:=gJ (l:=l) hi2
   refine sk (sq (bk (sq (rT [1,2,7,8,9,10,11] (s1 (ai (by rw[aWz,hg];exact⟨⟨by omega,by rw[aG];omega⟩,rfl⟩) (ai (by rw[aWz,hg];exact⟨aW1 rfl,rfl⟩) (s3 (sq (rT [1,2,7,9,10,11,25] (s5 (y4 (ai pk (cd rfl (fun c25=> ?_) fun c25=> ?_))))))))))))))
   · refine sq (rT [6] (s2 (rt (bJ rfl (congrArg D.i ?_)))))
     have hs:iJ l f m i=true:=by
      have h9:=c25
      rw[aWz,hg] at h9
      exact h9
     exact(lV (aW6 _) (by omega) (fun j _ h=>hk j h) hs).symm
   refine sk (rT [1,2,9,10,11] (s2 ?_))
   have hs:iJ l f m i=false:=by
    have h9:=c25
    rw[aWz,hg] at h9
    exact h9
   refine wq [] [] (⟨l.length - (i+1),by omega,i+1,rfl,by omega,fun k h=>by by_cases e:k=i;exact e▸hs;exact hk k (by omega),rfl⟩) ?_
   repeat' apply ai
   all_goals first|exact qx|exact congrArg D.i (aC (by omega))|exact qz
 have hi3:i=l.length:=by simp at c12;omega
 refine xt (sq (rT [6] (s1 (rt (bJ rfl (congrArg D.i ?_))))))
 exact(lY (fun j _ h=>hk j (by omega))).symm
set_option maxHeartbeats 3200000 in
theorem iV (k:aH) (hl:k.log.length≤140737488355328):Sp 18 1 [tV 0 k.V] [tB 0 (aT k)]:=by
 refine sb Tryz.func18 rfl (sq (rT [1] (s2 (sq (sq (rT [1,35] (s2 (xp (iN _) (ai rfl ?_)))))))))
 refine s2 (y2 (xc (fun h=>(rH k.log k.forced hl)) (ai rfl (ai rk ?_))))
 refine y1 (ai pk (s1 (y4 (ai pk (s1 (y4 (y4 (ai (fun h=>pk) (ai rk (ai pk (cd rfl (fun c35=> ?_) fun c35=> ?_)))))))))))
 · have hh:=zV c35
   refine sq (rT [2] (s1 (rt (bJ rfl (congrArg D.b ?_)))))
   exact(xH hh).symm
 have hh:=zV c35
 obtain⟨p1,p2,p3,p4⟩:=fL hh
 obtain⟨q1,q2,q3,q4⟩:=iM p2
 refine sk (sq (rT [1,4] (s5 (xp (vU k.id k.log (by omega)) (ai rfl ?_)))))
 refine s6 (sq (rD [1,4,6] (s8 (ai (by exact⟨by simp,by simpa using q2.1,by simpa using q2.2⟩) (xp (vU k.id (k.log.take k.forced.toNat) (by rw[aW5];omega)) (ai rfl ?_))))))
 refine s6 (ai (by kernel_rfl) (sq (sq (rT [1,63] (s3 (y2 (ai pk (cd rfl (fun c63=> ?_) fun c63=> ?_))))))))
 · have hn:=rz (k:=k) c63 (.inl ⟨rfl,rfl⟩)
   refine sq (rT [2] (s1 (rt (bJ rfl (congrArg D.b ?_)))))
   exact hn.symm
 have hy:=lq (k:=k) hh c63 (.inl ⟨rfl,rfl⟩)
 refine sk (sq (sq (rT [1,65,66,67] (s4 (bk (SW.loopW (n:=k.halves.length) (fun m q=> ∃i:Nat,m=k.halves.length - i∧i≤k.halves.length∧(∀j,j<i→iF k.halves j=true)∧q=[tP 1 1,tD 65 (.sl (aX k.halves)),tI 66 (k.halves.length:Nat),tI 67 (i:Nat),oB 1 27 [.d (.i (k).id),.d (.b (k).up),.d (.s (k).log),.d (.i (k).forced),.d (.sl (aX (k).halves))]]) ?_ ?_))))))
 · refine wq (σ':=[tP 1 1,tD 65 (.sl (aX k.halves)),tI 66 (k.halves.length:Nat),tI 67 (0:Nat),oB 1 27 [.d (.i (k).id),.d (.b (k).up),.d (.s (k).log),.d (.i (k).forced),.d (.sl (aX (k).halves))]]) [] [] (⟨0,rfl,aW6 _,fun j h=>absurd h (by omega),rfl⟩) ?_
   repeat' apply ai
   all_goals first|exact qx|rfl|(rw[aG];done)|exact qz
 rintro n s ⟨i,rfl,hi,hk,rfl⟩
 refine sq (rT [1,65,66,67,68] (s1 (sq (cd rfl (fun c68=> ?_) fun c68=> ?_))))
 · have hi2:i<k.halves.length:=by simpa using c68
   have hg:=gJ (l:=k.halves) hi2
   refine sk (sq (bk (sq (rT [1,7,8,65,66,67] (s1 (ai (by rw[aWz,hg];exact⟨⟨by omega,by rw[aG];omega⟩,rfl⟩) (ai (by rw[aWz,hg];exact⟨aW1 rfl,rfl⟩) (s3 (sq (wa [tP 1 1,tI 7 (i:Nat),tP 8 8,tD 65 (.sl (aX k.halves)),tI 66 (k.halves.length:Nat),tI 67 (i:Nat),oB 1 27 [.d (.i (k).id),.d (.b (k).up),.d (.s (k).log),.d (.i (k).forced),.d (.sl (aX (k).halves))],oB 8 85 [.d (.i (k.halves.getD i .zero).frm),.d (.i (k.halves.getD i .zero).num),.d (.i (k.halves.getD i .zero).to),.d (.i (k.halves.getD i .zero).til),.d (.i (k.halves.getD i .zero).size),.d (.sl (cM (k.halves.getD i .zero).got))]] [] [] ?_ ?_))))))))))
   · repeat' apply ai
     all_goals first|exact qx|(rw[aWz,hg];rfl)|exact qz
   refine rT [1,65,66,67,85] (s1 (xp (aAv (k.halves.getD i .zero)) (ai rfl ?_)))
   refine s2 (y4 (y2 (xc (fun h=>(aAw k.halves _ _ (by omega))) (ai rfl (ai rk ?_)))))
   refine y2 (ai pk (cd rfl (fun c85=> ?_) fun c85=> ?_))
   · refine sq (rT [2] (s1 (rt (bJ rfl (congrArg D.b ?_)))))
     have hs:iF k.halves i=false:=lp hi2 c85
     rw[hy,fU hi2 hs]
   refine sk (rT [1,65,66,67] (s2 ?_))
   have hs:iF k.halves i=true:=lp hi2 c85
   refine wq [] [] (⟨k.halves.length - (i+1),by omega,i+1,rfl,by omega,fun j h=>by by_cases e:j=i;exact e▸hs;exact hk j (by omega),rfl⟩) ?_
   repeat' apply ai
   all_goals first|exact qx|exact congrArg D.i (aC (by omega))|exact qz
 have hi3:i=k.halves.length:=by simp at c68;omega
 refine xt (sq (rT [2] (s1 (rt (bJ rfl (congrArg D.b ?_))))))
 subst hi3
 rw[hy,iP hk]
set_option maxHeartbeats 3200000 in
theorem eL (k:aH) (hl:k.log.length≤140737488355328):Sp 19 1 [tV 0 k.V] [tB 0 (aT k)]:=by
 refine sb Tryz.func19 rfl (sq (rT [1] (s2 (sq (sq (rT [1,37] (s2 (xp (dF _) (ai rfl ?_)))))))))
 refine s2 (y2 (xc (fun h=>(nU k.log k.forced hl)) (ai rfl (ai rk ?_))))
 refine y1 (ai pk (s1 (y4 (ai pk (s1 (y4 (y4 (ai (fun h=>pk) (ai rk (ai pk (cd rfl (fun c37=> ?_) fun c37=> ?_)))))))))))
 · have hh:=zV c37
   refine sq (rT [2] (s1 (rt (bJ rfl (congrArg D.b ?_)))))
   exact(xH hh).symm
 have hh:=zV c37
 obtain⟨p1,p2,p3,p4⟩:=fL hh
 obtain⟨q1,q2,q3,q4⟩:=iM p2
 refine sk (sq (rT [1,3] (s6 (ai (by exact⟨by simp,by simpa using q2.1,by simpa using q2.2⟩) (xp (fQ (k.log.take k.forced.toNat) (by rw[aW5];omega)) (ai rfl ?_))))))
 refine s5 (sq (rT [1,6] (s3 (xp (xQ k.id (bD (k.log.take k.forced.toNat)).1 (jF _ (by rw[aW5];omega)).1 (jF _ (by rw[aW5];omega)).2) (ai rfl ?_)))))
 refine s6 (sq (rT [1,6,8] (s1 (xp (hZ k (by omega)) (ai rfl ?_)))))
 refine s6 (sq (sq (rT [1,66] (s3 (y2 (ai pk (cd rfl (fun c66=> ?_) fun c66=> ?_)))))))
 · have hn:=rz (k:=k) c66 (.inl ⟨rfl,rfl⟩)
   refine sq (rT [2] (s1 (rt (bJ rfl (congrArg D.b ?_)))))
   exact hn.symm
 have hy:=lq (k:=k) hh c66 (.inl ⟨rfl,rfl⟩)
 refine sk (sq (sq (rT [1,9] (s1 (bk (SW.loopW (n:=k.halves.length) (fun m q=> ∃i:Nat,m=k.halves.length - i∧i≤k.halves.length∧(∀j,j<i→iF k.halves j=true)∧q=[tP 1 1,tI 9 (i:Nat),oB 1 27 [.d (.i (k).id),.d (.b (k).up),.d (.s (k).log),.d (.i (k).forced),.d (.sl (aX (k).halves))]]) ?_ ?_))))))
 · exact wq (σ':=[tP 1 1,tI 9 (0:Nat),oB 1 27 [.d (.i (k).id),.d (.b (k).up),.d (.s (k).log),.d (.i (k).forced),.d (.sl (aX (k).halves))]]) [] [] (⟨0,rfl,aW6 _,fun j h=>absurd h (by omega),rfl⟩) qz
 rintro n s ⟨i,rfl,hi,hk,rfl⟩
 refine sq (sq (rT [1,9,71] (s5 (cd rfl (fun c71=> ?_) fun c71=> ?_))))
 · have hi2:i<k.halves.length:=by simpa[aG] using c71
   have hg:=gJ (l:=k.halves) hi2
   refine sk (sq (bk (sq (sq (rT [1,9,80] (s3 (ai (by rw[aWz,hg];exact⟨⟨by omega,by rw[aG];omega⟩,rfl⟩) (ai (by rw[aWz,hg];exact⟨aW1 rfl,rfl⟩) (xp (py (k.halves.getD i .zero)) (ai (by rw[aWz,hg];rfl) ?_))))))))))
   refine s1 (cd rfl (fun c80=> ?_) fun c80=> ?_)
   · have hs:=aDu (by simpa using c80)
     refine sq (rT [2] (s1 (rt (bJ rfl (congrArg D.b ?_)))))
     rw[hy,fU hi2 hs]
   refine sk (sq (rT [1,9,10] (s1 (bk (SW.loopW (n:=i) (fun m q=> ∃j:Nat,m=i - j∧j≤i∧(∀k1,k1<j→iJ k.halves (k.halves.getD i .zero).frm (k.halves.getD i .zero).num k1=false)∧q=[tP 1 1,tI 9 (i:Nat),tI 10 (j:Nat),oB 1 27 [.d (.i (k).id),.d (.b (k).up),.d (.s (k).log),.d (.i (k).forced),.d (.sl (aX (k).halves))]]) ?_ ?_)))))
   · exact wq (σ':=[tP 1 1,tI 9 (i:Nat),tI 10 (0:Nat),oB 1 27 [.d (.i (k).id),.d (.b (k).up),.d (.s (k).log),.d (.i (k).forced),.d (.sl (aX (k).halves))]]) [] [] (⟨0,rfl,aW6 _,fun j h=>absurd h (by omega),rfl⟩) qz
   rintro n s ⟨j,rfl,hj,hkj,rfl⟩
   refine sq (sq (rT [1,9,10,83] (s3 (cd rfl (fun c83=> ?_) fun c83=> ?_))))
   · have hj2:j<i:=by simpa using c83
     have hg2:=gJ (l:=k.halves) (i:=j) (by omega)
     refine sk (sq (bk (sq (rD [1,9,10,113] (s3 (ai (by rw[aWz,hg2];exact⟨⟨by omega,by rw[aG];omega⟩,rfl⟩) (s1 (ai (by rw[aWz,hg2];exact⟨aW1 rfl,rfl⟩) (s3 (ai (by rw[aWz,hg];exact⟨⟨by omega,by rw[aG];omega⟩,rfl⟩) (s1 (ai (by rw[aWz,hg];exact⟨aW1 rfl,rfl⟩) (s2 (y3 (ai (fun h=>(by rw[aWz,hg2];exact⟨⟨by omega,by rw[aG];omega⟩,rfl⟩)) (ai rk (y1 (ai (fun h=>(by rw[aWz,hg2];exact⟨aW1 rfl,rfl⟩)) (ai rk (y3 (ai (fun h=>(by rw[aWz,hg];exact⟨⟨by omega,by rw[aG];omega⟩,rfl⟩)) (ai rk (y1 (ai (fun h=>(by rw[aWz,hg];exact⟨aW1 rfl,rfl⟩)) (ai rk (y1 (ai pk (ai (by kernel_rfl) (cd rfl (fun c113=> ?_) fun c113=> ?_)))))))))))))))))))))))))))))
     · have hq:iJ k.halves (k.halves.getD i .zero).frm (k.halves.getD i .zero).num j=true:=by
        have h9:=c113
        rw[aWz,aWz,hg2,hg] at h9
        exact h9
       have hs:=aGd hj2 hq
       refine sq (rT [2] (s1 (rt (bJ rfl (congrArg D.b ?_)))))
       rw[hy,fU hi2 hs]
     refine sk (rT [1,9,10] (s3 ?_))
     have hq:iJ k.halves (k.halves.getD i .zero).frm (k.halves.getD i .zero).num j=false:=by
      have h9:=c113
      rw[aWz,aWz,hg2,hg] at h9
      exact h9
     refine wq [] [] (⟨i - (j+1),by omega,j+1,rfl,by omega,fun m h=>by by_cases e:m=j;exact e▸hq;exact hkj m (by omega),rfl⟩) ?_
     repeat' apply ai
     all_goals first|exact qx|exact congrArg D.i (aC (by omega))|exact qz
   have hj3:j=i:=by simp at c83;omega
   subst hj3
   have hs:=aDt (by simpa using c80) hkj
   refine xt (rT [1,9] (s3 (wq [] [] (⟨k.halves.length - (j+1),by omega,j+1,rfl,by omega,fun m h=>by by_cases e:m=j;exact e▸hs;exact hk m (by omega),rfl⟩) ?_)))
   repeat' apply ai
   all_goals first|exact qx|exact congrArg D.i (aC (by omega))|exact qz
 have hi3:i=k.halves.length:=by simp[aG] at c71;omega
 refine xt (sq (rT [2] (s1 (rt (bJ rfl (congrArg D.b ?_))))))
 subst hi3
 rw[hy,iP hk]
theorem mu (l:List UInt8) (f:Int) (hl:l.length≤140737488355328):Sp 125 1 [tV 0 (.e (.agg [.d (.s l),.d (.i f)]))] [tV 0 (.e (.agg [.d (.s (eT l f).1),.d (.i (eT l f).2)]))]:=by
 refine sb Tryz.func125 rfl (sq (rT [1,2] (s2 (sq (sq (rT [1,2,5] (s1 (xp (rH l f hl) (ai rfl ?_)))))))))
 refine s1 (cd rfl (fun c5=> ?_) fun c5=> ?_)
 · refine sq (rT [2] (s2 (rt ?_)))
   have hr:eT l f=([],0):=if_neg (by simpa using c5)
   refine bO rfl rfl ?_
   rw[hr]<;>rfl
 refine sk (sq (rT [2] (s7 (rt ?_))))
 have hr:eT l f=(l,(l.length:Int)):=if_pos (by simpa using c5)
 refine bO rfl rfl ?_
 rw[hr]<;>rfl
theorem iT (l:List UInt8) (f:Int) (hl:l.length≤140737488355328):Sp 84 1 [tV 0 (.e (.agg [.d (.s l),.d (.i f)]))] [tV 0 (.e (.agg [.d (.s (eT l f).1),.d (.i (eT l f).2)]))]:=by
 refine sb Tryz.func84 rfl (sq (rT [1,2] (s2 (sq (sq (rT [1,2,5] (s1 (xp (nU l f hl) (ai rfl ?_)))))))))
 refine s1 (cd rfl (fun c5=> ?_) fun c5=> ?_)
 · refine sq (rT [2] (s2 (rt ?_)))
   have hr:eT l f=([],0):=if_neg (by simpa using c5)
   refine bO rfl rfl ?_
   rw[hr]<;>rfl
 refine sk (sq (rT [2] (s7 (rt ?_))))
 have hr:eT l f=(l,(l.length:Int)):=if_pos (by simpa using c5)
 refine bO rfl rfl ?_
 rw[hr]<;>rfl
set_option maxHeartbeats 800000 in
theorem pz (l:List UInt8) (f keep:Int) (hl:l.length≤140737488355328):Sp 81 2 [tV 0 (.e (.agg [.d (.s l),.d (.i f)])),tI 1 keep] [tV 0 (.e (.agg [.d (.s (fG l f keep).1),.d (.i (fG l f keep).2)]))]:=by
 refine sb Tryz.func81 rfl (sq (rT [1,2,4] (s2 (sq (sq (rT [1,2,4,10] (s1 (xp (rH l f hl) (ai rfl ?_)))))))))
 refine s1 (cd rfl (fun c10=> ?_) fun c10=> ?_)
 · refine sq (rT [4] (s2 (rt ?_)))
   have hr:fG l f keep=([],0):=if_neg (by simpa using c10)
   refine bO rfl rfl ?_
   rw[hr]<;>rfl
 have hok:dP l f=true:=by simpa using c10
 obtain⟨q1,q2,q3,q4⟩:=iM hok
 have hfa:=lu (keep:=keep) q2
 have hfl: (bD (List.take (gF l f keep).toNat l)).2≤(gF l f keep).toNat:=wo (l:=l) (f:=f) (keep:=keep)
 have hfe:wrap64 (f+(if(if wrap64 ((l.length:Int) - f)<keep then wrap64 ((l.length:Int) - f) else keep)>0 then(if wrap64 ((l.length:Int) - f)<keep then wrap64 ((l.length:Int) - f) else keep) else 0))=gF l f keep:=by
  rw[aC (n:=(l.length:Int) - f) (by omega)]
  unfold gF at hfa ⊢
  have e: (if(l.length:Int) - f<keep then(l.length:Int) - f else keep)=min keep (l.length - f):=by omega
  rw[e]
  exact aC (by split<;>omega)
 refine sk (sq (rT [4,5] (s9 (s5 (ai (by rw[hfe];exact⟨by simp,by simpa using(by omega:0≤gF l f keep),by simpa using hfa.2⟩) (s1 (sq (wa [tD 5 (.s (l.take (gF l f keep).toNat)),tP 4 4,oB 4 24 [.d (.s []),.d (.i 0)]] [] [] ?_ ?_))))))))
 · repeat' apply ai
   all_goals first|exact qx|(rw[hfe];rfl)|exact qz
 refine rT [4,5,7] (s1 (xp (gZ (l.take (gF l f keep).toNat) (by rw[aW5];omega)) (ai rfl ?_)))
 refine s5 (sq (rT [4] (s2 (ai (by exact⟨by simp,by simp,by rw[aW5];simp;omega⟩) (s3 (rt ?_))))))
 have hr:fG l f keep=_:=if_pos hok
 refine bO rfl rfl ?_
 rw[hr,← aMg]
 rfl
set_option maxHeartbeats 800000 in
theorem qa (l:List UInt8) (f keep:Int) (hl:l.length≤140737488355328):Sp 80 2 [tV 0 (.e (.agg [.d (.s l),.d (.i f)])),tI 1 keep] [tV 0 (.e (.agg [.d (.s (fG l f keep).1),.d (.i (fG l f keep).2)]))]:=by
 refine sb Tryz.func80 rfl (sq (rT [1,2,4] (s2 (sq (sq (rT [1,2,4,8] (s1 (xp (nU l f hl) (ai rfl ?_)))))))))
 refine s1 (cd rfl (fun c8=> ?_) fun c8=> ?_)
 · refine sq (rT [4] (s2 (rt ?_)))
   have hr:fG l f keep=([],0):=if_neg (by simpa using c8)
   refine bO rfl rfl ?_
   rw[hr]<;>rfl
 have hok:dP l f=true:=by simpa using c8
 obtain⟨q1,q2,q3,q4⟩:=iM hok
 have hfa:=lu (keep:=keep) q2
 have hfl: (bD (List.take (gF l f keep).toNat l)).2≤l.length:=iy l f keep
 refine sk (sq (rT [1,2,4,5] (s3 (sq (sq (rT [1,2,4,5,18] (s7 (cd rfl (fun c18=> ?_) fun c18=> ?_))))))))
 · have hd:=of_decide_eq_true c18
   rw[aC (by omega)] at hd
   refine rT [1,2,4,5] (s6 (sq (sq (rT [1,2,4,5,25] (s2 (cd rfl (fun c25=> ?_) fun c25=> ?_))))))
   · have hz:=of_decide_eq_true c25
     refine rT [2,4,5] (s4 (sq (wa [tP 2 2,tP 4 4,tI 5 (gF l f keep),oB 2 24 [.d (.s l),.d (.i f)],oB 4 24 [.d (.s []),.d (.i 0)]] [] [] ?_ ?_)))
     · repeat' apply ai
       all_goals first|exact qx|exact congrArg D.i (by unfold gF;(try rw[aC (n:=(l.length:Int) - f) (by omega)] at*);split<;>first|omega|(rw[aC (by omega)];omega))|exact qz
     refine rT [2,4,5] (s3 (ai (by exact⟨by simp,by simpa using(by omega:0≤gF l f keep),by simpa using hfa.2⟩) (xp (fQ (l.take (gF l f keep).toNat) (by rw[aW5];omega)) (ai rfl ?_))))
     refine s4 (sq (rT [4] (s3 (ai (by exact⟨by simp,by simp,by simpa using hfl⟩) (s3 (rt ?_))))))
     have hr:fG l f keep=_:=if_pos hok
     refine bO rfl rfl ?_
     rw[hr]
     rfl
   have hz:=of_decide_eq_false c25
   refine sk (sq (wa [tP 2 2,tP 4 4,tI 5 (gF l f keep),oB 2 24 [.d (.s l),.d (.i f)],oB 4 24 [.d (.s []),.d (.i 0)]] [] [] ?_ ?_))
   · repeat' apply ai
     all_goals first|exact qx|exact congrArg D.i (by unfold gF;(try rw[aC (n:=(l.length:Int) - f) (by omega)] at*);split<;>first|omega|(rw[aC (by omega)];omega))|exact qz
   refine rT [2,4,5] (s3 (ai (by exact⟨by simp,by simpa using(by omega:0≤gF l f keep),by simpa using hfa.2⟩) (xp (fQ (l.take (gF l f keep).toNat) (by rw[aW5];omega)) (ai rfl ?_))))
   refine s4 (sq (rT [4] (s3 (ai (by exact⟨by simp,by simp,by simpa using hfl⟩) (s3 (rt ?_))))))
   have hr:fG l f keep=_:=if_pos hok
   refine bO rfl rfl ?_
   rw[hr]
   rfl
 have hd:=of_decide_eq_false c18
 rw[aC (by omega)] at hd
 refine sk (sq (sq (rT [1,2,4,5,25] (s2 (cd rfl (fun c25=> ?_) fun c25=> ?_)))))
 · have hz:=of_decide_eq_true c25
   refine rT [2,4,5] (s4 (sq (wa [tP 2 2,tP 4 4,tI 5 (gF l f keep),oB 2 24 [.d (.s l),.d (.i f)],oB 4 24 [.d (.s []),.d (.i 0)]] [] [] ?_ ?_)))
   · repeat' apply ai
     all_goals first|exact qx|exact congrArg D.i (by unfold gF;(try rw[aC (n:=(l.length:Int) - f) (by omega)] at*);split<;>first|omega|(rw[aC (by omega)];omega))|exact qz
   refine rT [2,4,5] (s3 (ai (by exact⟨by simp,by simpa using(by omega:0≤gF l f keep),by simpa using hfa.2⟩) (xp (fQ (l.take (gF l f keep).toNat) (by rw[aW5];omega)) (ai rfl ?_))))
   refine s4 (sq (rT [4] (s3 (ai (by exact⟨by simp,by simp,by simpa using hfl⟩) (s3 (rt ?_))))))
   have hr:fG l f keep=_:=if_pos hok
   refine bO rfl rfl ?_
   rw[hr]
   rfl
 have hz:=of_decide_eq_false c25
 refine sk (sq (wa [tP 2 2,tP 4 4,tI 5 (gF l f keep),oB 2 24 [.d (.s l),.d (.i f)],oB 4 24 [.d (.s []),.d (.i 0)]] [] [] ?_ ?_))
 · repeat' apply ai
   all_goals first|exact qx|exact congrArg D.i (by unfold gF;(try rw[aC (n:=(l.length:Int) - f) (by omega)] at*);split<;>first|omega|(rw[aC (by omega)];omega))|exact qz
 refine rT [2,4,5] (s3 (ai (by exact⟨by simp,by simpa using(by omega:0≤gF l f keep),by simpa using hfa.2⟩) (xp (fQ (l.take (gF l f keep).toNat) (by rw[aW5];omega)) (ai rfl ?_))))
 refine s4 (sq (rT [4] (s3 (ai (by exact⟨by simp,by simp,by simpa using hfl⟩) (s3 (rt ?_))))))
 have hr:fG l f keep=_:=if_pos hok
 refine bO rfl rfl ?_
 rw[hr]
 rfl
theorem yo (l:List dT) (hl:l.length≤1000000):Sp 123 1 [tD 0 (.sl (aX l))] [tO 0 0 l.length,oR 0 85 6 (aX l)]:=by
 refine sb Tryz.func123 rfl (sq (rT [0] (s1 (sq (sq (rT [0,6] (s3 (cd rfl (fun c6=> ?_) fun c6=> ?_))))))))
 · refine sq (rT [2] (s1 (SW.nilOwn 2 0 85 6 rfl rfl (rt (rq [] [] rfl ?_)))))
   repeat' apply ai
   all_goals try exact qx
   all_goals(simp[aG] at c6;simp[c6,aX])
 refine sk (sq (rT [0,3] (s2 (ai (by refine⟨rfl,by omega,?_⟩;rw[aG];show((64:Nat):Int)*_≤_;omega) (s1 (sq (rT [3] (s2 (ai (by refine⟨trivial,by simp,sR l⟩) (sq (rT [2] (s2 (rt (rq [(0,9)] [] rfl ?_))))))))))))))
 repeat' apply ai
 all_goals try exact qx
 all_goals first|(simp[aG];done)|(simp;done)
theorem aAx (l:List hP) (hl:l.length≤1000000):Sp 124 1 [tD 0 (.sl (cM l))] [tD 0 (.sl (cM l))]:=by
 refine sb Tryz.func124 rfl (sq (rT [0] (s1 (sq (sq (rT [0,6] (s3 (cd rfl (fun c6=> ?_) fun c6=> ?_))))))))
 · refine sq (rT [2] (s1 (rt (eC _ [] [] rfl (kh rfl (congrArg D.sl ?_) trivial) rfl rfl))))
   simp[bG] at c6;simp[c6,cM]
 refine sk (sq (rT [0,3] (s2 (ai (by refine⟨rfl,by omega,?_⟩;rw[bG];show((24:Nat):Int)*_≤_;omega) (s1 (sq (rT [3] (s2 (ai (by refine⟨trivial,by simp,qS l⟩) (sq (rT [2] (s2 (rt (eC _ [] [9] rfl (eW rfl rfl rfl ?_ (congrArg D.sl ?_) trivial) rfl rfl))))))))))))))
 · simp
 simp
set_option maxHeartbeats 1600000 in
theorem rI (k:aH) (hb:k.halves.length≤100000∧ ∀x∈k.halves,x.got.length≤100000):Sp 83 1 [tV 0 k.V] [tV 0 k.V]:=by
 refine sb Tryz.func83 rfl (sq (rT [1,2] (s2 (sq (rT [1,2,3] (s3 (sq (rT [2,3] (s2 (bE (robj:=[]) (rl:=[(0,8)]) (bor:=[]) (yo k.halves (by omega)) rfl rfl rfl rfl ⟨cJ rfl rfl trivial,rfl⟩ rfl (.inl rfl) (fun p hp=>nomatch hp) (fun j hj=>by(obtain rfl:j=0:=by simpa[jV,cA,iH] using hj);rfl) (s2 (sq (sq (rT [2,3,12,13] (s2 (ai (by exact aG _) (s1 (bk (SW.loopW (n:=k.halves.length) (fun m q=> ∃i:Nat,m=k.halves.length - i∧i≤k.halves.length∧q=[tP 2 2,tP 3 3,tI 12 (k.halves.length:Nat),tI 13 (i:Nat),oB 2 27 [.d (.i 0),.d (.b false),.d (.s []),.d (.i 0),.nil],oB 3 27 [.d (.i k.id),.d (.b k.up),.d (.s k.log),.d (.i k.forced),.own 8 k.halves.length],oR 8 85 6 (aX k.halves)]) ?_ ?_)))))))))))))))))))
 · exact wq (σ':=[tP 2 2,tP 3 3,tI 12 (k.halves.length:Nat),tI 13 (0:Nat),oB 2 27 [.d (.i 0),.d (.b false),.d (.s []),.d (.i 0),.nil],oB 3 27 [.d (.i k.id),.d (.b k.up),.d (.s k.log),.d (.i k.forced),.own 8 k.halves.length],oR 8 85 6 (aX k.halves)]) [] [] (⟨0,rfl,aW6 _,rfl⟩) qz
 rintro n s ⟨i,rfl,hi,rfl⟩
 refine sq (rT [2,3,12,13,14] (s1 (sq (cd rfl (fun c14=> ?_) fun c14=> ?_))))
 · have hi2:i<k.halves.length:=by simpa using c14
   have hg:=gJ (l:=k.halves) hi2
   have hmem:k.halves.getD i .zero∈k.halves:=dG hi2
   refine sk (sq (bk (sq (rT [2,3,4,12,13] (s2 (rD [2,3,12,13] (s6 (ai (by exact⟨aG _,by omega,by omega⟩) (ai (by exact aG _) (ai (by rw[aWz,hg];exact⟨⟨aG _,by omega⟩,aW1 rfl,rfl⟩) (xp (aAx (k.halves.getD i .zero).got (by have:=hb.2 _ hmem;omega)) (ai (by rw[aWz,hg];rfl) ?_))))))))))))
   refine ai (by exact⟨aG _,by omega,by omega⟩) (ai (by exact aG _) (ai (by rw[aWz,hg];exact⟨aG _,by omega,rfl,aXa _⟩) (ai (by kernel_rfl) (rT [2,3,12,13] (s2 (wq [] [] (⟨k.halves.length - (i+1),by omega,i+1,rfl,by omega,rfl⟩) ?_))))))
   repeat' apply ai
   all_goals first|exact qx|exact congrArg D.i (by rw[aC (by omega)];omega)|(rw[aWz];exact aOu (by rw[aG];omega) (by rw[hg];rfl))|exact qz
 have hi3:i=k.halves.length:=by simp at c14;omega
 refine xt (sq (rT [2] (s2 (rt (rq [] [8] rfl ?_)))))
 repeat' apply ai
 all_goals try exact qx
 all_goals(first|with_reducible rfl|exact aG _|rfl)
theorem pF (n:Int):Sp 174 1 [tI 0 n] [tI 0 (eX n)]:=by
 refine sb Tryz.func174 rfl (sq (rT [0] (s1 (sq (sq (rT [0,5] (s1 (xp (dM _ _ _) (ai rfl ?_)))))))))
 refine s1 (cd rfl (fun c5=> ?_) fun c5=> ?_)
 · refine sq (rT [2] (s1 (rt (bJ rfl (congrArg D.i ?_)))))
   simp at c5
   simp[eX,c5,Int.mul_comm]
 refine sk (sq (rT [2] (s5 (rt (bJ rfl (congrArg D.i ?_))))))
 simp at c5
 simp[eX,c5,Int.mul_comm]
theorem bo (b d:Int) (hb:1≤b∧b≤6) (hd:1≤d∧d≤6):Sp 203 2 [tI 0 b,tI 1 d] [tI 0 (nO b d)]:=by
 refine sb Tryz.func203 rfl (sq (rT [0,1] (s1 (sq (sq (rT [0,1,6] (s2 (cd rfl (fun c6=> ?_) fun c6=> ?_))))))))
 · have h1:d=1:=by simpa using c6
   refine sq (rT [4] (s1 (ai (by omega) (s2 (rt (bJ rfl (congrArg D.i ?_)))))))
   exact(if_pos h1).symm
 have h1: ¬d=1:=by simpa using c6
 have h2:wrap64 (d*wrap64 (d - 1))≠0:=aDw (by omega)
 refine sk (sq (rT [4] (s4 (ai (h2) (s1 (rt (bJ rfl (congrArg D.i ?_))))))))
 exact(if_neg h1).symm
set_option maxHeartbeats 800000 in
theorem qb (b n:Int) (hok:tR b n=true):Sp 175 2 [tI 0 b,tI 1 n] [tI 0 (lA b n)]:=by
 obtain⟨hb,hn⟩:=yB hok
 refine sb Tryz.func175 rfl (sq (rT [0,1] (s1 (sq (sq (rT [0,1,12] (s2 (xp (wS _ _) (ai rfl ?_)))))))))
 refine s1 (cd rfl (fun c12=> ?_) fun c12=> ?_)
 · rw[hok] at c12
   cases c12
 refine sk (sq (sq (rT [0,1,15] (s3 (cd rfl (fun c15=> ?_) fun c15=> ?_)))))
 · have hs:n<b:=by simpa using c15
   refine sq (rT [4] (s1 (rt (bJ rfl (congrArg D.i ?_)))))
   exact(su hok hs).symm
 have hs: ¬n<b:=by simpa using c15
 refine sk (sq (rT [0,1,5] (s1 (sq (sq (rT [0,1,5,6] (s1 (bk (SW.loopW (n:=7) (fun m s=> ∃i:Nat,m=7 - i∧(i:Int)≤b∧s=[tI 0 b,tI 1 n,tI 5 (xI b (i)),tI 6 ((i+1:Nat):Int)]) ?_ ?_)))))))))
 · refine wq [] [] (⟨0,rfl,by omega,rfl⟩) ?_
   repeat' apply ai
   all_goals first|exact qx|rfl|exact congrArg D.i (by rw[aC (by omega)];omega)|(simp;done)|omega|exact qz
 rintro n s ⟨i,rfl,hi,rfl⟩
 refine sq (sq (rT [0,1,5,6,18] (s3 (cd rfl (fun c18=> ?_) fun c18=> ?_))))
 · have hi2: ((i+1:Nat):Int)≤b:=by simpa using c18
   have hr1:=vP hb (d:=i) (by omega)
   have hw1:=vJ (b:=b) (d:=((i+1:Nat):Int)) hb (by omega)
   refine sk (sq (bk (rT [0,1,5,6] (s3 (xp (bo b _ (by omega) (by omega)) (ai rfl ?_))))))
   refine s2 (rT [0,1,5,6] (s3 (wq [] [] (⟨7 - (i+1),by omega,i+1,rfl,by omega,rfl⟩) ?_)))
   repeat' apply ai
   all_goals first|exact qx|(show D.i _=D.i (xI b i+nO b ((i+1:Nat):Int));exact congrArg D.i (aC (by omega)))|exact congrArg D.i (by rw[aC (by omega)];omega)|(simp;done)|omega|exact qz
 have hi3: ¬((i+1:Nat):Int)≤b:=by simpa using c18
 have hie:i=b.toNat:=by omega
 subst hie
 have hq:=vP hb (d:=b.toNat) (by omega)
 refine xt (sq (rT [0,7] (s4 (xp (pF _) (ai rfl ?_)))))
 refine xp (pF _) (ai rfl ?_)
 refine ai (by decide) (s1 (ai (by omega) (s1 (sq (sq (rT [0,7,8] (s1 (bk ?_))))))))
 have hdr:=aI1 (n:=n) hb
 refine SW.loopW (n:=7) (fun m s=> ∃j:Nat,m=7 - j∧((j:Int)≤b∧(j+1:Int)≤b)∧bv b (ov b n) (6 - j) (j+1)=lA b n∧s=[tI 0 b,tI 7 (ov b n - xI b (j)),tI 8 ((j+1:Nat):Int)]) ?_ ?_
 · refine wq [] [] (⟨0,rfl,by omega,(aAe hok hs).symm,rfl⟩) ?_
   repeat' apply ai
   all_goals first|exact qx|(show D.i (ov b n)=D.i (ov b n - 0);rw[Int.sub_zero])|rfl|exact congrArg D.i (by rw[aC (by omega)];omega)|(simp;done)|omega|exact qz
 rintro n s ⟨j,rfl,hj,hdg,rfl⟩
 refine sq (sq (rT [0,7,8,37] (s3 (cd rfl (fun c37=> ?_) fun c37=> ?_))))
 · have hj2: ((j+1:Nat):Int)<b:=by simpa using c37
   have hr1:=vP hb (d:=j) (by omega)
   have hw1:=vJ (b:=b) (d:=((j+1:Nat):Int)) hb (by omega)
   have hsum:wrap64 (ov b n - xI b j - nO b ((j+1:Nat):Int))=ov b n - xI b (j+1):=by
    show _=ov b n - (xI b j+nO b ((j+1:Nat):Int))
    rw[aC (by omega)];omega
   refine sk (sq (bk (sq (rT [0,7,8] (s3 (xp (bo b _ (by omega) (by omega)) (ai rfl ?_)))))))
   refine s2 (sq (rT [0,7,8,46] (s2 (cd rfl (fun c46=> ?_) fun c46=> ?_))))
   · have hlt:ov b n<xI b (j+1):=by
      have h9:=of_decide_eq_true c46
      rw[hsum] at h9;omega
     refine sq (rT [4] (s2 (rt (bJ rfl (congrArg D.i ?_)))))
     rw[← hdg]
     exact(aMk (by omega) (by omega) hlt).symm
   have hnl: ¬ov b n<xI b (j+1):=by
    have h9:=of_decide_eq_false c46
    rw[hsum] at h9;omega
   have hst:=aMj (by omega) (by omega) hnl
   refine sk (rT [0,7,8] (s3 (wq [] [] (⟨7 - (j+1),by omega,j+1,rfl,by omega,hst▸hdg,rfl⟩) ?_)))
   repeat' apply ai
   all_goals first|exact qx|(rw[hsum];done)|exact congrArg D.i (by rw[aC (by omega)];omega)|(simp;done)|omega|exact qz
 have hj3: ¬((j+1:Nat):Int)<b:=by simpa using c37
 refine xt (sq (rT [4] (s2 (rt (bJ rfl (congrArg D.i ?_))))))
 rw[← hdg]
 rw[lv (by omega)]
set_option maxHeartbeats 1600000 in
theorem mv (b n:Int):Sp 142 2 [tI 0 b,tI 1 n] [tD 0 (.sl (cZ (cT b n)))]:=by
 refine sb Tryz.func142 rfl (sq (rT [0,1] (s1 (sq (rT [0,1,5] (s2 (sq (sq (rT [0,1,5,15] (s2 (xp (wS _ _) (ai rfl ?_))))))))))))
 refine s1 (cd rfl (fun c15=> ?_) fun c15=> ?_)
 · have hok: ¬tR b n=true:=by simpa using c15
   refine sq (rT [4] (s2 (rt (eC _ [] [11] rfl (eW rfl rfl rfl ?_ (congrArg D.sl ?_) trivial) rfl rfl))))
   · rfl
   rw[aa hok];rfl
 have hok:tR b n=true:=by simpa using c15
 obtain⟨hb,hn⟩:=yB hok
 have hmd:=tU hok
 refine sk (sq (sq (rT [0,1,5,19] (s3 (cd rfl (fun c19=> ?_) fun c19=> ?_)))))
 · have hs:n<b:=by simpa using c19
   refine sq (rT [4] (s5 (rt (eC _ [] [11] rfl (eW rfl rfl rfl ?_ (congrArg D.sl ?_) trivial) rfl rfl))))
   · rfl
   rw[db hok hs];rfl
 have hs: ¬n<b:=by simpa using c19
 refine sk (sq (rT [0,1,5,6] (s1 (ai (by refine⟨rfl,by omega,?_⟩;show((1:Nat):Int)*_≤_;omega) (s1 (sq (rT [0,1,5,6,7] (s3 (xp (pF _) (ai rfl ?_))))))))))
 refine s1 (sq (sq (rT [0,5,6,7,8] (s2 (xp (qb b n hok) (ai rfl ?_))))))
 refine s1 (bk (SW.loopW (n:=(lA b n).toNat*1) (fun m s=> ∃(x:Int) (k:Nat) (u:List Bool),m=k*1∧(UOk b u∧(u.count true:Int)+k≤b)∧aGh b k x u=xJ b n∧s=[tI 0 b,tO 5 11 (([]:List Int)).length,tO 6 25 b.toNat,tI 7 (x),tI 8 (k:Nat),oR 11 3 1 (cZ ([])),oR 25 4 1 (aN ((u).take b.toNat))]) ?_ ?_))
 · refine wq (σ':=[tI 0 b,tO 5 11 (([]:List Int)).length,tO 6 25 b.toNat,tI 7 (eX (wrap64 (wrap64 (n*7)+1))),tI 8 ((lA b n).toNat:Nat),oR 11 3 1 (cZ ([])),oR 25 4 1 (aN ((List.replicate 6 false).take b.toNat))]) [] [] (⟨_,_,_,rfl,⟨(yJ b).1,by rw[(yJ b).2];omega⟩,rfl,rfl⟩) ?_
   repeat' apply ai
   all_goals first|exact qx|rfl|exact congrArg D.i (by omega)|(rw[List.take_replicate,Nat.min_eq_left (by omega)];exact repT _)|exact qz
 rintro n s ⟨x,k,u,rfl,⟨hu,hc⟩,hp,rfl⟩
 refine sq (sq (rT [0,5,6,7,8,34] (s2 (cd rfl (fun c34=> ?_) fun c34=> ?_))))
 · have hk1:0<k:=by simpa using c34
   obtain⟨f,hf,hfree⟩:=aGi hb hu (by omega)
   refine sk (sq (bk (sq (rT [0,5,6,7,8] (s1 (xp (pF _) (ai rfl ?_)))))))
   refine s1 (sq (rT [0,5,6,7,8,9] (s1 (ai (by decide) (s1 (ai (by omega) (s1 (sq (bk ?_)))))))))
   have ha0:=aCb (x:=x) hb
   have hul:=hu.1
   have htl: (u.take b.toNat).length=b.toNat:=by rw[aW5];omega
   refine SW.loopW (n:=((f+b - (Int.tmod (wrap64 (Int.tdiv (eX x) 16)) b)) % b).toNat) (fun m s=> ∃at_:Int,m=((f+b - at_) % b).toNat∧(0≤at_∧at_<b)∧tH u b 6 at_=tH u b 6 (Int.tmod (wrap64 (Int.tdiv (eX x) 16)) b)∧s=[tI 0 b,tO 5 11 (([]:List Int)).length,tO 6 25 b.toNat,tI 7 (eX x),tI 8 (k:Nat),tI 9 (at_),oR 11 3 1 (cZ ([])),oR 25 4 1 (aN ((u).take b.toNat))]) ?_ ?_
   · refine wq (σ':=[tI 0 b,tO 5 11 (([]:List Int)).length,tO 6 25 b.toNat,tI 7 (eX x),tI 8 (k:Nat),tI 9 ((Int.tmod (wrap64 (Int.tdiv (eX x) 16)) b)),oR 11 3 1 (cZ ([])),oR 25 4 1 (aN ((u).take b.toNat))]) [] [] (⟨_,rfl,ha0,rfl,rfl⟩) ?_
     repeat' apply ai
     all_goals first|exact qx|rfl|exact qz
   rintro n s ⟨at_,rfl,hat,hga,rfl⟩
   have hbo:=lJ (l:=u.take b.toNat) (i:=at_.toNat) (by omega)
   rw[yF (by omega)] at hbo
   refine sq (sq (rT [0,5,6,7,8,9,46] (s2 (ai (by exact⟨by rw[cW];exact htl,by omega,by omega⟩) (ai (by rw[hbo];exact⟨⟨by rw[cW];exact htl,by omega⟩,aXa _,rfl⟩) (cd rfl (fun c46=> ?_) fun c46=> ?_))))))
   · have c40:u.getD at_.toNat false=true:=by
      rw[hbo] at c46;exact c46
     refine sk (bk (rT [0,5,6,7,8,9] (s3 (ai (by omega) (s1 ?_)))))
     have hne:at_≠f:=by
      rintro rfl
      rw[hfree] at c40
      cases c40
     obtain⟨q1,q2⟩:=aIn hb hf hat hne
     have hgo:=aPd hb hf hfree hat c40
     refine wq (σ':=[tI 0 b,tO 5 11 (([]:List Int)).length,tO 6 25 b.toNat,tI 7 (eX x),tI 8 (k:Nat),tI 9 (Int.tmod (wrap64 (at_+1)) b),oR 11 3 1 (cZ ([])),oR 25 4 1 (aN ((u).take b.toNat))]) [] [] (⟨_,q1,_,rfl,q2,hgo▸hga,rfl⟩) ?_
     repeat' apply ai
     all_goals first|exact qx|rfl|exact qz
   have c40:u.getD at_.toNat false=false:=by
    rw[hbo] at c46;exact c46
   have hz:at_=tH u b 6 (Int.tmod (wrap64 (Int.tdiv (eX x) 16)) b):=by rw[← hga,fk c40]
   have hpo:zW b x u=u.set at_.toNat true:=by rw[zW,← hz]
   have huk:=aGj (x:=x) hb hu (by omega)
   rw[hpo] at huk
   refine xt (rT [0,5,6,7,8] (s2 (ai (by exact⟨by rw[cW];exact htl,by omega,by omega⟩) (ai (by rw[hbo];exact⟨by rw[cW];exact htl,by omega,rfl,aXa _⟩) (rT [0,5,6,7,8] (s3 ?_))))))
   obtain⟨k,rfl⟩: ∃k2,k=k2+1:=⟨k - 1,by omega⟩
   have hpp:aGh b k (eX x) (u.set at_.toNat true)=xJ b n:=by
    rw[← hpo];exact hp
   refine wq [] [] (⟨k*1,by omega,eX x,k,u.set at_.toNat true,rfl,⟨huk.1,by rw[huk.2];omega⟩,hpp,rfl⟩) ?_
   repeat' apply ai
   all_goals first|exact qx|exact congrArg D.i (by rw[aC (by omega)];omega)|(rw[List.take_set];exact aLq (by omega))|exact qz
 have hk1:k=0:=by simp at c34;omega
 subst hk1
 have hue:u=xJ b n:=hp
 have hul:=hu.1
 have htl: (u.take b.toNat).length=b.toNat:=by rw[aW5];omega
 refine xt (sq (sq (rT [0,5,6,10] (s1 (bk (SW.loopW (n:=b.toNat) (fun m s=> ∃i:Nat,m=b.toNat - i∧(i:Int)≤b∧s=[tI 0 b,tO 5 11 (pM u (i)).length,tO 6 25 b.toNat,tI 10 (i:Nat),oR 11 3 1 (cZ (pM u (i))),oR 25 4 1 (aN (u.take b.toNat))]) ?_ ?_))))))
 · refine wq [] [] (⟨0,rfl,by omega,rfl⟩) ?_
   repeat' apply ai
   all_goals first|exact qx|rfl|exact qz
 rintro n s ⟨i,rfl,hi,rfl⟩
 refine sq (sq (rT [0,5,6,10,56] (s3 (cd rfl (fun c56=> ?_) fun c56=> ?_))))
 · have hi2: (i:Int)<b:=by simpa using c56
   have hbo:=lJ (l:=u.take b.toNat) (i:=i) (by omega)
   rw[yF (by omega)] at hbo
   refine sk (sq (bk (sq (rT [0,5,6,10,62] (s2 (ai (by exact⟨by rw[cW];exact htl,by omega,by omega⟩) (ai (by rw[aWz];rw[hbo];exact⟨⟨by rw[cW];exact htl,by omega⟩,aXa _,rfl⟩) (cd rfl (fun c62=> ?_) fun c62=> ?_))))))))
   · have c52:u.getD i false=true:=by
      rw[aWz,hbo] at c62;exact c62
     refine rT [0,5,6,10] (s3 (ai (by refine⟨rfl,cK _,by simp,?_⟩;have:=gl u i;show(_+1)*8≤_;omega) (s1 (rT [0,5,6,10] (s3 ?_)))))
     first
     |(have hx:=ww c52
       refine wq [] [] (⟨b.toNat - (i+1),by omega,i+1,rfl,by omega,rfl⟩) ?_
       repeat' apply ai
       all_goals first|exact qx|exact congrArg D.i (by rw[aC (by omega)];omega)|omega|(simp;done)|(rw[hx,aW0];rfl)|(rw[hx];exact oA _ _)|(rw[hx];simp[cZ,aW0];done)|exact qz)
     |(have hx:=ow c52
       refine wq [] [] (⟨b.toNat - (i+1),by omega,i+1,rfl,by omega,rfl⟩) ?_
       repeat' apply ai
       all_goals first|exact qx|exact congrArg D.i (by rw[aC (by omega)];omega)|omega|(simp;done)|(rw[hx];done)|exact qz)
   have c52:u.getD i false=false:=by
    rw[aWz,hbo] at c62;exact c62
   refine sk (rT [0,5,6,10] (s3 ?_))
   first
   |(have hx:=ww c52
     refine wq [] [] (⟨b.toNat - (i+1),by omega,i+1,rfl,by omega,rfl⟩) ?_
     repeat' apply ai
     all_goals first|exact qx|exact congrArg D.i (by rw[aC (by omega)];omega)|omega|(simp;done)|(rw[hx,aW0];rfl)|(rw[hx];exact oA _ _)|(rw[hx];simp[cZ,aW0];done)|exact qz)
   |(have hx:=ow c52
     refine wq [] [] (⟨b.toNat - (i+1),by omega,i+1,rfl,by omega,rfl⟩) ?_
     repeat' apply ai
     all_goals first|exact qx|exact congrArg D.i (by rw[aC (by omega)];omega)|omega|(simp;done)|(rw[hx];done)|exact qz)
 have hi3:i=b.toNat:=by simp at c56;omega
 subst hi3
 refine xt (sq (rT [4] (s2 (rt (eC _ [] [11] rfl (eW rfl rfl rfl ?_ (congrArg D.sl ?_) trivial) rfl rfl)))))
 · exact cK _
 rw[oz hok hs,← hue,← wx,sc (i:=b.toNat) (fun j hj=>hu.2 j (by omega)) (by omega)]
theorem aAy:Sp 143 0 [] [tD 0 (.s [0,0,0,0])]:=by
 refine sb Tryz.func143 rfl (sq (rT [] (s1 (sq (rT [0] (ai (by exact⟨rfl,by decide,by decide⟩) (ai (by exact⟨rfl,rfl⟩) (s1 (rt (bJ rfl (congrArg D.s ?_)))))))))))
 rfl
theorem mw (a c:List UInt8) (ha:a.length=4) (hc:c.length=4):Sp 144 2 [tD 0 (.s a),tD 1 (.s c)] [tD 0 (.s (aAd a c))]:=by
 refine sb Tryz.func144 rfl (sq (rT [0,1] (s1 (sq (rT [0,1,5] (s2 (sq (sq (rT [0,1,5,6] (s1 (bk (SW.loopW (n:=4) (fun m s=> ∃i:Nat,m=4 - i∧i≤4∧s=[tD 0 (.s a),tD 1 (.s c),tO 5 7 (wy a c (i)).length,tI 6 (i:Nat),oR 7 5 1 (aA (wy a c (i)))]) ?_ ?_))))))))))))
 · refine wq [] [] (⟨0,rfl,by omega,rfl⟩) ?_
   repeat' apply ai
   all_goals first|exact qx|rfl|exact qz
 rintro n s ⟨i,rfl,hi,rfl⟩
 refine sq (sq (rT [0,1,5,6,9] (s2 (cd rfl (fun c9=> ?_) fun c9=> ?_))))
 · have hi2:i<4:=by simp at c9;omega
   refine sk (sq (bk (rD [0,1,5,6] (s3 (ai (by omega) (s2 (ai (by omega) (s2 (ai (by refine⟨rfl,aS _,by simp,?_⟩;rw[lx];show(_+1)*1≤_;omega) (s1 (ai (by kernel_rfl) (rT [0,1,5,6] (s3 ?_)))))))))))))
   have hx:=aI4 a c i
   refine wq [] [] (⟨4 - (i+1),by omega,i+1,rfl,by omega,rfl⟩) ?_
   repeat' apply ai
   all_goals first|exact qx|(rw[hx,aW0];rfl)|(rw[hx,aWz];exact aLs _ _ _)|(simp[aS,lx];done)|exact congrArg D.i (by rw[aC (by omega)];omega)|omega|(simp;done)|exact qz
 have hi2:i=4:=by simp at c9;omega
 subst hi2
 refine xt (sq (rT [4] (s1 (ai (by exact⟨aS _,(congrArg aA (cI _)).symm⟩) (s1 (rt (bJ rfl (congrArg D.s ?_))))))))
 exact cI _
set_option maxHeartbeats 800000 in
theorem aAz (l:List UInt8) (hl:l.length≤140737488355328):Sp 141 1 [tD 0 (.s l)] [tD 0 (.sl (aV (dV l)))]:=by
 refine sb Tryz.func141 rfl (sq (rT [0] (s1 (sq (rT [0,3] (s2 (sq (sq (rT [0,3,15] (s4 (y3 (ai pk (cd rfl (fun c15=> ?_) fun c15=> ?_)))))))))))))
 · have hin: ¬iK l.length 1 24=true:=by
    have h1: (l.length:Int)<1∨(l.length:Int)>24:=by simpa only[Bool.or_eq_true,decide_eq_true_eq] using c15
    simp[iK];omega
   refine sq (rT [2] (s2 (rt (eC _ [] [7] rfl (eW rfl rfl rfl ?_ (congrArg D.sl ?_) trivial) rfl rfl))))
   · rfl
   rw[aCc hin];rfl
 have hl2:1≤l.length∧l.length≤24:=by
  have h1: ¬(l.length:Int)<1∧ ¬(l.length:Int)>24:=by simpa only[Bool.or_eq_false_iff,decide_eq_false_iff_not] using c15
  omega
 have hin:iK l.length 1 24=true:=by simp[iK];omega
 refine sk (sq (sq (rT [0,3,4] (s1 (bk (SW.loopW (n:=((l.length+3) / 4)) (fun m s=> ∃i:Nat,m=((l.length+3) / 4) - i∧i≤((l.length+3) / 4)∧s=[tD 0 (.s l),tO 3 7 (wN l (i)).length,tI 4 (i:Nat),oR 7 9 1 (aV (wN l (i)))]) ?_ ?_))))))
 · refine wq (σ':=[tD 0 (.s l),tO 3 7 (wN l (0)).length,tI 4 (0:Nat),oR 7 9 1 (aV (wN l (0)))]) [] [] (⟨0,rfl,aW6 _,rfl⟩) ?_
   repeat' apply ai
   all_goals first|exact qx|rfl|exact qz
 rintro n s ⟨i,rfl,hi,rfl⟩
 refine sq (sq (rT [0,3,4,21] (s3 (xp (pE _ (by omega)) (ai rfl ?_)))))
 refine s1 (cd rfl (fun c21=> ?_) fun c21=> ?_)
 · have hi2:i< ((l.length+3) / 4):=by simp at c21;omega
   refine sk (sq (bk (sq (rT [0,3,4,5] (s2 (sq (sq (rT [0,3,4,5,6] (s3 (bk (SW.loopW (n:=4) (fun m s=> ∃c:Nat,m=4 - c∧c≤4∧s=[tD 0 (.s l),tO 3 7 (wN l i).length,tI 4 (i:Nat),tO 5 24 (dc l i (c)).length,tI 6 (4*i+c:Nat),oR 7 9 1 (aV (wN l i)),oR 24 5 1 (aA (dc l i (c)))]) ?_ ?_)))))))))))
   · refine wq (σ':=[tD 0 (.s l),tO 3 7 (wN l i).length,tI 4 (i:Nat),tO 5 24 (dc l i (0)).length,tI 6 (4*i+0:Nat),oR 7 9 1 (aV (wN l i)),oR 24 5 1 (aA (dc l i (0)))]) [] [] (⟨0,rfl,aW6 _,rfl⟩) ?_
     repeat' apply ai
     all_goals first|exact qx|rfl|exact congrArg D.i (by rw[aC (by omega)];omega)|exact qz
   rintro n s ⟨c,rfl,hc,rfl⟩
   refine sq (sq (rT [0,3,4,5,6,31] (s5 (cd rfl (fun c31=> ?_) fun c31=> ?_))))
   · have hc2:c<4:=by
      have h:=c31
      rw[aC (n:=(i:Int)+1) (by omega),aC (by omega)] at h
      simp at h;omega
     refine sk (sq (bk (sq (rT [0,3,4,5,6,37] (s4 (cd rfl (fun c37=> ?_) fun c37=> ?_))))))
     · have hk3:4*i+c<l.length:=by simp at c37;omega
       refine rT [0,3,4,5,6] (s3 (ai (by omega) (s1 (ai (by refine⟨rfl,aS _,by simp,?_⟩;rw[mF];show(_+1)*1≤_;omega) (s1 (rT [0,3,4,5,6] (s3 ?_)))))))
       first
       |(have hk4:4*i+c<l.length:=hk3
         have hbs:=ab l i c
         refine wq [] [] (⟨4 - (c+1),by omega,c+1,rfl,by omega,rfl⟩) ?_
         repeat' apply ai
         all_goals first|exact qx|exact congrArg D.i (by rw[aC (by omega)];omega)|(rw[hbs,aW0];rfl)|(rw[hbs,aWz];exact gQ _ [_])|(simp[aS,mF];done)|exact qz)
       |(have hbs:=ab l i c
         rw[hk3] at hbs
         refine wq [] [] (⟨4 - (c+1),by omega,c+1,rfl,by omega,rfl⟩) ?_
         repeat' apply ai
         all_goals first|exact qx|exact congrArg D.i (by rw[aC (by omega)];omega)|(rw[hbs,aW0];rfl)|(rw[hbs];exact gQ _ [0])|(simp[aS,mF];done)|exact qz)
     have hk3:l.getD (4*i+c) 0=0:=getD_none (by simp at c37;omega)
     refine rT [0,3,4,5,6] (s2 (ai (by refine⟨rfl,aS _,by simp,?_⟩;rw[mF];show(_+1)*1≤_;omega) (s1 (rT [0,3,4,5,6] (s3 ?_)))))
     first
     |(have hk4:4*i+c<l.length:=hk3
       have hbs:=ab l i c
       refine wq [] [] (⟨4 - (c+1),by omega,c+1,rfl,by omega,rfl⟩) ?_
       repeat' apply ai
       all_goals first|exact qx|exact congrArg D.i (by rw[aC (by omega)];omega)|(rw[hbs,aW0];rfl)|(rw[hbs,aWz];exact gQ _ [_])|(simp[aS,mF];done)|exact qz)
     |(have hbs:=ab l i c
       rw[hk3] at hbs
       refine wq [] [] (⟨4 - (c+1),by omega,c+1,rfl,by omega,rfl⟩) ?_
       repeat' apply ai
       all_goals first|exact qx|exact congrArg D.i (by rw[aC (by omega)];omega)|(rw[hbs,aW0];rfl)|(rw[hbs];exact gQ _ [0])|(simp[aS,mF];done)|exact qz)
   have hc2:c=4:=by
    have h:=c31
    rw[aC (n:=(i:Int)+1) (by omega),aC (by omega)] at h
    simp at h;omega
   subst hc2
   refine xt (rT [0,3,4] (s2 (ai (by exact⟨aS _,(congrArg aA (cI _)).symm⟩) (s1 (ai (by refine⟨rfl,aJ _,by simp,?_⟩;rw[ae];show(_+1)*16≤_;omega) (s1 (rT [0,3,4] (s3 ?_))))))))
   have hcs:=aI3 l i
   refine wq [] [] (⟨((l.length+3) / 4) - (i+1),by omega,i+1,rfl,by omega,rfl⟩) ?_
   repeat' apply ai
   all_goals first|exact qx|(rw[hcs,cI];exact fC _ _)|(rw[hcs,aW0];rfl)|(simp[aJ,ae];done)|exact congrArg D.i (by rw[aC (by omega)];omega)|omega|(simp;done)|exact qz
 have hi3:i=((l.length+3) / 4):=by simp at c21;omega
 refine xt (sq (rT [2] (s2 (rt (eC _ [] [7] rfl (eW rfl rfl rfl ?_ (congrArg D.sl ?_) trivial) rfl rfl)))))
 · exact aJ _
 rw[wz hin,hi3]
set_option maxHeartbeats 800000 in
theorem yp (l:List UInt8) (n:Int) (hl:l.length≤140737488355328):Sp 103 2 [tD 0 (.s l),tI 1 n] [tD 0 (.s (zY l n))]:=by
 refine sb Tryz.func103 rfl (sq (rT [0,1] (s1 (sq (rT [1,5] (s1 (xp (aAz l hl) (ai rfl ?_))))))))
 refine s1 (sq (rT [5,6] (s3 (xp (mv ((dV l).length:Nat) n) (ai (by rw[aJ];rfl) ?_)))))
 refine s1 (sq (sq (rT [5,6,22] (s4 (y3 (ai pk (cd rfl (fun c22=> ?_) fun c22=> ?_)))))))
 · have hn:dV l=[]∨(cT (dV l).length n)=[]:=by simpa[aV,cZ] using c22
   refine sq (rT [4] (s1 (rt (bJ rfl (congrArg D.s ?_)))))
   exact(lz hn).symm
 have hn: ¬(dV l=[]∨(cT (dV l).length n)=[]):=by simpa[aV,cZ] using c22
 refine sk (sq (rT [5,6,7] (xp aAy (ai rfl ?_))))
 refine s1 (sq (sq (rT [5,6,7,8] (s1 (bk (SW.loopW (n:=(cT (dV l).length n).length) (fun m s=> ∃i:Nat,m=(cT (dV l).length n).length - i∧i≤(cT (dV l).length n).length∧s=[tD 5 (.sl (aV (dV l))),tD 6 (.sl (cZ (cT (dV l).length n))),tD 7 (.s (yK (dV l) [0,0,0,0] ((cT (dV l).length n).take i))),tI 8 (i:Nat)]) ?_ ?_))))))
 · refine wq (σ':=[tD 5 (.sl (aV (dV l))),tD 6 (.sl (cZ (cT (dV l).length n))),tD 7 (.s (yK (dV l) [0,0,0,0] ((cT (dV l).length n).take 0))),tI 8 (0:Nat)]) [] [] (⟨0,rfl,aW6 _,rfl⟩) ?_
   repeat' apply ai
   all_goals first|exact qx|rfl|exact qz
 rintro n s ⟨i,rfl,hi,rfl⟩
 refine sq (sq (rT [5,6,7,8,27] (s4 (cd rfl (fun c27=> ?_) fun c27=> ?_))))
 · have hi2:i< (cT (dV l).length n).length:=by simp[cK] at c27;omega
   have hml:=lw (dV l).length n
   have hj:=aU0 (t:=l) (n:=n) hi2
   have hio:=gL (l:=(cT (dV l).length n)) (i:=i) hi2
   have hv:=aRf (l:=dV l) hj.1 hj.2.1
   refine sk (sq (bk (rT [5,6,7,8] (s4 (ai (by rw[aWz,hio];exact⟨⟨by omega,by rw[cK];omega⟩,rfl⟩) (ai (by rw[aWz,hio];exact⟨aW1 rfl,rfl⟩) (ai (by rw[aWz,hio];exact ixS hj.1 hj.2.1) (ai (by rw[aWz,hio];exact ldS hj.1 hj.2.1) (xp (mw (yK (dV l) [0,0,0,0] ((cT (dV l).length n).take i)) ((dV l).getD ((cT (dV l).length n).getD i 0).toNat []) (ly rfl) hj.2.2) (ai (by rw[aWz,hio];exact(congrArg (fun z=>eV 0 [Dv (.s (yK (dV l) [0,0,0,0] ((cT (dV l).length n).take i))),Dv (.s z)]) hv).symm) ?_))))))))))
   refine s1 (rT [5,6,7,8] (s3 ?_))
   have hgt:=aI6 (bl:=dV l) hi2 (x:=[0,0,0,0])
   refine wq [] [] (⟨(cT (dV l).length n).length - (i+1),by omega,i+1,rfl,by omega,rfl⟩) ?_
   repeat' apply ai
   all_goals first|exact qx|(rw[hgt];done)|exact congrArg D.i (by rw[aC (by omega)];omega)|omega|(simp;done)|exact qz
 have hi3:i=(cT (dV l).length n).length:=by simp[cK] at c27;omega
 refine xt (sq (rT [4] (s2 (rt (bJ rfl (congrArg D.s ?_))))))
 rw[ma hn,hi3,aXf]
theorem tY (a b:Int):Sp 102 2 [tI 0 a,tI 1 b] [tI 0 (jB a b)]:=by
 refine sb Tryz.func102 rfl (sq (rT [0,1] (s1 (sq (bk (sq (rT [0,1,5] (s1 (xp (dF _) (ai rfl ?_))))))))))
 refine s2 (y1 (xc (fun h=>(dF _)) (ai rfl (ai rk ?_))))
 refine y1 (ai pk (s1 (y3 (ai pk (s1 (cd rfl (fun c5=> ?_) fun c5=> ?_))))))
 · refine sq (rT [4] (s1 (rt (bJ rfl ?_))))
   simp only[jB,wrap64,eN,iK,gb] at*
   grind
 refine sq (rT [0,19] (s4 (cd rfl (fun c19=> ?_) fun c19=> ?_)))
 · refine sq (rT [4] (s3 (rt (bJ rfl ?_))))
   simp only[jB,wrap64,eN,iK,gb] at*
   grind
 refine sk (sq (rT [4] (s3 (rt (bJ rfl ?_)))))
 simp only[jB,wrap64,eN,iK,gb] at*
 grind
theorem fM (k:aH) (hl:k.log.length≤140737488355328):Sp 16 1 [tV 0 k.V] [tV 0 ((bM k).V)]:=by
 refine sb Tryz.func16 rfl (sq (rT [1,2] (s2 (sq (sq (rT [1,2,7] (s1 (xp (iV k hl) (ai rfl ?_)))))))))
 refine s1 (cd rfl (fun c7=> ?_) fun c7=> ?_)
 · have hr:bM k= .zero:=aDy (by simpa using c7)
   refine sq (rT [2] (s2 (rt (eC _ [] [] rfl ?_ rfl rfl))))
   rw[hr]
   refine qs ?_
   repeat' first|exact qx|apply ai
   all_goals rfl
 have hok:aT k=true:=by simpa using c7
 have hr:bM k=_:=kL hok
 have hlg:=(eQ hok).2.1
 refine sk (sq (rT [2,3] (s5 (xp (vU k.id k.log (by omega)) (ai rfl ?_)))))
 refine s6 (sq (rT [2] (s2 (rt (bO rfl rfl ?_)))))
 rw[hr]
 rfl
set_option maxHeartbeats 1600000 in
theorem qc (k:aH) (f n mix:Int) (hl:k.log.length≤140737488355328):Sp 49 4 [tV 0 k.V,tI 1 f,tI 2 n,tI 3 mix] [tV 0 (.tup [.agg [.d (.i ((eO k f n mix).1).kind),.d (.i ((eO k f n mix).1).src),.d (.i ((eO k f n mix).1).dst),.d (.i ((eO k f n mix).1).frm),.d (.i ((eO k f n mix).1).num),.d (.i ((eO k f n mix).1).to),.d (.i ((eO k f n mix).1).til),.d (.i ((eO k f n mix).1).size),.d (.i ((eO k f n mix).1).mix),.d (.s ((eO k f n mix).1).data)],.c (.d (.b (eO k f n mix).2))])]:=by
 refine sb Tryz.func49 rfl (sq (rT [1,2,3,4,8] (s3 (sq (sq (rT [1,2,3,4,8,21] (s1 (xp (eL k hl) (ai rfl ?_)))))))))
 refine s2 (y3 (ai pk (cd rfl (fun c21=> ?_) fun c21=> ?_)))
 · have hn:eO k f n mix=(.zero,false):=mb (by
    intro h9
    simp only[aW4] at h9
    rw[h9.1.1.1,h9.1.1.2] at c21
    cases c21)
   refine sq (rT [8,9] (s3 (rt ?_)))
   have hr:=hn
   refine bO rfl rfl ?_
   rw[hr]
   rfl
 have hok:aT k=true∧k.up=true:=by
  revert c21
  cases aT k<;>cases k.up<;>simp
 obtain⟨hok,hup⟩:=hok
 have hlg:=(eQ hok).2.1
 have h6:=eK (gU hok)
 refine sk (sq (rT [1,2,3,4,8,10] (s1 (xp (hZ k (by omega)) (ai rfl ?_)))))
 refine s6 (sq (rT [3,4,8,10,12] (s4 (xp (gG (bC k).1.held f n (by have:=h6.1;omega)) (ai rfl ?_)))))
 refine s1 (sq (sq (rT [3,4,8,10,12,39] (s3 (y1 (xc (fun h=>(dM _ _ _)) (ai rfl (ai rk ?_))))))))
 refine y1 (ai pk (cd rfl (fun c39=> ?_) fun c39=> ?_))
 · have hn:eO k f n mix=(.zero,false):=mb (by
    intro h9
    simp only[aW4,decide_eq_true_eq] at h9
    rw[h9.1.2,decide_eq_false (show ¬aW (bC k).1.held f n<0 by omega)] at c39
    cases c39)
   refine sq (rT [8,9] (s3 (rt ?_)))
   have hr:=hn
   refine bO rfl rfl ?_
   rw[hr]
   rfl
 have hpm:0≤aW (bC k).1.held f n∧iK mix 0 999=true:=by
  by_cases h8:aW (bC k).1.held f n<0
  · rw[decide_eq_true h8] at c39;cases c39
  · refine⟨by omega,?_⟩
    rw[decide_eq_false h8] at c39
    simpa using c39
 obtain⟨hp,hmx⟩:=hpm
 have hy:=aAf hok hup hmx hp
 obtain⟨j,hj,hjl,hjt⟩:=sD hok hp
 have hg:=aR (l:=(bC k).1.held) hjl
 rw[hj,aWz] at hy
 refine sk (sq (rT [3,4,8,13] (s3 (ai (by rw[hj,aWz,hg];exact⟨⟨by omega,by rw[aB];omega⟩,rfl⟩) (ai (by rw[hj,aWz,hg];exact⟨aW1 rfl,rfl⟩) (s2 (sq (wa [tP 4 4,tP 8 8,tP 13 13,tI 3 mix,oB 4 27 [.d (.i (k).id),.d (.b (k).up),.d (.s (k).log),.d (.i (k).forced),.d (.sl (aX (k).halves))],oB 8 63 [.d (.i 0),.d (.i 0),.d (.i 0),.d (.i 0),.d (.i 0),.d (.i 0),.d (.i 0),.d (.i 0),.d (.i 0),.d (.s [])],oB 13 58 [.d (.i (((bC k).1.held.getD j .zero)).frm),.d (.i (((bC k).1.held.getD j .zero)).num),.d (.i (((bC k).1.held.getD j .zero)).to),.d (.i (((bC k).1.held.getD j .zero)).til),.d (.s (((bC k).1.held.getD j .zero)).text)]] [] [] ?_ ?_))))))))
 · repeat' apply ai
   all_goals first|exact qx|(rw[hj,aWz,hg];rfl)|exact qz
 refine rD [8,9] (s6 (xp (tY _ _) (ai rfl ?_)))
 refine s9 (s6 (xp (yp ((bC k).1.held.getD j .zero).text mix hjt) (ai rfl ?_)))
 refine s3 (ai (by kernel_rfl) (rt ?_))
 have hr:=hy
 refine bO rfl rfl ?_
 rw[hr]
 rfl
theorem aEk (rec:List UInt8):Sp 127 1 [tD 0 (.s rec)] [tB 0 (kK rec)]:=by
 refine sb Tryz.func127 rfl (sq (rT [0] (s1 (sq (rT [2] (s2 (xp (gM _ _ _) (ai rfl ?_))))))))
 refine s1 (rt (bJ rfl ?_))
 rfl
theorem bp (rec:List UInt8):Sp 122 1 [tD 0 (.s rec)] [tB 0 (kK rec)]:=by
 refine sb Tryz.func122 rfl (sq (rT [0] (s1 (sq (rT [2] (s2 (xp (dM _ _ _) (ai rfl ?_))))))))
 refine s1 (rt (bJ rfl ?_))
 rfl
theorem oY (rec:List UInt8) (hrec:rec.length≤900000):Sp 120 1 [tD 0 (.s rec)] [tD 0 (.s (fW rec))]:=by
 have hdl:=bS (k:=5) (n:=rec.length) (by simp;omega)
 refine sb Tryz.func120 rfl (sq (rT [0] (s1 (sq (rT [2] (s2 (xp (uQ rec.length (by omega)) (ai rfl ?_))))))))
 refine ai (by show _≤9223372036854775807;(try simp only[aW0,aW3,aW2]);omega) (s1 (ai (by show _≤9223372036854775807;(try simp only[aW0,aW3,aW2]);omega) (ai (by show _≤9223372036854775807;(try simp only[aW0,aW3,aW2]);omega) (s1 (rt (bJ rfl ?_))))))
 rfl
theorem aA0 (rec:List UInt8) (hrec:rec.length≤900000):Sp 128 1 [tD 0 (.s rec)] [tD 0 (.s (fW rec))]:=by
 have hdl:=bS (k:=5) (n:=rec.length) (by simp;omega)
 refine sb Tryz.func128 rfl (sq (rT [0] (s1 (sq (rT [2] (s2 (xp (dw rec.length (by omega)) (ai rfl ?_))))))))
 refine ai (by show _≤9223372036854775807;(try simp only[aW0,aW3,aW2]);omega) (s1 (ai (by show _≤9223372036854775807;(try simp only[aW0,aW3,aW2]);omega) (ai (by show _≤9223372036854775807;(try simp only[aW0,aW3,aW2]);omega) (s1 (rt (bJ rfl ?_))))))
 rfl
set_option maxHeartbeats 800000 in
theorem mX (l:List UInt8) (f:Int) (rec:List UInt8) (hl:l.length≤140737488355328) (hrec:rec.length≤900000):Sp 79 2 [tV 0 (.e (.agg [.d (.s l),.d (.i f)])),tD 1 (.s rec)] [tV 0 (.tup [.agg [.d (.s (aZ l f rec).1.1),.d (.i (aZ l f rec).1.2)],.c (.d (.b (aZ l f rec).2))])]:=by
 refine sb Tryz.func79 rfl (sq (rT [1,2,4] (s3 (sq (sq (rT [1,2,4,8] (s1 (xp (nU l f hl) (ai rfl ?_)))))))))
 refine s1 (cd rfl (fun c8=> ?_) fun c8=> ?_)
 · have hr:aZ l f rec=(([],0),false):=aDz (by simpa using c8)
   refine sq (rT [4,5] (s3 (rt (bO rfl rfl ?_))))
   rw[hr]
   rfl
 have hok:dP l f=true:=by simpa using c8
 have hl2:=(iM hok).1
 have hst:=pU hrec
 refine sk (sq (sq (rD [1,2,4,22] (s1 (xp (bp rec) (ai rfl ?_))))))
 refine s2 (y4 (xc (fun h=>(oY rec hrec)) (ai rfl (ai rk ?_))))
 refine y3 (ai pk (ai (by kernel_rfl) (cd rfl (fun c22=> ?_) fun c22=> ?_)))
 · have hr:aZ l f rec=((l,f),false):=aGl hok (fun h9=>by have:=(aGn c22 hl2 (by omega)).1 h9;cases this)
   refine sq (rT [4,5] (s3 (rt (bO rfl rfl ?_))))
   rw[hr]
   rfl
 have hr:aZ l f rec=((l++fW rec,f),true):=aD0 hok ((aGn c22 hl2 (by omega)).2 rfl)
 refine sk (sq (rD [4,5] (s3 (xp (oY rec hrec) (ai rfl ?_)))))
 refine ai (by show _≤9223372036854775807;(try simp only[aW0,aW3,aW2]);omega) (s5 (ai (by kernel_rfl) (rt (bO rfl rfl ?_))))
 rw[hr]
 rfl
set_option maxHeartbeats 800000 in
theorem yO (l:List UInt8) (f:Int) (recs:List (List UInt8)) (hl:l.length≤140737488355328) (hn:recs.length≤900000) (hrec: ∀r∈recs,r.length≤900000):Sp 86 2 [tV 0 (.e (.agg [.d (.s l),.d (.i f)])),tD 1 (.sl (aV recs))] [tV 0 (.tup [.agg [.d (.s (dW l f recs).1.1),.d (.i (dW l f recs).1.2)],.c (.d (.b (dW l f recs).2))])]:=by
 refine sb Tryz.func86 rfl (sq (rT [1,2,4] (s3 (sq (sq (rT [1,2,4,10] (s1 (xp (nU l f hl) (ai rfl ?_)))))))))
 refine s1 (cd rfl (fun c10=> ?_) fun c10=> ?_)
 · have hr:dW l f recs=(([],0),false):=gm (by simpa using c10)
   refine sq (rT [4,5] (s3 (rt (bO rfl rfl ?_))))
   rw[hr]
   rfl
 have hok:dP l f=true:=by simpa using c10
 refine sk (sq (rT [1,2,4,6] (s1 (sq (sq (rT [1,2,4,6,7] (s1 (bk (SW.loopW (n:=recs.length) (fun m q=> ∃i:Nat,m=recs.length - i∧i≤recs.length∧(∀k,k<i→kK (recs.getD k [])=true)∧q=[tP 2 2,tP 4 4,tD 1 (.sl (aV recs)),tD 6 (.s (dE (recs.take (i)))),tI 7 (i:Nat),oB 2 24 [.d (.s l),.d (.i f)],oB 4 24 [.d (.s []),.d (.i 0)]]) ?_ ?_)))))))))
 · refine wq (σ':=[tP 2 2,tP 4 4,tD 1 (.sl (aV recs)),tD 6 (.s (dE (recs.take (0)))),tI 7 (0:Nat),oB 2 24 [.d (.s l),.d (.i f)],oB 4 24 [.d (.s []),.d (.i 0)]]) [] [] (⟨0,rfl,aW6 _,fun k h=>absurd h (by omega),rfl⟩) ?_
   repeat' apply ai
   all_goals first|exact qx|rfl|exact qz
 rintro n s ⟨i,rfl,hi,hk,rfl⟩
 refine sq (sq (rT [1,2,4,6,7,15] (s4 (cd rfl (fun c15=> ?_) fun c15=> ?_))))
 · have hi2:i<recs.length:=by simpa[aJ] using c15
   have hg:=fB (l:=recs) hi2
   have hmem: (recs.getD i [])∈recs:=dG hi2
   have hrq:=hrec _ hmem
   have hpt:=mc hi2
   have hple:=xe recs i
   have hps:=xL hrec
   have hsl:=pU hrq
   refine sk (sq (bk (sq (sq (rT [1,2,4,6,7,23] (s2 (ai (by rw[aWz,hg];exact⟨⟨by omega,by rw[aJ];omega⟩,rfl⟩) (ai (by rw[aWz,hg];exact⟨aW1 rfl,rfl⟩) (xp (bp (recs.getD i [])) (ai (by rw[aWz,hg];rfl) ?_))))))))))
   refine s1 (cd rfl (fun c23=> ?_) fun c23=> ?_)
   · have hs:kK (recs.getD i [])=false:=by
      simpa using c23
     have hr:dW l f recs=((l,f),false):=uM hok (fun h9=>aGm hi2 hs h9.1)
     refine sq (rT [4,5] (s3 (rt (bO rfl rfl ?_))))
     rw[hr]
     rfl
   refine sk (rT [1,2,4,6,7] (s3 (ai (by rw[aWz,hg];exact⟨⟨by omega,by rw[aJ];omega⟩,rfl⟩) (ai (by rw[aWz,hg];exact⟨aW1 rfl,rfl⟩) (xp (oY (recs.getD i []) hrq) (ai (by rw[aWz,hg];rfl) ?_))))))
   refine ai (by show _≤9223372036854775807;(try simp only[aW0,aW3,aW2]);omega) (s1 (rT [1,2,4,6,7] (s3 ?_)))
   have hs:kK (recs.getD i [])=true:=by
    simpa using c23
   refine wq [] [] (⟨recs.length - (i+1),by omega,i+1,rfl,by omega,fun k h=>by by_cases e:k=i;exact e▸hs;exact hk k (by omega),rfl⟩) ?_
   repeat' apply ai
   all_goals first|exact qx|exact congrArg D.i (by rw[aC (by omega)];omega)|(rw[hpt];done)|(rw[hpt,aWz,hg];rfl)|omega|exact qz
 have hi3:i=recs.length:=by simp[aJ] at c15;omega
 subst hi3
 have hall:=aCe hk
 rw[aXf]
 refine xt (sq (sq (rT [2,4,6,34] (s3 (cd rfl (fun c34=> ?_) fun c34=> ?_)))))
 · have hr:dW l f recs=((l,f),false):=uM hok (fun h9=>by have h8:=of_decide_eq_true c34;omega)
   refine sq (rT [4,5] (s3 (rt (bO rfl rfl ?_))))
   rw[hr]
   rfl
 have hr:=xK hok ⟨hall,by have h8:=of_decide_eq_false c34;omega⟩
 refine sk (sq (rT [4,5] (s6 (rt (bO rfl rfl ?_)))))
 rw[hr]
 rfl
set_option maxHeartbeats 800000 in
theorem qd (l:List UInt8) (f:Int) (recs:List (List UInt8)) (hl:l.length≤140737488355328) (hn:recs.length≤900000) (hrec: ∀r∈recs,r.length≤900000):Sp 88 2 [tV 0 (.e (.agg [.d (.s l),.d (.i f)])),tD 1 (.sl (aV recs))] [tV 0 (.tup [.agg [.d (.s (dW l f recs).1.1),.d (.i (dW l f recs).1.2)],.c (.d (.b (dW l f recs).2))])]:=by
 refine sb Tryz.func88 rfl (sq (rT [1,2,4] (s3 (sq (sq (rT [1,2,4,11] (s1 (xp (rH l f hl) (ai rfl ?_)))))))))
 refine s1 (cd rfl (fun c11=> ?_) fun c11=> ?_)
 · have hr:dW l f recs=(([],0),false):=gm (by simpa using c11)
   refine sq (rT [4,5] (s3 (rt (bO rfl rfl ?_))))
   rw[hr]
   rfl
 have hok:dP l f=true:=by simpa using c11
 refine sk (sq (rT [1,2,4,6] (s1 (sq (sq (rT [2,4,6,13,14,15] (s3 (bk (SW.loopW (n:=recs.length) (fun m q=> ∃i:Nat,m=recs.length - i∧i≤recs.length∧(∀k,k<i→kK (recs.getD k [])=true)∧q=[tP 2 2,tP 4 4,tD 6 (.s (dE (recs.take (i)))),tD 13 (.sl (aV recs)),tI 14 (recs.length:Nat),tI 15 (i:Nat),oB 2 24 [.d (.s l),.d (.i f)],oB 4 24 [.d (.s []),.d (.i 0)]]) ?_ ?_)))))))))
 · refine wq (σ':=[tP 2 2,tP 4 4,tD 6 (.s (dE (recs.take (0)))),tD 13 (.sl (aV recs)),tI 14 (recs.length:Nat),tI 15 (0:Nat),oB 2 24 [.d (.s l),.d (.i f)],oB 4 24 [.d (.s []),.d (.i 0)]]) [] [] (⟨0,rfl,aW6 _,fun k h=>absurd h (by omega),rfl⟩) ?_
   repeat' apply ai
   all_goals first|exact qx|rfl|(rw[aJ];done)|exact qz
 rintro n s ⟨i,rfl,hi,hk,rfl⟩
 refine sq (rT [2,4,6,13,14,15,16] (s1 (sq (cd rfl (fun c16=> ?_) fun c16=> ?_))))
 · have hi2:i<recs.length:=by simp at c16;omega
   have hg:=fB (l:=recs) hi2
   have hmem: (recs.getD i [])∈recs:=dG hi2
   have hrq:=hrec _ hmem
   have hpt:=mc hi2
   have hple:=xe recs i
   have hps:=xL hrec
   have hsl:=pU hrq
   refine sk (sq (bk (sq (rT [2,4,6,8,13,14,15] (ai (by rw[aWz,hg];exact⟨⟨by omega,by rw[aJ];omega⟩,rfl⟩) (ai (by rw[aWz,hg];exact⟨aW1 rfl,rfl⟩) (s1 (sq (sq (wa [tP 2 2,tP 4 4,tD 6 (.s (dE (recs.take i))),tD 8 (.s (recs.getD i [])),tD 13 (.sl (aV recs)),tI 14 (recs.length:Nat),tI 15 (i:Nat),oB 2 24 [.d (.s l),.d (.i f)],oB 4 24 [.d (.s []),.d (.i 0)]] [] [] ?_ ?_))))))))))
   · repeat' apply ai
     all_goals first|exact qx|(rw[aWz,hg];rfl)|exact qz
   refine rT [2,4,6,8,13,14,15,26] (s1 (xp (aEk (recs.getD i [])) (ai rfl ?_)))
   refine s2 (y3 (ai pk (cd rfl (fun c26=> ?_) fun c26=> ?_)))
   · have hr:dW l f recs=((l,f),false):=uM hok (fun h9=>by
      rcases aMn c26 with h8|h8
      · exact aGm hi2 h8 h9.1
      · omega)
     refine sq (rT [4,5] (s3 (rt (bO rfl rfl ?_))))
     rw[hr]
     rfl
   refine sk (rT [2,4,6,13,14,15] (s2 (xp (aA0 (recs.getD i []) hrq) (ai rfl ?_))))
   refine ai (by show _≤9223372036854775807;(try simp only[aW0,aW3,aW2]);omega) (s1 (rT [2,4,6,13,14,15] (s2 ?_)))
   have hs:kK (recs.getD i [])=true:=(aPf c26).1
   refine wq [] [] (⟨recs.length - (i+1),by omega,i+1,rfl,by omega,fun k h=>by by_cases e:k=i;exact e▸hs;exact hk k (by omega),rfl⟩) ?_
   repeat' apply ai
   all_goals first|exact qx|exact congrArg D.i (by rw[aC (by omega)];omega)|(rw[hpt];done)|(rw[hpt,aWz,hg];rfl)|omega|exact qz
 have hi3:i=recs.length:=by simp[aJ] at c16;omega
 subst hi3
 have hall:=aCe hk
 rw[aXf]
 refine xt (sq (sq (rT [2,4,6,35] (s3 (cd rfl (fun c35=> ?_) fun c35=> ?_)))))
 · have hr:dW l f recs=((l,f),false):=uM hok (fun h9=>by have h8:=of_decide_eq_true c35;omega)
   refine sq (rT [4,5] (s3 (rt (bO rfl rfl ?_))))
   rw[hr]
   rfl
 have hr:=xK hok ⟨hall,by have h8:=of_decide_eq_false c35;omega⟩
 refine sk (sq (rT [4,5] (s6 (rt (bO rfl rfl ?_)))))
 rw[hr]
 rfl
theorem bq (a b c:Int) (h: (0≤a∧a≤1000000)∧(0≤b∧b≤1000000)∧(0≤c∧c≤1000000)):Sp 110 3 [tI 0 a,tI 1 b,tI 2 c] [tD 0 (.s (jZ a.toNat++[32]++jZ b.toNat++[32]++jZ c.toNat))]:=by
 have q1:=bS (k:=6) (n:=a.toNat) (by simp;omega)
 have q2:=bS (k:=6) (n:=b.toNat) (by simp;omega)
 have q3:=bS (k:=6) (n:=c.toNat) (by simp;omega)
 refine sb Tryz.func110 rfl (sq (rT [0,1,2] (s1 (sq (rT [6] (s1 (xp (kR a h.1) (ai rfl ?_))))))))
 refine ai (by show _≤9223372036854775807;(try simp only[aW0,aW3,aW2]);omega) (s1 (xp (kR b h.2.1) (ai rfl ?_)))
 refine ai (by show _≤9223372036854775807;(try simp only[aW0,aW3,aW2]);omega) (ai (by show _≤9223372036854775807;(try simp only[aW0,aW3,aW2]);omega) (s1 (xp (kR c h.2.2) (ai rfl ?_))))
 refine ai (by show _≤9223372036854775807;(try simp only[aW0,aW3,aW2]);omega) (s1 (rt (bJ rfl ?_)))
 rfl
theorem qe (w:List UInt8) (a b c:Int) (h: (0≤a∧a≤1000000)∧(0≤b∧b≤1000000)∧(0≤c∧c≤1000000)) (hw:w.length≤900000):Sp 91 4 [tD 0 (.s w),tI 1 a,tI 2 b,tI 3 c] [tD 0 (.s (kV w ⟨a,b,c⟩))]:=by
 have q1:=bS (k:=6) (n:=a.toNat) (by simp;omega)
 have q2:=bS (k:=6) (n:=b.toNat) (by simp;omega)
 have q3:=bS (k:=6) (n:=c.toNat) (by simp;omega)
 refine sb Tryz.func91 rfl (sq (rT [0,1,2,3] (s1 (sq (rT [8] (s1 (ai (by show _≤9223372036854775807;(try simp only[aW0,aW3,aW2]);omega) (s1 (xp (uS a h.1) (ai rfl ?_))))))))))
 refine ai (by show _≤9223372036854775807;(try simp only[aW0,aW3,aW2]);omega) (ai (by show _≤9223372036854775807;(try simp only[aW0,aW3,aW2]);omega) (s1 (xp (uS b h.2.1) (ai rfl ?_))))
 refine ai (by show _≤9223372036854775807;(try simp only[aW0,aW3,aW2]);omega) (ai (by show _≤9223372036854775807;(try simp only[aW0,aW3,aW2]);omega) (s1 (xp (uS c h.2.2) (ai rfl ?_))))
 refine ai (by show _≤9223372036854775807;(try simp only[aW0,aW3,aW2]);omega) (s1 (rt (bJ rfl ?_)))
 rfl
set_option maxHeartbeats 1600000 in
theorem jk (k:aH) (hb:k.halves.length≤100000∧ ∀x∈k.halves,x.got.length≤100000):Sp 82 1 [tV 0 k.V] [tV 0 (.e (.agg [.d (.i k.id),.d (.b k.up),.d (.s k.log),.d (.i k.forced),.own 0 k.halves.length])),oR 0 85 6 (aX k.halves)]:=by
 refine sb Tryz.func82 rfl (sq (rT [1,2] (s2 (sq (rT [1,2,3] (s2 (sq (sq (rT [1,2,3,4] (s1 (bk (SW.loopW (n:=k.halves.length) (fun m q=> ∃i:Nat,m=k.halves.length - i∧i≤k.halves.length∧q=[tP 1 1,tP 2 2,tO 3 6 (k.halves.take (i)).length,tI 4 (i:Nat),oB 1 27 [.d (.i (k).id),.d (.b (k).up),.d (.s (k).log),.d (.i (k).forced),.d (.sl (aX (k).halves))],oB 2 27 [.d (.i 0),.d (.b false),.d (.s []),.d (.i 0),.nil],oR 6 85 6 (aX (k.halves.take (i)))]) ?_ ?_))))))))))))
 · refine wq (σ':=[tP 1 1,tP 2 2,tO 3 6 (k.halves.take (0)).length,tI 4 (0:Nat),oB 1 27 [.d (.i (k).id),.d (.b (k).up),.d (.s (k).log),.d (.i (k).forced),.d (.sl (aX (k).halves))],oB 2 27 [.d (.i 0),.d (.b false),.d (.s []),.d (.i 0),.nil],oR 6 85 6 (aX (k.halves.take (0)))]) [] [] (⟨0,rfl,aW6 _,rfl⟩) ?_
   repeat' apply ai
   all_goals first|exact qx|rfl|exact qz
 rintro n s ⟨i,rfl,hi,rfl⟩
 refine sq (sq (rT [1,2,3,4,11] (s5 (cd rfl (fun c11=> ?_) fun c11=> ?_))))
 · have hi2:i<k.halves.length:=by simpa[aG] using c11
   have hg:=gJ (l:=k.halves) hi2
   have hmem:k.halves.getD i .zero∈k.halves:=dG hi2
   refine sk (sq (bk (sq (rT [1,2,3,4,5] (s3 (ai (by rw[aWz,hg];exact⟨⟨by omega,by rw[aG];omega⟩,rfl⟩) (ai (by rw[aWz,hg];exact⟨aW1 rfl,rfl⟩) (s2 (sq (wa [tP 1 1,tP 2 2,tO 3 6 (k.halves.take i).length,tI 4 (i:Nat),tP 5 5,oB 1 27 [.d (.i (k).id),.d (.b (k).up),.d (.s (k).log),.d (.i (k).forced),.d (.sl (aX (k).halves))],oB 2 27 [.d (.i 0),.d (.b false),.d (.s []),.d (.i 0),.nil],oB 5 85 [.d (.i (k.halves.getD i .zero).frm),.d (.i (k.halves.getD i .zero).num),.d (.i (k.halves.getD i .zero).to),.d (.i (k.halves.getD i .zero).til),.d (.i (k.halves.getD i .zero).size),.d (.sl (cM (k.halves.getD i .zero).got))],oR 6 85 6 (aX (k.halves.take i))] [] [] ?_ ?_))))))))))
   · repeat' apply ai
     all_goals first|exact qx|(rw[aWz,hg];rfl)|exact qz
   refine rT [1,2,3,4,5] (ai (by simp) (s2 (ai (by refine⟨trivial,rfl,?_,?_⟩<;>first|exact qS _|(simp only[bG,aW2,Nat.zero_add];have:=hb.2 _ hmem;show _*24≤_;omega)) (s2 (wa [tP 1 1,tP 2 2,tO 3 6 (k.halves.take i).length,tI 4 (i:Nat),tP 5 5,oB 1 27 [.d (.i (k).id),.d (.b (k).up),.d (.s (k).log),.d (.i (k).forced),.d (.sl (aX (k).halves))],oB 2 27 [.d (.i 0),.d (.b false),.d (.s []),.d (.i 0),.nil],oB 5 85 [.d (.i (k.halves.getD i .zero).frm),.d (.i (k.halves.getD i .zero).num),.d (.i (k.halves.getD i .zero).to),.d (.i (k.halves.getD i .zero).til),.d (.i (k.halves.getD i .zero).size),.d (.sl (cM (k.halves.getD i .zero).got))],oR 6 85 6 (aX (k.halves.take i))] [] [19] ?_ ?_)))))
   · repeat' apply ai
     all_goals first|exact qx|(simp[bG];done)|rfl|exact qz
   refine rT [1,2,3,4] (s2 (ai (by exact⟨by simp,aW1 rfl⟩) (ai (by exact⟨rfl,aG _,by intro r hr;rw[List.mem_singleton.1 hr];rfl,by simp only[aW0,aW3,aW2,aG,aW5];show _*64≤_;omega⟩) (s1 (rT [1,2,3,4] (s3 ?_))))))
   have hts:=eR (z:=dT.zero) hi2
   refine wq [] [] (⟨k.halves.length - (i+1),by omega,i+1,rfl,by omega,rfl⟩) ?_
   repeat' apply ai
   all_goals first|exact qx|exact congrArg D.i (by rw[aC (by omega)];omega)|(rw[hts,aW0];rfl)|(rw[hts];simp only[aX,List.map_append,List.map_cons,List.map_nil];rfl)|(rw[aG];done)|(simp[aG];done)|(simp[aG,aW5];omega)|exact qz
 have hi3:i=k.halves.length:=by simp[aG] at c11;omega
 subst hi3
 refine xt (sq (rT [1,2] (s3 (sq (rT [2] (s2 (rt ?_)))))))
 rw[aXf]
 exact eC _ [(0,6)] [] rfl (dN rfl (aD rfl (aD rfl (aD rfl (aD rfl (bP rfl rfl rfl aL))))) (bV rfl rfl trivial)) rfl rfl
theorem gH (k:aH) (hb:k.halves.length≤100000∧ ∀x∈k.halves,x.got.length≤100000):Ab.Spec Tryz.prog 82 1 [(.t 0,.v k.V)] [(.t 0,.v k.V)]:=
 Spec.told (rl:=[]) (bor:=[0]) (jk k hb) (dN rfl (aD rfl (aD rfl (aD rfl (aD rfl (rZ rfl rfl (aG _) rfl aL))))) trivial) rfl rfl
set_option maxHeartbeats 3200000 in
theorem br (k:bB) (hk:KB k):Sp 87 1 [tV 0 k.V] [tD 0 (.sl (aV (eE k)))]:=by
 refine sb Tryz.func87 rfl (sq (rT [1] (s2 (sq (rT [1,3] (s2 (sq (sq (rT [1,3,11] (s1 (xp (oX k hk.1 hk.2.1 hk.2.2) (ai rfl ?_))))))))))))
 refine s1 (cd rfl (fun c11=> ?_) fun c11=> ?_)
 · have hno: ¬dJ k=true:=by simpa using c11
   refine sq (rT [2] (s2 (rt (eC _ [] [8] rfl (eW rfl rfl rfl ?_ (congrArg D.sl ?_) trivial) rfl rfl))))
   · rfl
   rw[de hno];rfl
 have hok:dJ k=true:=by simpa using c11
 have h6:=eK hok
 obtain⟨⟨_,ht,hn,_,_,_⟩,_⟩:=(cC k).1 hok
 have q1:=bS (k:=6) (n:=k.time.toNat) (by simp;omega)
 have q2:=bS (k:=6) (n:=k.next.toNat) (by simp;omega)
 have hnl:=xl k
 refine sk (SW.midW (fun q=>q=[tP 1 1,tO 3 8 (vQ k).length,oB 1 32 [.d (.i k.id),.d (.i k.time),.d (.i k.next),.d (.sl (aE k.held)),.d (.sl (aO k.marks)),.d (.sl (aE k.inbox))],oR 8 9 1 (aV (vQ k))]) ?_ ?_)
 · refine sq (rT [1,3,15] (s3 (cd rfl (fun c15=> ?_) fun c15=> ?_)))
   · have hq:=aCf (of_decide_eq_true c15)
     refine rT [1,3] (s3 (xp (kR k.time (by omega)) (ai rfl ?_)))
     refine ai (by show _≤9223372036854775807;(try simp only[aW0,aW3,aW2]);omega) (s1 (ai (by exact⟨rfl,rfl,by simp,by show(0+1)*16≤_;omega⟩) (s1 (wq [] [] (rfl) ?_))))
     repeat' apply ai
     all_goals first|exact qx|exact congrArg D.i (by rw[aC (by omega)];omega)|(rw[hq];done)|(rw[hq];rfl)|(rw[hq,aW0];rfl)|(rw[hq,aW0];done)|(rw[hq];simp[aJ];done)|(rw[hq];exact fC _ _)|(rw[aJ];done)|(simp[aJ];done)|exact qz
   have hq:=aGo (of_decide_eq_false c15)
   refine sk (wq [] [] (rfl) ?_)
   repeat' apply ai
   all_goals first|exact qx|exact congrArg D.i (by rw[aC (by omega)];omega)|(rw[hq];done)|(rw[hq];rfl)|(rw[hq,aW0];rfl)|(rw[hq,aW0];done)|(rw[hq];simp[aJ];done)|(rw[hq];exact fC _ _)|(rw[aJ];done)|(simp[aJ];done)|exact qz
 rintro s rfl
 refine SW.midW (fun q=>q=[tP 1 1,tO 3 8 (yL k).length,oB 1 32 [.d (.i k.id),.d (.i k.time),.d (.i k.next),.d (.sl (aE k.held)),.d (.sl (aO k.marks)),.d (.sl (aE k.inbox))],oR 8 9 1 (aV (yL k))]) ?_ ?_
 · refine sq (rT [1,3,25] (s3 (cd rfl (fun c25=> ?_) fun c25=> ?_)))
   · have hq:=aCg (of_decide_eq_true c25)
     have hnl2: (vQ k).length≤1:=by unfold vQ;split<;>simp
     refine rT [1,3] (s3 (xp (kR k.next (by omega)) (ai rfl ?_)))
     refine ai (by show _≤9223372036854775807;(try simp only[aW0,aW3,aW2]);omega) (s1 (ai (by refine⟨rfl,aJ _,by simp,?_⟩;skip;show(_+1)*16≤_;omega) (s1 (wq [] [] (rfl) ?_))))
     repeat' apply ai
     all_goals first|exact qx|exact congrArg D.i (by rw[aC (by omega)];omega)|(rw[hq];done)|(rw[hq];rfl)|(rw[hq,aW0];rfl)|(rw[hq,aW0];done)|(rw[hq];simp[aJ];done)|(rw[hq];exact fC _ _)|(rw[aJ];done)|(simp[aJ];done)|exact qz
   have hq:=aGp (of_decide_eq_false c25)
   refine sk (wq [] [] (rfl) ?_)
   repeat' apply ai
   all_goals first|exact qx|exact congrArg D.i (by rw[aC (by omega)];omega)|(rw[hq];done)|(rw[hq];rfl)|(rw[hq,aW0];rfl)|(rw[hq,aW0];done)|(rw[hq];simp[aJ];done)|(rw[hq];exact fC _ _)|(rw[aJ];done)|(simp[aJ];done)|exact qz
 rintro s rfl
 refine sq (sq (rT [1,3,4] (s1 (bk (SW.loopW (n:=k.marks.length) (fun m q=> ∃i:Nat,m=k.marks.length - i∧i≤k.marks.length∧q=[tP 1 1,tO 3 8 (oL k (i)).length,tI 4 (i:Nat),oB 1 32 [.d (.i k.id),.d (.i k.time),.d (.i k.next),.d (.sl (aE k.held)),.d (.sl (aO k.marks)),.d (.sl (aE k.inbox))],oR 8 9 1 (aV (oL k (i)))]) ?_ ?_)))))
 · refine wq (σ':=[tP 1 1,tO 3 8 (oL k (0)).length,tI 4 (0:Nat),oB 1 32 [.d (.i k.id),.d (.i k.time),.d (.i k.next),.d (.sl (aE k.held)),.d (.sl (aO k.marks)),.d (.sl (aE k.inbox))],oR 8 9 1 (aV (oL k (0)))]) [] [] (⟨0,rfl,aW6 _,rfl⟩) ?_
   repeat' apply ai
   all_goals first|exact qx|rfl|(rw[xf];done)|(rw[aF];done)|(rw[aB];done)|exact qz
 rintro n s ⟨i,rfl,hi,rfl⟩
 refine sq (sq (rT [1,3,4,37] (s5 (cd rfl (fun c37=> ?_) fun c37=> ?_))))
 · have hi2:i<k.marks.length:=by simp[aF] at c37;omega
   have hg:=bW (l:=k.marks) hi2
   have hms:=xo hok hi2
   have hml:=xm k i
   have w1:=bS (k:=6) (n:=(k.marks.getD i .zero).frm.toNat) (by show _<10000000;omega)
   have w2:=bS (k:=6) (n:=(k.marks.getD i .zero).num.toNat) (by show _<10000000;omega)
   have w3:=bS (k:=6) (n:=(k.marks.getD i .zero).til.toNat) (by show _<10000000;omega)
   refine sk (sq (bk (sq (rT [1,3,4,5] (s3 (ai (by rw[aWz,hg];exact⟨⟨by omega,by rw[aF];omega⟩,rfl⟩) (ai (by rw[aWz,hg];exact⟨aW1 rfl,rfl⟩) (s2 (wa [tP 1 1,tO 3 8 (oL k i).length,tI 4 (i:Nat),tP 5 5,oB 1 32 [.d (.i k.id),.d (.i k.time),.d (.i k.next),.d (.sl (aE k.held)),.d (.sl (aO k.marks)),.d (.sl (aE k.inbox))],oB 5 112 [.d (.i ((k.marks.getD i .zero)).frm),.d (.i ((k.marks.getD i .zero)).num),.d (.i ((k.marks.getD i .zero)).til)],oR 8 9 1 (aV (oL k i))] [] [] ?_ ?_)))))))))
   · repeat' apply ai
     all_goals first|exact qx|(rw[aWz,hg];rfl)|exact qz
   refine rD [1,3,4] (s3 (xp (kR (k.marks.getD i .zero).frm (by omega)) (ai rfl ?_)))
   refine ai (by show _≤9223372036854775807;(try simp only[aW0,aW3,aW2]);omega) (ai (by show _≤9223372036854775807;(try simp only[aW0,aW3,aW2]);omega) (s2 (xp (kR (k.marks.getD i .zero).num (by omega)) (ai rfl ?_))))
   refine ai (by show _≤9223372036854775807;(try simp only[aW0,aW3,aW2]);omega) (ai (by show _≤9223372036854775807;(try simp only[aW0,aW3,aW2]);omega) (s2 (xp (kR (k.marks.getD i .zero).til (by omega)) (ai rfl ?_))))
   refine ai (by show _≤9223372036854775807;(try simp only[aW0,aW3,aW2]);omega) (s1 (ai (by refine⟨rfl,aJ _,by simp,?_⟩;skip;show(_+1)*16≤_;omega) (s1 (ai (by kernel_rfl) (rT [1,3,4] (s3 ?_))))))
   have hq:=xi hi2
   refine wq [] [] (⟨k.marks.length - (i+1),by omega,i+1,rfl,by omega,rfl⟩) ?_
   repeat' apply ai
   all_goals first|exact qx|exact congrArg D.i (by rw[aC (by omega)];omega)|(rw[hq];done)|(rw[hq];rfl)|(rw[hq,aW0];rfl)|(rw[hq,aW0];done)|(rw[hq];simp[aJ];done)|(rw[hq];exact fC _ _)|(rw[aJ];done)|(simp[aJ];done)|exact qz
 have hi3:i=k.marks.length:=by simp[aF] at c37;omega
 subst hi3
 clear hi
 refine xt (sq (sq (rT [1,3,6] (s1 (bk (SW.loopW (n:=k.held.length) (fun m q=> ∃i:Nat,m=k.held.length - i∧i≤k.held.length∧q=[tP 1 1,tO 3 8 (pV k (i)).length,tI 6 (i:Nat),oB 1 32 [.d (.i k.id),.d (.i k.time),.d (.i k.next),.d (.sl (aE k.held)),.d (.sl (aO k.marks)),.d (.sl (aE k.inbox))],oR 8 9 1 (aV (pV k (i)))]) ?_ ?_))))))
 · refine wq (σ':=[tP 1 1,tO 3 8 (pV k (0)).length,tI 6 (0:Nat),oB 1 32 [.d (.i k.id),.d (.i k.time),.d (.i k.next),.d (.sl (aE k.held)),.d (.sl (aO k.marks)),.d (.sl (aE k.inbox))],oR 8 9 1 (aV (pV k (0)))]) [] [] (⟨0,rfl,aW6 _,rfl⟩) ?_
   repeat' apply ai
   all_goals first|exact qx|rfl|(rw[xg];done)|(rw[aF];done)|(rw[aB];done)|exact qz
 rintro n s ⟨i,rfl,hi,rfl⟩
 refine sq (sq (rT [1,3,6,66] (s5 (cd rfl (fun c66=> ?_) fun c66=> ?_))))
 · have hi2:i<k.held.length:=by simp[aB] at c66;omega
   have hg:=aR (l:=k.held) hi2
   have hmem: (k.held.getD i .zero)∈k.held:=dG hi2
   have hnt:=hk.2.1 _ hmem
   have hwl:=nQ (k.held.getD i .zero)
   have hml:=xn k i
   refine sk (sq (bk (rT [1,3,6] (s4 (ai (by rw[aWz,hg];exact⟨⟨by omega,by rw[aB];omega⟩,rfl⟩) (ai (by rw[aWz,hg];exact⟨aW1 rfl,rfl⟩) (xp (kN (k.held.getD i .zero) hnt) (ai (by rw[aWz,hg];rfl) ?_))))))))
   refine ai (by show _≤9223372036854775807;(try simp only[aW0,aW3,aW2]);omega) (s1 (ai (by refine⟨rfl,aJ _,by simp,?_⟩;skip;show(_+1)*16≤_;omega) (s1 (rT [1,3,6] (s3 ?_)))))
   have hq:=xj hi2
   refine wq [] [] (⟨k.held.length - (i+1),by omega,i+1,rfl,by omega,rfl⟩) ?_
   repeat' apply ai
   all_goals first|exact qx|exact congrArg D.i (by rw[aC (by omega)];omega)|(rw[hq];done)|(rw[hq];rfl)|(rw[hq,aW0];rfl)|(rw[hq,aW0];done)|(rw[hq];simp[aJ];done)|(rw[hq];exact fC _ _)|(rw[aJ];done)|(simp[aJ];done)|exact qz
 have hi3:i=k.held.length:=by simp[aB] at c66;omega
 subst hi3
 clear hi
 refine xt (sq (sq (rT [1,3,7] (s1 (bk (SW.loopW (n:=k.inbox.length) (fun m q=> ∃i:Nat,m=k.inbox.length - i∧i≤k.inbox.length∧q=[tP 1 1,tO 3 8 (oM k (i)).length,tI 7 (i:Nat),oB 1 32 [.d (.i k.id),.d (.i k.time),.d (.i k.next),.d (.sl (aE k.held)),.d (.sl (aO k.marks)),.d (.sl (aE k.inbox))],oR 8 9 1 (aV (oM k (i)))]) ?_ ?_))))))
 · refine wq (σ':=[tP 1 1,tO 3 8 (oM k (0)).length,tI 7 (0:Nat),oB 1 32 [.d (.i k.id),.d (.i k.time),.d (.i k.next),.d (.sl (aE k.held)),.d (.sl (aO k.marks)),.d (.sl (aE k.inbox))],oR 8 9 1 (aV (oM k (0)))]) [] [] (⟨0,rfl,aW6 _,rfl⟩) ?_
   repeat' apply ai
   all_goals first|exact qx|rfl|(rw[xh];done)|(rw[aF];done)|(rw[aB];done)|exact qz
 rintro n s ⟨i,rfl,hi,rfl⟩
 refine sq (sq (rT [1,3,7,83] (s5 (cd rfl (fun c83=> ?_) fun c83=> ?_))))
 · have hi2:i<k.inbox.length:=by simp[aB] at c83;omega
   have hg:=aR (l:=k.inbox) hi2
   have hmem: (k.inbox.getD i .zero)∈k.inbox:=dG hi2
   have hnt:=hk.2.2 _ hmem
   have hwl:=nQ (k.inbox.getD i .zero)
   have hml:=md k i
   refine sk (sq (bk (rT [1,3,7] (s4 (ai (by rw[aWz,hg];exact⟨⟨by omega,by rw[aB];omega⟩,rfl⟩) (ai (by rw[aWz,hg];exact⟨aW1 rfl,rfl⟩) (xp (kN (k.inbox.getD i .zero) hnt) (ai (by rw[aWz,hg];rfl) ?_))))))))
   refine ai (by show _≤9223372036854775807;(try simp only[aW0,aW3,aW2]);omega) (s1 (ai (by refine⟨rfl,aJ _,by simp,?_⟩;skip;show(_+1)*16≤_;omega) (s1 (rT [1,3,7] (s3 ?_)))))
   have hq:=xk hi2
   refine wq [] [] (⟨k.inbox.length - (i+1),by omega,i+1,rfl,by omega,rfl⟩) ?_
   repeat' apply ai
   all_goals first|exact qx|exact congrArg D.i (by rw[aC (by omega)];omega)|(rw[hq];done)|(rw[hq];rfl)|(rw[hq,aW0];rfl)|(rw[hq,aW0];done)|(rw[hq];simp[aJ];done)|(rw[hq];exact fC _ _)|(rw[aJ];done)|(simp[aJ];done)|exact qz
 have hi3:i=k.inbox.length:=by simp[aB] at c83;omega
 subst hi3
 clear hi
 refine xt (sq (rT [2] (s2 (rt (eC _ [] [8] rfl (eW rfl rfl rfl ?_ (congrArg D.sl ?_) trivial) rfl rfl)))))
 · exact aJ _
 rw[af hok]
set_option maxHeartbeats 3200000 in
theorem bs (k:bB) (hk:KB k):Sp 40 1 [tV 0 k.V] [tD 0 (.sl (aV (eE k)))]:=by
 refine sb Tryz.func40 rfl (sq (rT [1] (s2 (sq (sq (rT [1,12] (s1 (xp (xN k hk.2.1 hk.2.2) (ai rfl ?_)))))))))
 refine s1 (cd rfl (fun c12=> ?_) fun c12=> ?_)
 · have hno: ¬dJ k=true:=by simpa using c12
   refine sq (rT [2] (s1 (rt (eC _ [] [] rfl (kh rfl (congrArg D.sl ?_) trivial) rfl rfl))))
   rw[de hno];rfl
 have hok:dJ k=true:=by simpa using c12
 have h6:=eK hok
 obtain⟨⟨_,ht,hn,_,_,_⟩,_⟩:=(cC k).1 hok
 have q1:=bS (k:=6) (n:=k.time.toNat) (by simp;omega)
 have q2:=bS (k:=6) (n:=k.next.toNat) (by simp;omega)
 have hnl:=xl k
 refine sk (sq (rT [1,3] (s1 (SW.midW (fun q=>q=[tP 1 1,tO 3 100 (vQ k).length,oB 1 32 [.d (.i k.id),.d (.i k.time),.d (.i k.next),.d (.sl (aE k.held)),.d (.sl (aO k.marks)),.d (.sl (aE k.inbox))],oR 100 9 1 (aV (vQ k))]) ?_ ?_))))
 · refine sq (SW.nilOwn 3 100 9 1 rfl rfl (rT [1,3,15] (s3 (cd rfl (fun c15=> ?_) fun c15=> ?_))))
   · have hq:=aCf (of_decide_eq_true c15)
     refine rT [1,3] (s3 (xp (uS k.time (by omega)) (ai rfl ?_)))
     refine ai (by show _≤9223372036854775807;(try simp only[aW0,aW3,aW2]);omega) (s1 (ai (by exact⟨rfl,rfl,by simp,by show(0+1)*16≤_;omega⟩) (s1 (wq [] [] (rfl) ?_))))
     repeat' apply ai
     all_goals first|exact qx|exact congrArg D.i (by rw[aC (by omega)];omega)|(rw[hq];done)|(rw[hq];rfl)|(rw[hq,aW0];rfl)|(rw[hq,aW0];done)|(rw[hq];simp[aJ];done)|(rw[hq];exact fC _ _)|(rw[aJ];done)|(simp[aJ];done)|exact qz
   have hq:=aGo (of_decide_eq_false c15)
   refine sk (wq [] [] (rfl) ?_)
   repeat' apply ai
   all_goals first|exact qx|exact congrArg D.i (by rw[aC (by omega)];omega)|(rw[hq];done)|(rw[hq];rfl)|(rw[hq,aW0];rfl)|(rw[hq,aW0];done)|(rw[hq];simp[aJ];done)|(rw[hq];exact fC _ _)|(rw[aJ];done)|(simp[aJ];done)|exact qz
 rintro s rfl
 refine SW.midW (fun q=>q=[tP 1 1,tO 3 100 (yL k).length,oB 1 32 [.d (.i k.id),.d (.i k.time),.d (.i k.next),.d (.sl (aE k.held)),.d (.sl (aO k.marks)),.d (.sl (aE k.inbox))],oR 100 9 1 (aV (yL k))]) ?_ ?_
 · refine sq (rT [1,3,25] (s3 (cd rfl (fun c25=> ?_) fun c25=> ?_)))
   · have hq:=aCg (of_decide_eq_true c25)
     have hnl2: (vQ k).length≤1:=by unfold vQ;split<;>simp
     refine rT [1,3] (s3 (xp (uS k.next (by omega)) (ai rfl ?_)))
     refine ai (by show _≤9223372036854775807;(try simp only[aW0,aW3,aW2]);omega) (s1 (ai (by refine⟨rfl,aJ _,by simp,?_⟩;skip;show(_+1)*16≤_;omega) (s1 (wq [] [] (rfl) ?_))))
     repeat' apply ai
     all_goals first|exact qx|exact congrArg D.i (by rw[aC (by omega)];omega)|(rw[hq];done)|(rw[hq];rfl)|(rw[hq,aW0];rfl)|(rw[hq,aW0];done)|(rw[hq];simp[aJ];done)|(rw[hq];exact fC _ _)|(rw[aJ];done)|(simp[aJ];done)|exact qz
   have hq:=aGp (of_decide_eq_false c25)
   refine sk (wq [] [] (rfl) ?_)
   repeat' apply ai
   all_goals first|exact qx|exact congrArg D.i (by rw[aC (by omega)];omega)|(rw[hq];done)|(rw[hq];rfl)|(rw[hq,aW0];rfl)|(rw[hq,aW0];done)|(rw[hq];simp[aJ];done)|(rw[hq];exact fC _ _)|(rw[aJ];done)|(simp[aJ];done)|exact qz
 rintro s rfl
 refine sq (sq (rT [1,3,34,35,36] (s4 (bk (SW.loopW (n:=k.marks.length) (fun m q=> ∃i:Nat,m=k.marks.length - i∧i≤k.marks.length∧q=[tP 1 1,tO 3 100 (oL k (i)).length,tD 34 (.sl (aO k.marks)),tI 35 (k.marks.length:Nat),tI 36 (i:Nat),oB 1 32 [.d (.i k.id),.d (.i k.time),.d (.i k.next),.d (.sl (aE k.held)),.d (.sl (aO k.marks)),.d (.sl (aE k.inbox))],oR 100 9 1 (aV (oL k (i)))]) ?_ ?_)))))
 · refine wq (σ':=[tP 1 1,tO 3 100 (oL k (0)).length,tD 34 (.sl (aO k.marks)),tI 35 (k.marks.length:Nat),tI 36 (0:Nat),oB 1 32 [.d (.i k.id),.d (.i k.time),.d (.i k.next),.d (.sl (aE k.held)),.d (.sl (aO k.marks)),.d (.sl (aE k.inbox))],oR 100 9 1 (aV (oL k (0)))]) [] [] (⟨0,rfl,aW6 _,rfl⟩) ?_
   repeat' apply ai
   all_goals first|exact qx|rfl|(rw[xf];done)|(rw[aF];done)|(rw[aB];done)|exact qz
 rintro n s ⟨i,rfl,hi,rfl⟩
 refine sq (rT [1,3,34,35,36,37] (s1 (sq (cd rfl (fun c37=> ?_) fun c37=> ?_))))
 · have hi2:i<k.marks.length:=by simp[aF] at c37;omega
   have hg:=bW (l:=k.marks) hi2
   have hms:=xo hok hi2
   have hml:=xm k i
   have w1:=bS (k:=6) (n:=(k.marks.getD i .zero).frm.toNat) (by show _<10000000;omega)
   have w2:=bS (k:=6) (n:=(k.marks.getD i .zero).num.toNat) (by show _<10000000;omega)
   have w3:=bS (k:=6) (n:=(k.marks.getD i .zero).til.toNat) (by show _<10000000;omega)
   refine sk (sq (bk (sq (rT [1,3,5,34,35,36] (ai (by rw[aWz,hg];exact⟨⟨by omega,by rw[aF];omega⟩,rfl⟩) (ai (by rw[aWz,hg];exact⟨aW1 rfl,rfl⟩) (s2 (wa [tP 1 1,tO 3 100 (oL k (i)).length,tD 34 (.sl (aO k.marks)),tI 35 (k.marks.length:Nat),tI 36 (i:Nat),tP 5 5,oB 1 32 [.d (.i k.id),.d (.i k.time),.d (.i k.next),.d (.sl (aE k.held)),.d (.sl (aO k.marks)),.d (.sl (aE k.inbox))],oB 5 112 [.d (.i ((k.marks.getD i .zero)).frm),.d (.i ((k.marks.getD i .zero)).num),.d (.i ((k.marks.getD i .zero)).til)],oR 100 9 1 (aV (oL k (i)))] [] [] ?_ ?_))))))))
   · repeat' apply ai
     all_goals first|exact qx|(rw[aWz,hg];rfl)|exact qz
   refine rT [1,3,34,35,36] (s7 (xp (qe iD (k.marks.getD i .zero).frm (k.marks.getD i .zero).num (k.marks.getD i .zero).til (by omega) (by decide)) (ai rfl ?_)))
   refine s1 (ai (by refine⟨rfl,aJ _,by simp,?_⟩;skip;show(_+1)*16≤_;omega) (s1 (rT [1,3,34,35,36] (s2 ?_))))
   have hq:=xi hi2
   refine wq [] [] (⟨k.marks.length - (i+1),by omega,i+1,rfl,by omega,rfl⟩) ?_
   repeat' apply ai
   all_goals first|exact qx|exact congrArg D.i (by rw[aC (by omega)];omega)|(rw[hq];done)|(rw[hq];rfl)|(rw[hq,aW0];rfl)|(rw[hq,aW0];done)|(rw[hq];simp[aJ];done)|(rw[hq];exact fC _ _)|(rw[aJ];done)|(simp[aJ];done)|exact qz
 have hi3:i=k.marks.length:=by simp[aF] at c37;omega
 subst hi3
 clear hi
 refine xt (sq (sq (rT [1,3,52,53,54] (s4 (bk (SW.loopW (n:=k.held.length) (fun m q=> ∃i:Nat,m=k.held.length - i∧i≤k.held.length∧q=[tP 1 1,tO 3 100 (pV k (i)).length,tD 52 (.sl (aE k.held)),tI 53 (k.held.length:Nat),tI 54 (i:Nat),oB 1 32 [.d (.i k.id),.d (.i k.time),.d (.i k.next),.d (.sl (aE k.held)),.d (.sl (aO k.marks)),.d (.sl (aE k.inbox))],oR 100 9 1 (aV (pV k (i)))]) ?_ ?_))))))
 · refine wq (σ':=[tP 1 1,tO 3 100 (pV k (0)).length,tD 52 (.sl (aE k.held)),tI 53 (k.held.length:Nat),tI 54 (0:Nat),oB 1 32 [.d (.i k.id),.d (.i k.time),.d (.i k.next),.d (.sl (aE k.held)),.d (.sl (aO k.marks)),.d (.sl (aE k.inbox))],oR 100 9 1 (aV (pV k (0)))]) [] [] (⟨0,rfl,aW6 _,rfl⟩) ?_
   repeat' apply ai
   all_goals first|exact qx|rfl|(rw[xg];done)|(rw[aF];done)|(rw[aB];done)|exact qz
 rintro n s ⟨i,rfl,hi,rfl⟩
 refine sq (rT [1,3,52,53,54,55] (s1 (sq (cd rfl (fun c55=> ?_) fun c55=> ?_))))
 · have hi2:i<k.held.length:=by simp[aB] at c55;omega
   have hg:=aR (l:=k.held) hi2
   have hmem: (k.held.getD i .zero)∈k.held:=dG hi2
   have hnt:=hk.2.1 _ hmem
   have hwl:=nQ (k.held.getD i .zero)
   have hml:=xn k i
   refine sk (sq (bk (sq (rT [1,3,7,52,53,54] (ai (by rw[aWz,hg];exact⟨⟨by omega,by rw[aB];omega⟩,rfl⟩) (ai (by rw[aWz,hg];exact⟨aW1 rfl,rfl⟩) (s2 (wa [tP 1 1,tO 3 100 (pV k (i)).length,tD 52 (.sl (aE k.held)),tI 53 (k.held.length:Nat),tI 54 (i:Nat),tP 7 7,oB 1 32 [.d (.i k.id),.d (.i k.time),.d (.i k.next),.d (.sl (aE k.held)),.d (.sl (aO k.marks)),.d (.sl (aE k.inbox))],oB 7 58 [.d (.i ((k.held.getD i .zero)).frm),.d (.i ((k.held.getD i .zero)).num),.d (.i ((k.held.getD i .zero)).to),.d (.i ((k.held.getD i .zero)).til),.d (.s ((k.held.getD i .zero)).text)],oR 100 9 1 (aV (pV k (i)))] [] [] ?_ ?_))))))))
   · repeat' apply ai
     all_goals first|exact qx|(rw[aWz,hg];rfl)|exact qz
   refine rT [1,3,52,53,54] (s2 (xp (sH (k.held.getD i .zero) hnt) (ai rfl ?_)))
   refine ai (by show _≤9223372036854775807;(try simp only[aW0,aW3,aW2]);omega) (s1 (ai (by refine⟨rfl,aJ _,by simp,?_⟩;skip;show(_+1)*16≤_;omega) (s1 (rT [1,3,52,53,54] (s2 ?_)))))
   have hq:=xj hi2
   refine wq [] [] (⟨k.held.length - (i+1),by omega,i+1,rfl,by omega,rfl⟩) ?_
   repeat' apply ai
   all_goals first|exact qx|exact congrArg D.i (by rw[aC (by omega)];omega)|(rw[hq];done)|(rw[hq];rfl)|(rw[hq,aW0];rfl)|(rw[hq,aW0];done)|(rw[hq];simp[aJ];done)|(rw[hq];exact fC _ _)|(rw[aJ];done)|(simp[aJ];done)|exact qz
 have hi3:i=k.held.length:=by simp[aB] at c55;omega
 subst hi3
 clear hi
 refine xt (sq (sq (rT [3,66,67,68] (s4 (bk (SW.loopW (n:=k.inbox.length) (fun m q=> ∃i:Nat,m=k.inbox.length - i∧i≤k.inbox.length∧q=[tO 3 100 (oM k (i)).length,tD 66 (.sl (aE k.inbox)),tI 67 (k.inbox.length:Nat),tI 68 (i:Nat),oB 1 32 [.d (.i k.id),.d (.i k.time),.d (.i k.next),.d (.sl (aE k.held)),.d (.sl (aO k.marks)),.d (.sl (aE k.inbox))],oR 100 9 1 (aV (oM k (i)))]) ?_ ?_))))))
 · refine wq (σ':=[tO 3 100 (oM k (0)).length,tD 66 (.sl (aE k.inbox)),tI 67 (k.inbox.length:Nat),tI 68 (0:Nat),oB 1 32 [.d (.i k.id),.d (.i k.time),.d (.i k.next),.d (.sl (aE k.held)),.d (.sl (aO k.marks)),.d (.sl (aE k.inbox))],oR 100 9 1 (aV (oM k (0)))]) [] [] (⟨0,rfl,aW6 _,rfl⟩) ?_
   repeat' apply ai
   all_goals first|exact qx|rfl|(rw[xh];done)|(rw[aF];done)|(rw[aB];done)|exact qz
 rintro n s ⟨i,rfl,hi,rfl⟩
 refine sq (rT [3,66,67,68,69] (s1 (sq (cd rfl (fun c69=> ?_) fun c69=> ?_))))
 · have hi2:i<k.inbox.length:=by simp[aB] at c69;omega
   have hg:=aR (l:=k.inbox) hi2
   have hmem: (k.inbox.getD i .zero)∈k.inbox:=dG hi2
   have hnt:=hk.2.2 _ hmem
   have hwl:=nQ (k.inbox.getD i .zero)
   have hml:=md k i
   refine sk (sq (bk (sq (rT [3,9,66,67,68] (ai (by rw[aWz,hg];exact⟨⟨by omega,by rw[aB];omega⟩,rfl⟩) (ai (by rw[aWz,hg];exact⟨aW1 rfl,rfl⟩) (s2 (wa [tO 3 100 (oM k (i)).length,tD 66 (.sl (aE k.inbox)),tI 67 (k.inbox.length:Nat),tI 68 (i:Nat),tP 9 9,oB 1 32 [.d (.i k.id),.d (.i k.time),.d (.i k.next),.d (.sl (aE k.held)),.d (.sl (aO k.marks)),.d (.sl (aE k.inbox))],oB 9 58 [.d (.i ((k.inbox.getD i .zero)).frm),.d (.i ((k.inbox.getD i .zero)).num),.d (.i ((k.inbox.getD i .zero)).to),.d (.i ((k.inbox.getD i .zero)).til),.d (.s ((k.inbox.getD i .zero)).text)],oR 100 9 1 (aV (oM k (i)))] [] [] ?_ ?_))))))))
   · repeat' apply ai
     all_goals first|exact qx|(rw[aWz,hg];rfl)|exact qz
   refine rT [3,66,67,68] (s2 (xp (sH (k.inbox.getD i .zero) hnt) (ai rfl ?_)))
   refine ai (by show _≤9223372036854775807;(try simp only[aW0,aW3,aW2]);omega) (s1 (ai (by refine⟨rfl,aJ _,by simp,?_⟩;skip;show(_+1)*16≤_;omega) (s1 (rT [3,66,67,68] (s2 ?_)))))
   have hq:=xk hi2
   refine wq [] [] (⟨k.inbox.length - (i+1),by omega,i+1,rfl,by omega,rfl⟩) ?_
   repeat' apply ai
   all_goals first|exact qx|exact congrArg D.i (by rw[aC (by omega)];omega)|(rw[hq];done)|(rw[hq];rfl)|(rw[hq,aW0];rfl)|(rw[hq,aW0];done)|(rw[hq];simp[aJ];done)|(rw[hq];exact fC _ _)|(rw[aJ];done)|(simp[aJ];done)|exact qz
 have hi3:i=k.inbox.length:=by simp[aB] at c69;omega
 subst hi3
 clear hi
 have hil:=md k k.inbox.length
 refine xt (sq (rT [2] (s1 (bE (robj:=[(100,.row 9 1 (aV (oM k k.inbox.length)))]) (rl:=[(0,80)]) (bor:=[100]) (aq (oM k k.inbox.length) (by omega)) rfl rfl rfl rfl ⟨eW rfl rfl rfl (aJ _) rfl trivial,rfl⟩ rfl (.inr (tn _)) (aK ⟨rfl,trivial⟩) (fun j hj=>by(obtain rfl:j=0:=by simpa[jV,cA,iH] using hj);rfl) (s1 (rt (eC _ [] [80] rfl (eW rfl rfl rfl ?_ (congrArg D.sl ?_) trivial) rfl rfl)))))))
 · exact aJ _
 rw[af hok]
theorem aA1 (k:aH) (hl:k.log.length≤140737488355328):Sp 85 1 [tV 0 k.V] [tV 0 ((jY k).V)]:=by
 refine sb Tryz.func85 rfl (sq (rT [1,2] (s2 (sq (rT [1,2] (s2 (xp (mu k.log k.forced hl) (ai rfl ?_))))))))
 refine s2 (sq (rT [2] (s2 (rt (bO rfl rfl ?_)))))
 rfl
set_option maxHeartbeats 1600000 in
theorem mY (k:aH) (rec:List UInt8) (fc:Bool) (hok:aT k=true) (hrec:rec.length≤900000):Sp 94 3 [tV 0 k.V,tD 1 (.s rec),tB 2 fc] [tV 0 (.tup [.agg [.d (.i ((fX k rec fc).1).id),.d (.b ((fX k rec fc).1).up),.d (.s ((fX k rec fc).1).log),.d (.i ((fX k rec fc).1).forced),.d (.sl (aX ((fX k rec fc).1).halves))],.c (.d (.b (fX k rec fc).2))])]:=by
 have hlg:=eQ hok
 have hkb:=qW hok
 have hrs:=nR (k:=(bC k).1)
 have hsk:dP k.log k.forced=true:=(fL hlg.1).2.1
 have hpl:=ja (k:=k) (by omega)
 refine sb Tryz.func94 rfl (sq (rT [1,2,3,6] (s3 (sq (rT [1,2,3,6,8] (s1 (xp (hZ k (by omega)) (ai rfl ?_))))))))
 refine s6 (sq (rT [1,2,3,6,8,11] (s2 (xp (gx (bC k).1 rec hkb hrec) (ai rfl ?_)))))
 refine s6 (sq (sq (rT [1,2,3,6,8,26] (s2 (cd rfl (fun c26=> ?_) fun c26=> ?_)))))
 · have h1: ¬(dA (bC k).1 rec).2=true:=by rw[← fj];exact oN c26
   refine sq (rT [6,7] (s3 (rt ?_)))
   have hr:fX k rec fc=(k,false):=by rw[fX,aKn h1];rfl
   refine bO rfl rfl ?_
   rw[hr]
   rfl
 have h1: (dA (bC k).1 rec).2=true:=by rw[← fj];exact iY c26
 refine sk (sq (rT [1,2,3,6,8,12,13] (s3 (xp (mX k.log k.forced rec (by omega) hrec) (ai rfl ?_)))))
 refine s6 (sq (sq (rT [1,2,3,6,8,12,13,36] (s2 (cd rfl (fun c36=> ?_) fun c36=> ?_)))))
 · have h2: ¬(aZ k.log k.forced rec).2=true:=oN c36
   refine sq (rD [1,2,3,6,12] (s3 (xp (br (bC k).1 hkb) (ai rfl ?_))))
   refine xp (yO k.log k.forced (eE (bC k).1) (by omega) (by omega) (fun r hr=>by have:=hrs.2 r hr;omega)) (ai rfl ?_)
   refine s4 (ai (by kernel_rfl) (rT [2,3,6,12,13] (s2 (xp (mX (dK k).1.1 (dK k).1.2 rec hpl hrec) (ai rfl ?_)))))
   refine s5 (sq (sq (rT [2,3,6,12,52] (s2 (cd rfl (fun c52=> ?_) fun c52=> ?_)))))
   · refine sq (rT [6,7] (s3 (rt ?_)))
     first
     |exact absurd (c36.symm.trans c52) (by decide)
     |(have hr:=(show fX k rec fc=(k,false) by rw[fX,xq hsk h1 h2 (oN c52)];rfl)
       refine bO rfl rfl ?_
       rw[hr]
       rfl)
   refine sk (sq (sq (rT [3,6,12,54] (s1 (cd rfl (fun c54=> ?_) fun c54=> ?_)))))
   · obtain rfl:=c54
     refine rT [3,6,12] (s1 ?_)
     first
     |refine kf (iT (aZ (dK k).1.1 (dK k).1.2 rec).1.1 (aZ (dK k).1.1 (dK k).1.2 rec).1.2 (oG hpl)) rfl rfl rfl rfl rfl rfl rfl rfl ?_
     |refine kf (iT (aZ k.log k.forced rec).1.1 (aZ k.log k.forced rec).1.2 (oG (by omega))) rfl rfl rfl rfl rfl rfl rfl rfl ?_
     refine s1 (sq (rT [3,6] (s3 (sq (rT [6,7] (s3 (rt ?_)))))))
     have hlr:pX k rec=(kG k (aZ (dK k).1.1 (dK k).1.2 rec).1,true)∨pX k rec=(kG k (aZ k.log k.forced rec).1,true):=by
      first
      |exact .inl (nS hsk h1 h2 (iY c52))
      |exact .inr (tJ h1 h2)
     first
     |(have hr:=nS hsk h1 h2 (iY c52)
       refine bO rfl rfl ?_
       rw[fX,hr]
       rfl)
     |(have hr:=tJ h1 h2
       refine bO rfl rfl ?_
       rw[fX,hr]
       rfl)
   obtain rfl:=c54
   refine sk (sq (rT [3,6] (s3 (sq (rT [6,7] (s3 (rt ?_)))))))
   have hlr:pX k rec=(kG k (aZ (dK k).1.1 (dK k).1.2 rec).1,true)∨pX k rec=(kG k (aZ k.log k.forced rec).1,true):=by
    first
    |exact .inl (nS hsk h1 h2 (iY c52))
    |exact .inr (tJ h1 h2)
   first
   |(have hr:=nS hsk h1 h2 (iY c52)
     refine bO rfl rfl ?_
     rw[fX,hr]
     rfl)
   |(have hr:=tJ h1 h2
     refine bO rfl rfl ?_
     rw[fX,hr]
     rfl)
 have h2: (aZ k.log k.forced rec).2=true:=iY c36
 refine sk (sq (sq (rT [2,3,6,12,52] (s2 (cd rfl (fun c52=> ?_) fun c52=> ?_)))))
 · refine sq (rT [6,7] (s3 (rt ?_)))
   first
   |exact absurd (c36.symm.trans c52) (by decide)
   |(have hr:=(show fX k rec fc=(k,false) by rw[fX,xq hsk h1 h2 (oN c52)];rfl)
     refine bO rfl rfl ?_
     rw[hr]
     rfl)
 refine sk (sq (sq (rT [3,6,12,54] (s1 (cd rfl (fun c54=> ?_) fun c54=> ?_)))))
 · obtain rfl:=c54
   refine rT [3,6,12] (s1 ?_)
   first
   |refine kf (iT (aZ (dK k).1.1 (dK k).1.2 rec).1.1 (aZ (dK k).1.1 (dK k).1.2 rec).1.2 (oG hpl)) rfl rfl rfl rfl rfl rfl rfl rfl ?_
   |refine kf (iT (aZ k.log k.forced rec).1.1 (aZ k.log k.forced rec).1.2 (oG (by omega))) rfl rfl rfl rfl rfl rfl rfl rfl ?_
   refine s1 (sq (rT [3,6] (s3 (sq (rT [6,7] (s3 (rt ?_)))))))
   have hlr:pX k rec=(kG k (aZ (dK k).1.1 (dK k).1.2 rec).1,true)∨pX k rec=(kG k (aZ k.log k.forced rec).1,true):=by
    first
    |exact .inl (nS hsk h1 h2 (iY c52))
    |exact .inr (tJ h1 h2)
   first
   |(have hr:=nS hsk h1 h2 (iY c52)
     refine bO rfl rfl ?_
     rw[fX,hr]
     rfl)
   |(have hr:=tJ h1 h2
     refine bO rfl rfl ?_
     rw[fX,hr]
     rfl)
 obtain rfl:=c54
 refine sk (sq (rT [3,6] (s3 (sq (rT [6,7] (s3 (rt ?_)))))))
 have hlr:pX k rec=(kG k (aZ (dK k).1.1 (dK k).1.2 rec).1,true)∨pX k rec=(kG k (aZ k.log k.forced rec).1,true):=by
  first
  |exact .inl (nS hsk h1 h2 (iY c52))
  |exact .inr (tJ h1 h2)
 first
 |(have hr:=nS hsk h1 h2 (iY c52)
   refine bO rfl rfl ?_
   rw[fX,hr]
   rfl)
 |(have hr:=tJ h1 h2
   refine bO rfl rfl ?_
   rw[fX,hr]
   rfl)
set_option maxHeartbeats 1600000 in
theorem my (k:aH) (hl:k.log.length≤140737488355328):Sp 46 1 [tV 0 k.V] [tV 0 (.tup [.agg [.d (.i ((eA k).1).id),.d (.b ((eA k).1).up),.d (.s ((eA k).1).log),.d (.i ((eA k).1).forced),.d (.sl (aX ((eA k).1).halves))],.c (.d (.b (eA k).2))])]:=by
 refine sb Tryz.func46 rfl (sq (rT [1,2] (s3 (sq (sq (rT [1,2,8] (s1 (xp (eL k hl) (ai rfl ?_)))))))))
 refine s1 (cd rfl (fun c8=> ?_) fun c8=> ?_)
 · have hno: ¬aT k=true:=oN c8
   refine sq (rT [2,3] (s3 (rt ?_)))
   have hr:eA k=(.zero,false):=xu hno
   rw[hr]
   exact rq [] [] rfl qz
 have hok:aT k=true:=iY c8
 have hlg:=eQ hok
 have hK:=kL hok
 have h6:=eK (gU hok)
 have hkb:=qW hok
 have hsk:dP k.log k.forced=true:=(fL hlg.1).2.1
 obtain⟨⟨_,htm,hnx,_⟩,_⟩:=(cC _).1 (gU hok)
 have hrl:=dg (n:=((bC k).1.time+1).toNat) (by omega)
 have hdl:=bS (k:=6) (n:=((bC k).1.time+1).toNat) (by show _<10000000;omega)
 have hw:wrap64 ((bC k).1.time+1)=(bC k).1.time+1:=aC (by omega)
 refine sk (sq (rT [1,2,4] (s1 (xp (hZ k (by omega)) (ai rfl ?_)))))
 refine s6 (sq (sq (rT [1,2,4,22] (s4 (y3 (ai pk (cd rfl (fun c22=> ?_) fun c22=> ?_)))))))
 · have hr0:eA k=(k,false):=by
    by_cases hu:k.up=true
    · rw[hu] at c22
      exact sv hok (of_decide_eq_true (by simpa using c22))
    · exact bg hok hu
   refine sq (rT [2,3] (s1 (xp (gH k (⟨by omega,fun x hx=>by have:=hlg.2.2.2.2.2 x hx;omega⟩)) (ai rfl ?_))))
   refine s2 (rt ?_)
   have hr:=hr0
   refine bO rfl rfl ?_
   rw[hr]<;>rfl
 have hu:k.up=true:=by
  cases hq:k.up with
  |true=>rfl
  |false=>rw[hq] at c22;cases c22
 refine sk (sq (rD [2,3] (s1 (xp (gH k (⟨by omega,fun x hx=>by have:=hlg.2.2.2.2.2 x hx;omega⟩)) (ai rfl ?_)))))
 refine s3 (xp (kR ((bC k).1.time+1) (by omega)) (ai (by rw[hw];rfl) ?_))
 refine ai (by show _≤9223372036854775807;(try simp only[aW0,aW3,aW2]);omega) (xp (mY k (lL ((bC k).1.time+1).toNat) true hok (by omega)) (ai rfl ?_))
 refine s4 (ai (by kernel_rfl) (rt ?_))
 have hr:=gn hok hu
 refine bO rfl rfl ?_
 rw[hr]<;>rfl
set_option maxHeartbeats 1600000 in
theorem qf (k:aH) (tu til:Int) (tx:List UInt8) (hl:k.log.length≤140737488355328) (htx:tx.length≤140737488355328):Sp 42 4 [tV 0 k.V,tI 1 tu,tI 2 til,tD 3 (.s tx)] [tV 0 (.tup [.agg [.d (.i ((dX k tu til tx).1).id),.d (.b ((dX k tu til tx).1).up),.d (.s ((dX k tu til tx).1).log),.d (.i ((dX k tu til tx).1).forced),.d (.sl (aX ((dX k tu til tx).1).halves))],.c (.d (.i (dX k tu til tx).2))])]:=by
 refine sb Tryz.func42 rfl (sq (rT [1,2,3,4,8] (s3 (sq (sq (rT [1,2,3,4,8,17] (s1 (xp (eL k hl) (ai rfl ?_)))))))))
 refine s1 (cd rfl (fun c17=> ?_) fun c17=> ?_)
 · have hno: ¬aT k=true:=oN c17
   refine sq (rT [8,9] (s3 (rt ?_)))
   have hr:dX k tu til tx=(.zero,0):=aAg hno
   rw[hr]
   exact rq [] [] rfl qz
 have hok:aT k=true:=iY c17
 have hlg:=eQ hok
 have hK:=kL hok
 have h6:=eK (gU hok)
 have hkb:=qW hok
 have hsk:dP k.log k.forced=true:=(fL hlg.1).2.1
 obtain⟨⟨_,htm,hnx,_⟩,_⟩:=(cC _).1 (gU hok)
 have hnl:=nQ (pD k tu til tx)
 have hrl:=wO kE (pD k tu til tx)
 have hwo:kE.length=3:=rfl
 refine sk (sq (rT [1,2,3,4,8,10] (s1 (xp (hZ k (by omega)) (ai rfl ?_)))))
 refine s6 (sq (rT [4,8,10,12] (s8 (xp (kN (pD k tu til tx) htx) (ai rfl ?_)))))
 refine s1 (sq (sq (rT [4,8,10,12,39] (s4 (y2 (ai pk (cd rfl (fun c39=> ?_) fun c39=> ?_)))))))
 · have hr0:dX k tu til tx=(k,0):=by
    by_cases hu:k.up=true
    · rw[hu] at c39
      exact xw hok (by simpa using c39)
    · exact xv hok hu
   refine sq (rT [8,9] (s1 (xp (gH k (⟨by omega,fun x hx=>by have:=hlg.2.2.2.2.2 x hx;omega⟩)) (ai rfl ?_))))
   refine s2 (rt ?_)
   have hr:=hr0
   refine bO rfl rfl ?_
   rw[hr]<;>rfl
 have hu:k.up=true:=by
  cases hq:k.up with
  |true=>rfl
  |false=>rw[hq] at c39;cases c39
 refine sk (sq (rT [4,8,10,13,14] (s1 (xp (gH k (⟨by omega,fun x hx=>by have:=hlg.2.2.2.2.2 x hx;omega⟩)) (ai rfl ?_)))))
 refine s1 (ai (by show _≤9223372036854775807;(try simp only[aW0,aW3,aW2]);omega) (xp (mY k (eH kE (pD k tu til tx)) true hok (by omega)) (ai rfl ?_)))
 refine s6 (sq (sq (rT [4,8,10,13,51] (s2 (cd rfl (fun c51=> ?_) fun c51=> ?_)))))
 · have hq: ¬(iZ k (eH kE (pD k tu til tx))).2=true:=oN c51
   have hr0:dX k tu til tx=_:=mf hok hq
   refine sq (rT [8,9] (s1 (xp (gH k (⟨by omega,fun x hx=>by have:=hlg.2.2.2.2.2 x hx;omega⟩)) (ai rfl ?_))))
   refine s2 (rt ?_)
   have hr:=hr0
   refine bO rfl rfl ?_
   rw[hr]<;>rfl
 have hq: (iZ k (eH kE (pD k tu til tx))).2=true:=iY c51
 refine sk (sq (rD [8,9] (s5 (ai (by kernel_rfl) (rt ?_)))))
 have hr:=aD1 hok hu hq
 refine bO rfl rfl ?_
 rw[hr]<;>rfl
set_option maxHeartbeats 1600000 in
theorem qg (k:aH) (f n:Int) (hl:k.log.length≤140737488355328):Sp 54 3 [tV 0 k.V,tI 1 f,tI 2 n] [tV 0 (.tup [.agg [.d (.i ((cO k f n).1).id),.d (.b ((cO k f n).1).up),.d (.s ((cO k f n).1).log),.d (.i ((cO k f n).1).forced),.d (.sl (aX ((cO k f n).1).halves))],.agg [.d (.i ((cO k f n).2.1).frm),.d (.i ((cO k f n).2.1).num),.d (.i ((cO k f n).2.1).to),.d (.i ((cO k f n).2.1).til),.d (.s ((cO k f n).2.1).text)],.c (.d (.b (cO k f n).2.2))])]:=by
 refine sb Tryz.func54 rfl (sq (rT [1,2,3,6,7] (s4 (sq (sq (rT [1,2,3,6,7,16] (s1 (xp (eL k hl) (ai rfl ?_)))))))))
 refine s1 (cd rfl (fun c16=> ?_) fun c16=> ?_)
 · have hno: ¬aT k=true:=oN c16
   refine sq (rT [6,7,8] (s5 (rt ?_)))
   have hr:cO k f n=(.zero,.zero,false):=aAh hno
   rw[hr]
   exact rq [] [] rfl qz
 have hok:aT k=true:=iY c16
 have hlg:=eQ hok
 have hK:=kL hok
 have h6:=eK (gU hok)
 have hkb:=qW hok
 have hsk:dP k.log k.forced=true:=(fL hlg.1).2.1
 obtain⟨⟨_,htm,hnx,_⟩,_⟩:=(cC _).1 (gU hok)
 refine sk (sq (rT [1,2,3,6,7,9] (s1 (xp (hZ k (by omega)) (ai rfl ?_)))))
 refine s6 (sq (rT [1,2,3,6,7,9,11] (s4 (xp (gG (bC k).1.inbox f n (by have:=h6.1;omega)) (ai rfl ?_)))))
 refine s1 (sq (sq (rT [1,2,3,6,7,9,11,35] (s4 (y2 (ai pk (cd rfl (fun c35=> ?_) fun c35=> ?_)))))))
 · have hcn: ¬(k.up=true∧0≤aW (bC k).1.inbox f n):=by
    rintro⟨hu,hp⟩
    rw[hu,decide_eq_false (show ¬aW (bC k).1.inbox f n<0 by omega)] at c35
    cases c35
   have hr0:=aD2 hok hcn
   refine sq (rT [6,7,8] (s1 (xp (gH k (⟨by omega,fun x hx=>by have:=hlg.2.2.2.2.2 x hx;omega⟩)) (ai rfl ?_))))
   refine s4 (rt ?_)
   have hr:=hr0
   refine bO rfl rfl ?_
   rw[hr]<;>rfl
 have hcy:k.up=true∧0≤aW (bC k).1.inbox f n:=by
  have h9:=c35
  skip
  cases hu:k.up with
  |false=>rw[hu] at h9;cases h9
  |true=>
   rw[hu] at h9
   refine⟨rfl,?_⟩
   by_cases hp:aW (bC k).1.inbox f n<0
   · rw[decide_eq_true hp] at h9;cases h9
   · omega
 obtain⟨j,hj,hjl,hjb⟩:=xy hok hcy.2
 have hg:=aR (l:=(bC k).1.inbox) hjl
 have her:zZ k f n=kV mS ⟨f,n,((bC k).1.inbox.getD j .zero).til⟩:=by rw[zZ,hj,aWz]
 have hrl:=df (w:=mS) (m:=⟨f,n,((bC k).1.inbox.getD j .zero).til⟩) hjb
 have hwe:mS.length=3:=rfl
 have d1:=bS (k:=6) (n:=f.toNat) (by show _<10000000;omega)
 have d2:=bS (k:=6) (n:=n.toNat) (by show _<10000000;omega)
 have d3:=bS (k:=6) (n:=((bC k).1.inbox.getD j .zero).til.toNat) (by show _<10000000;omega)
 refine sk (sq (rD [3,6,7,9,11,12,13] (s1 (xp (gH k (⟨by omega,fun x hx=>by have:=hlg.2.2.2.2.2 x hx;omega⟩)) (ai rfl ?_)))))
 refine s5 (ai (by rw[hj,aWz,hg];exact⟨⟨by omega,by rw[aB];omega⟩,rfl⟩) (s1 (ai (by rw[hj,aWz,hg];exact⟨aW1 rfl,rfl⟩) (xp (bq f n ((bC k).1.inbox.getD j .zero).til hjb) (ai (by rw[hj,aWz,hg];rfl) ?_)))))
 refine ai (by show _≤9223372036854775807;(try simp only[aW0,aW3,aW2]);omega) (xp (mY k (kV mS ⟨f,n,((bC k).1.inbox.getD j .zero).til⟩) true hok (by omega)) (ai rfl ?_))
 refine s6 (ai (by kernel_rfl) (sq (sq (rT [3,6,7,9,11,12,56] (s2 (cd rfl (fun c56=> ?_) fun c56=> ?_))))))
 · have hq: ¬(iZ k (zZ k f n)).2=true:=by rw[her];exact oN c56
   have hr0:=xx hok hcy hq
   refine sq (rT [6,7,8] (s1 (xp (gH k (⟨by omega,fun x hx=>by have:=hlg.2.2.2.2.2 x hx;omega⟩)) (ai rfl ?_))))
   refine s4 (rt ?_)
   have hr:=hr0
   refine bO rfl rfl ?_
   rw[hr]<;>rfl
 have hq: (iZ k (zZ k f n)).2=true:=by rw[her];exact iY c56
 have hr0:=aD3 hok hcy hq
 rw[her,hj,aWz] at hr0
 refine sk (sq (rD [6,7,8] (s4 (ai (by rw[hj,aWz,hg];exact⟨⟨by omega,by rw[aB];omega⟩,rfl⟩) (ai (by rw[hj,aWz,hg];exact⟨aW1 rfl,rfl⟩) (s3 (ai (by kernel_rfl) (rt (bO rfl rfl ?_)))))))))
 rw[hr0,hj,aWz,hg]
 rfl
set_option maxHeartbeats 1600000 in
theorem mz (k:aH) (hl:k.log.length≤140737488355328):Sp 38 1 [tV 0 k.V] [tV 0 (.tup [.agg [.d (.i ((bU k).1).id),.d (.b ((bU k).1).up),.d (.s ((bU k).1).log),.d (.i ((bU k).1).forced),.d (.sl (aX ((bU k).1).halves))],.c (.d (.b (bU k).2))])]:=by
 refine sb Tryz.func38 rfl (sq (rT [1,2] (s3 (sq (sq (rT [1,2,9] (s1 (xp (iV k hl) (ai rfl ?_)))))))))
 refine s1 (cd rfl (fun c9=> ?_) fun c9=> ?_)
 · have hno: ¬aT k=true:=oN c9
   refine sq (rT [2,3] (s3 (rt ?_)))
   have hr:bU k=(.zero,false):=dh hno
   rw[hr]
   exact rq [] [] rfl qz
 have hok:aT k=true:=iY c9
 have hlg:=eQ hok
 have hK:=kL hok
 have h6:=eK (gU hok)
 have hkb:=qW hok
 have hsk:dP k.log k.forced=true:=(fL hlg.1).2.1
 obtain⟨⟨_,htm,hnx,_⟩,_⟩:=(cC _).1 (gU hok)
 have hrs:=nR (k:=(bC k).1)
 refine sk (sq (rT [1,2,4] (s1 (xp (rI k (⟨by omega,fun x hx=>by have:=hlg.2.2.2.2.2 x hx;omega⟩)) (ai rfl ?_)))))
 refine s2 (sq (sq (rT [1,2,4,15] (s3 (cd rfl (fun c15=> ?_) fun c15=> ?_)))))
 · have hu: ¬k.up=true:=oN c15
   refine sq (rT [2,3] (s3 (rt ?_)))
   have hr:=bh hok hu
   refine bO rfl rfl ?_
   rw[hr]<;>rfl
 have hu:k.up=true:=iY c15
 refine sk (sq (rD [2,4,5,6] (s3 (xp (fM k hl) (ai rfl ?_)))))
 refine xp (bs (bC k).1 hkb) (ai (by rw[hK];rfl) ?_)
 refine xp (qd k.log k.forced (eE (bC k).1) (by omega) (by have:=hrs.1;omega) (fun r hr=>by have:=hrs.2 r hr;omega)) (ai rfl ?_)
 refine s6 (ai (by kernel_rfl) (sq (rT [2,4,6] (s3 (sq (rT [2,3] (s4 (rt ?_))))))))
 have hr:=xz hok hsk hu
 refine bO rfl rfl ?_
 rw[hr]<;>rfl
set_option maxHeartbeats 1600000 in
theorem wT (k:aH) (hl:k.log.length≤140737488355328):Sp 37 1 [tV 0 k.V] [tV 0 (.tup [.agg [.d (.i ((bU k).1).id),.d (.b ((bU k).1).up),.d (.s ((bU k).1).log),.d (.i ((bU k).1).forced),.d (.sl (aX ((bU k).1).halves))],.c (.d (.b (bU k).2))])]:=by
 refine sb Tryz.func37 rfl (sq (rT [1,2] (s3 (sq (sq (rT [1,2,11] (s1 (xp (eL k hl) (ai rfl ?_)))))))))
 refine s1 (cd rfl (fun c11=> ?_) fun c11=> ?_)
 · have hno: ¬aT k=true:=oN c11
   refine sq (rT [2,3] (s3 (rt ?_)))
   have hr:bU k=(.zero,false):=dh hno
   rw[hr]
   exact rq [] [] rfl qz
 have hok:aT k=true:=iY c11
 have hlg:=eQ hok
 have hK:=kL hok
 have h6:=eK (gU hok)
 have hkb:=qW hok
 have hsk:dP k.log k.forced=true:=(fL hlg.1).2.1
 obtain⟨⟨_,htm,hnx,_⟩,_⟩:=(cC _).1 (gU hok)
 have hrs:=nR (k:=(bC k).1)
 refine sk (sq (rT [1,2,4] (s1 (xp (gH k (⟨by omega,fun x hx=>by have:=hlg.2.2.2.2.2 x hx;omega⟩)) (ai rfl ?_)))))
 refine s2 (sq (rT [1,2,4,5] (s1 (xp (hZ k (by omega)) (ai rfl ?_)))))
 refine s6 (sq (rD [1,2,4,7,8] (s3 (xp (br (bC k).1 hkb) (ai rfl ?_)))))
 refine xp (yO k.log k.forced (eE (bC k).1) (by omega) (by have:=hrs.1;omega) (fun r hr=>by have:=hrs.2 r hr;omega)) (ai rfl ?_)
 refine s6 (ai (by kernel_rfl) (sq (sq (rT [2,4,7,34] (s4 (y2 (ai pk (cd rfl (fun c34=> ?_) fun c34=> ?_))))))))
 · have hr0:bU k=(k,false):=by
    by_cases hu:k.up=true
    · rw[hu] at c34
      exact go hok (oN c34)
    · exact bh hok hu
   refine sq (rT [2,3] (s3 (rt ?_)))
   have hr:=hr0
   refine bO rfl rfl ?_
   rw[hr]<;>rfl
 have hu:k.up=true:=by
  cases hq:k.up with
  |true=>rfl
  |false=>rw[hq] at c34;cases c34
 have hp: (dK k).2=true:=by
  rw[hu] at c34
  exact iY c34
 refine sk (sq (rT [2,4] (s3 (sq (rT [2,3] (s3 (rt ?_)))))))
 have hr:=gp hok hu hp
 refine bO rfl rfl ?_
 rw[hr]<;>rfl
set_option maxHeartbeats 1600000 in
theorem aA2 (b:Int) (m:hP) (kn:List (List UInt8)) (hk:bw b kn) (hm:m.data.length=4):Sp 244 3 [tI 0 b,tV 1 m.V,tD 2 (.sl (aV kn))] [tV 0 (.tup [.c (.own 0 (jM kn (cT b m.num)).length),.c (.d (.s (qX kn m.data (cT b m.num))))]),oR 0 3 1 (cZ (jM kn (cT b m.num)))]:=by
 refine sb Tryz.func244 rfl (sq (rT [0,2,4] (s3 (sq (rT [0,2,4,8] (s2 (sq (rT [0,2,4,8,9] (s3 (sq (rT [2,8,9,10] (s3 (xp (mv b m.num) (ai rfl ?_))))))))))))))
 refine s1 (sq (sq (rT [2,8,9,10,11] (s1 (bk (SW.loopW (n:=(cT b m.num).length) (fun q s=> ∃i:Nat,q=(cT b m.num).length - i∧i≤(cT b m.num).length∧s=[tD 2 (.sl (aV kn)),tO 8 12 (jM kn ((cT b m.num).take i)).length,tD 9 (.s (qX kn m.data ((cT b m.num).take i))),tD 10 (.sl (cZ (cT b m.num))),tI 11 (i:Nat),oR 12 3 1 (cZ (jM kn ((cT b m.num).take i)))]) ?_ ?_))))))
 · refine wq (σ':=[tD 2 (.sl (aV kn)),tO 8 12 (jM kn ((cT b m.num).take 0)).length,tD 9 (.s (qX kn m.data ((cT b m.num).take 0))),tD 10 (.sl (cZ (cT b m.num))),tI 11 (0:Nat),oR 12 3 1 (cZ (jM kn ((cT b m.num).take 0)))]) [] [] (⟨0,rfl,aW6 _,rfl⟩) ?_
   repeat' apply ai
   all_goals first|exact qx|rfl|exact qz
 rintro n s ⟨i,rfl,hi,rfl⟩
 refine sq (sq (rT [2,8,9,10,11,22] (s4 (cd rfl (fun c22=> ?_) fun c22=> ?_))))
 · have hi2:i< (cT b m.num).length:=by simp[cK] at c22;omega
   have hml:=lw b m.num
   have hts:=eR (z:=(0:Int)) hi2
   have hio:=gL (l:=(cT b m.num)) (i:=i) hi2
   have hjr:=wM ((cT b m.num).getD i 0) (dG hi2)
   have hkl:=hk.1
   have hj3: ((cT b m.num).getD i 0)< (kn.length:Int):=by omega
   have hv:=aRf (l:=kn) hjr.1 hj3
   have hat:=hk.at (j:=((cT b m.num).getD i 0).toNat) (by omega)
   refine sk (sq (bk (sq (rT [2,8,9,10,11,32] (s3 (ai (by rw[aWz,hio];exact⟨⟨by omega,by rw[cK];omega⟩,rfl⟩) (ai (by rw[aWz,hio];exact⟨aW1 rfl,rfl⟩) (ai (by rw[aWz,hio];exact ixS hjr.1 hj3) (ai (by rw[aWz,hio];exact ldS hjr.1 hj3) (s1 (cd rfl (fun c32=> ?_) fun c32=> ?_)))))))))))
   · have hu:unk kn ((cT b m.num).getD i 0)=true:=by
      have h9:=c32
      rw[aWz,hio] at h9
      have h9: (toS (((aV kn).getD ((cT b m.num).getD i 0).toNat []).getD 0 (.i 0))==[])=true:=h9
      rw[hv] at h9
      unfold unk;rw[beq_iff_eq.1 h9];rfl
     have hL:=ya (ks:=(cT b m.num).take i) hu
     have hX:=aMt (x:=m.data) (ks:=(cT b m.num).take i) hu
     refine rT [2,8,9,10,11] (s3 (ai (by rw[aWz,hio];exact⟨⟨by omega,by rw[cK];omega⟩,rfl⟩) (ai (by rw[aWz,hio];exact⟨aW1 rfl,rfl⟩) (s1 (ai (by refine⟨rfl,cK _,by simp,?_⟩;have h9: (jM kn ((cT b m.num).take i)).length≤6:=Nat.le_trans (List.length_filter_le _ _) (by rw[aW5];omega);show(_+1)*8≤_;omega) (s1 (rT [2,8,9,10,11] (s3 (wq [] [] (⟨(cT b m.num).length - (i+1),by omega,i+1,rfl,by omega,rfl⟩) ?_)))))))))
     repeat' apply ai
     all_goals first|exact qx|exact congrArg D.i (by rw[aC (by omega)];omega)|(rw[hts,hL,aW0];rfl)|(rw[hts,hL,aWz,hio];exact oA _ _)|(rw[hts,hL];done)|(rw[hts,hX];done)|(rw[hts,hL,aW0];done)|(simp[cK];done)|(rw[hts,hL];simp[cK];done)|exact qz
   have hne: ¬(kn.getD ((cT b m.num).getD i 0).toNat [])=[]:=by
    have h9:=c32
    rw[aWz,hio] at h9
    have h9: (toS (((aV kn).getD ((cT b m.num).getD i 0).toNat []).getD 0 (.i 0))==[])=false:=h9
    rw[hv] at h9
    exact beq_eq_false_iff_ne.1 h9
   have hu:unk kn ((cT b m.num).getD i 0)=false:=by unfold unk;simpa using hne
   have h4: (kn.getD ((cT b m.num).getD i 0).toNat []).length=4:=by rcases hat with h9|h9;exact absurd (List.eq_nil_of_length_eq_zero h9) hne;exact h9
   have hL:=aAi (ks:=(cT b m.num).take i) hu
   have hX:=aPg (x:=m.data) (ks:=(cT b m.num).take i) hu
   refine rT [2,8,9,10,11] (s4 (ai (by rw[aWz,hio];exact⟨⟨by omega,by rw[cK];omega⟩,rfl⟩) (ai (by rw[aWz,hio];exact⟨aW1 rfl,rfl⟩) (ai (by rw[aWz,hio];exact ixS hjr.1 hj3) (ai (by rw[aWz,hio];exact ldS hjr.1 hj3) (xp (mw (qX kn m.data ((cT b m.num).take i)) (kn.getD ((cT b m.num).getD i 0).toNat []) (aj hm) h4) (ai (by rw[aWz,hio];exact(congrArg (fun z=>eV 0 [Dv (.s (qX kn m.data ((cT b m.num).take i))),Dv (.s z)]) hv).symm) ?_)))))))
   refine s1 (rT [2,8,9,10,11] (s3 (wq [] [] (⟨(cT b m.num).length - (i+1),by omega,i+1,rfl,by omega,rfl⟩) ?_)))
   repeat' apply ai
   all_goals first|exact qx|exact congrArg D.i (by rw[aC (by omega)];omega)|(rw[hts,hL,aW0];rfl)|(rw[hts,hL,aWz,hio];exact oA _ _)|(rw[hts,hL];done)|(rw[hts,hX];done)|(rw[hts,hL,aW0];done)|(simp[cK];done)|(rw[hts,hL];simp[cK];done)|exact qz
 have hi3:i=(cT b m.num).length:=by simp[cK] at c22;omega
 subst hi3
 refine xt (sq (rT [6,7] (s4 (rt ?_))))
 rw[aXf]
 exact eC _ [(0,12)] [] rfl ⟨⟨_,rfl,⟨rfl,rfl,_,_,_,rfl⟩,rfl,trivial⟩,bV rfl rfl trivial⟩ rfl rfl
theorem aRy (kn:List (List UInt8)) (ks:List Int) (x:List UInt8):mM [tV 0 (.tup [.c (.own 0 (jM kn ks).length),.c (.d (.s (qX kn x ks)))]),oR 0 3 1 (cZ (jM kn ks))]:=by
 intro p hp
 simp at hp
 rcases hp with rfl|rfl
 · first|trivial|(simp[mM];done)|(intro c hc;simp at hc;rcases hc with rfl|rfl<;>trivial)|exact⟨trivial,trivial,trivial⟩
 intro r hr d hd
 obtain⟨y,_,rfl⟩:=aXd.1 hr
 simp at hd;subst hd;trivial
set_option maxHeartbeats 3200000 in
theorem yq (b:Int) (l:List hP) (hl:l.length≤1000000):Sp 243 2 [tI 0 b,tD 1 (.sl (cM l))] [tD 0 (.sl (aV (eI b l)))]:=by
 refine sb Tryz.func243 rfl (sq (rT [0,1] (s1 (sq (sq (rT [0,1,12] (s1 (xp (dM _ _ _) (ai rfl ?_)))))))))
 refine s1 (cd rfl (fun c12=> ?_) fun c12=> ?_)
 · have hno: ¬iK b 1 6=true:=by simpa using c12
   refine sq (rT [4] (s2 (rt (eC _ [] [13] rfl (eW rfl rfl rfl ?_ (congrArg D.sl ?_) trivial) rfl rfl))))
   · rfl
   rw[aJc hno];rfl
 have hin:iK b 1 6=true:=by simpa using c12
 have hb:1≤b∧b≤6:=by simpa[iK] using hin
 have hst:=bw.start (b:=b) (by omega)
 refine sk (sq (rT [0,1,5] (s1 (ai (by refine⟨rfl,by omega,?_⟩;show((16:Nat):Int)*_≤_;omega) (s1 (sq (rT [0,1,5,6] (s1 (sq (bk (SW.loopW (n:=uN (List.replicate b.toNat ([]:List UInt8))+1) (fun q s=> ∃(kn:List (List UInt8)) (ag:Bool),q=(if ag then uN kn+1 else 0)∧bw b kn∧(ag=true→sE b l 7 kn=eI b l)∧(ag=false→kn=eI b l)∧s=[tI 0 b,tD 1 (.sl (cM l)),tO 5 15 b.toNat,tB 6 (ag),oR 15 9 1 (aV (kn))]) ?_ ?_)))))))))))
 · refine wq (σ':=[tI 0 b,tD 1 (.sl (cM l)),tO 5 15 b.toNat,tB 6 (true),oR 15 9 1 (aV (List.replicate b.toNat []))]) [] [] (⟨_,true,rfl,hst,fun _=>(if_pos hin).symm,fun h=>(by cases h),rfl⟩) ?_
   repeat' apply ai
   all_goals first|exact qx|rfl|(simp[aV];done)|exact qz
 rintro n s ⟨kn,ag,rfl,hk,hp1,hp2,rfl⟩
 refine sq (sq (rT [0,1,5,16] (s1 (cd rfl (fun c16=> ?_) fun c16=> ?_))))
 · have hag:ag=true:=c16
   have hgo:=hp1 hag
   refine sk (bk (sq (rT [0,1,5,6] (s1 (sq (rT [0,1,5,6,7] (s1 (bk (SW.loopW (n:=l.length) (fun q s=> ∃i:Nat,q=l.length - i∧i≤l.length∧s=[tI 0 b,tD 1 (.sl (cM l)),tO 5 15 b.toNat,tB 6 (cR b (l.take i) (kn,false)).2,tI 7 (i:Nat),oR 15 9 1 (aV ((cR b (l.take i) (kn,false)).1))]) ?_ ?_)))))))))
   · refine wq (σ':=[tI 0 b,tD 1 (.sl (cM l)),tO 5 15 b.toNat,tB 6 (cR b (l.take 0) (kn,false)).2,tI 7 (0:Nat),oR 15 9 1 (aV ((cR b (l.take 0) (kn,false)).1))]) [] [] (⟨0,rfl,aW6 _,rfl⟩) ?_
     repeat' apply ai
     all_goals first|exact qx|rfl|exact qz
   rintro n s ⟨i,rfl,hi,rfl⟩
   refine sq (sq (rT [0,1,5,6,7,20] (s4 (cd rfl (fun c20=> ?_) fun c20=> ?_))))
   · have hi2:i<l.length:=by simp[bG] at c20;omega
     have hg:=mB (l:=l) hi2
     have hki:=(sF (l:=l.take i) (s:=(kn,false)) hk).1
     have hsn:=mh (b:=b) (m:=(l.getD i .zero)) (l:=l.take i) (s:=(kn,false))
     rw[← eR (z:=hP.zero) hi2] at hsn
     have hkl:=hki.1
     refine sk (sq (bk (sq (sq (rT [0,1,5,6,7,29] (s3 (ai (by rw[aWz,hg];exact⟨⟨by omega,by rw[bG];omega⟩,rfl⟩) (ai (by rw[aWz,hg];exact⟨aW1 rfl,rfl⟩) (xp (ec b (l.getD i .zero)) (ai (by rw[aWz,hg];rfl) ?_))))))))))
     refine s1 (cd rfl (fun c29=> ?_) fun c29=> ?_)
     · have hmx:wP b (l.getD i .zero)=false:=aCk c29
       have hpo:jI b (cR b (l.take i) (kn,false)).1 (l.getD i .zero)=((cR b (l.take i) (kn,false)).1,false):=by unfold jI;rw[hmx];rfl
       rw[hpo] at hsn
       refine xt (rT [0,1,5,6,7] (s3 (wq [] [] (⟨l.length - (i+1),by omega,i+1,rfl,by omega,rfl⟩) ?_)))
       repeat' apply ai
       all_goals first|exact qx|exact congrArg D.i (by rw[aC (by omega)];omega)|(rw[hsn];done)|(rw[hsn,Bool.or_false];done)|(rw[hsn,Bool.or_true];done)|(rw[hsn];rw[show(0:Int).toNat=0 from rfl,hL0];exact aD4 (j:=((jM (cR b (l.take i) (kn,false)).1 (cT b (l.getD i .zero).num)).getD 0 0).toNat) (by omega))|exact qz
     have hmx:wP b (l.getD i .zero)=true:=aCk c29
     have hm4: (l.getD i .zero).data.length=4:=aGt hmx
     refine sk (sq (rT [0,1,5,6,7,8,9] (s3 (ai (by rw[aWz,hg];exact⟨⟨by omega,by rw[bG];omega⟩,rfl⟩) (ai (by rw[aWz,hg];exact⟨aW1 rfl,rfl⟩) (s1 (bE (robj:=[(15,.row 9 1 (aV (cR b (l.take i) (kn,false)).1))]) (rl:=[(0,37)]) (bor:=[15]) (aA2 b (l.getD i .zero) (cR b (l.take i) (kn,false)).1 hki hm4) rfl rfl rfl rfl (by refine⟨cJ rfl rfl (dN rfl ?_ (eW rfl rfl rfl (by rw[aJ];omega) rfl trivial)),rfl⟩;rw[aWz,hg];exact aD rfl (aD rfl trivial)) rfl (.inr (aRy _ _ _)) (aK ⟨rfl,trivial⟩) (fun j hj=>by(obtain rfl:j=0:=by simpa[jV,cA,iH] using hj);rfl) ?_)))))))
     refine s5 (sq (rT [0,1,5,6,7,8,9,42] (s1 (ai (by exact cK _) (s1 (cd rfl (fun c42=> ?_) fun c42=> ?_))))))
     · have hlen: (jM (cR b (l.take i) (kn,false)).1 (cT b (l.getD i .zero).num)).length=1:=aU1 c42
       have hL0:=gL (l:=(jM (cR b (l.take i) (kn,false)).1 (cT b (l.getD i .zero).num))) (i:=0) (by omega)
       have hpo:jI b (cR b (l.take i) (kn,false)).1 (l.getD i .zero)=((cR b (l.take i) (kn,false)).1.set ((jM (cR b (l.take i) (kn,false)).1 (cT b (l.getD i .zero).num)).getD 0 0).toNat (qX (cR b (l.take i) (kn,false)).1 (l.getD i .zero).data (cT b (l.getD i .zero).num)),true):=by unfold jI;rw[hmx,hlen];rfl
       rw[hpo] at hsn
       have hlr:=wM _ (aCj (dG (z:=(0:Int)) (l:=(jM (cR b (l.take i) (kn,false)).1 (cT b (l.getD i .zero).num))) (i:=0) (by omega))).1
       have hsg:=fB (l:=(cR b (l.take i) (kn,false)).1) (i:=((jM (cR b (l.take i) (kn,false)).1 (cT b (l.getD i .zero).num)).getD 0 0).toNat) (by omega)
       refine sq (rT [0,1,5,7] (s2 (ai (by exact⟨by rw[cK],by omega,by omega⟩) (ai (by rw[show(0:Int).toNat=0 from rfl,hL0];exact⟨⟨by rw[cK],by omega⟩,aXa _,rfl⟩) (s1 (ai (by rw[show(0:Int).toNat=0 from rfl,hL0];exact⟨by rw[aJ];omega,hlr.1,by have h9: (jM (cR b (l.take i) (kn,false)).1 (cT b (l.getD i .zero).num)).getD 0 0<b:=hlr.2;show(jM (cR b (l.take i) (kn,false)).1 (cT b (l.getD i .zero).num)).getD 0 0< ((b.toNat:Nat):Int);omega⟩) (ai (by rw[show(0:Int).toNat=0 from rfl,hL0];refine⟨by rw[aJ];omega,?_⟩;show((jM (cR b (l.take i) (kn,false)).1 (cT b (l.getD i .zero).num)).getD 0 0).toNat<_∧_∧0+_≤((aV (cR b (l.take i) (kn,false)).1).getD ((jM (cR b (l.take i) (kn,false)).1 (cT b (l.getD i .zero).num)).getD 0 0).toNat []).length;rw[hsg];exact⟨by omega,rfl,aXa _⟩) (rT [0,1,5,6,7] (s1 (rT [0,1,5,6,7] (s3 (wq [] [] (⟨l.length - (i+1),by omega,i+1,rfl,by omega,rfl⟩) ?_))))))))))))
       repeat' apply ai
       all_goals first|exact qx|exact congrArg D.i (by rw[aC (by omega)];omega)|(rw[hsn];done)|(rw[hsn,Bool.or_false];done)|(rw[hsn,Bool.or_true];done)|(rw[hsn];rw[show(0:Int).toNat=0 from rfl,hL0];exact aD4 (j:=((jM (cR b (l.take i) (kn,false)).1 (cT b (l.getD i .zero).num)).getD 0 0).toNat) (by omega))|exact qz
     have hlen: ¬(jM (cR b (l.take i) (kn,false)).1 (cT b (l.getD i .zero).num)).length=1:=aJa c42
     have hpo:jI b (cR b (l.take i) (kn,false)).1 (l.getD i .zero)=((cR b (l.take i) (kn,false)).1,false):=by unfold jI;rw[hmx,beq_eq_false_iff_ne.2 hlen];rfl
     rw[hpo] at hsn
     refine sk (rT [0,1,5,6,7] (s3 (wq [] [] (⟨l.length - (i+1),by omega,i+1,rfl,by omega,rfl⟩) ?_)))
     repeat' apply ai
     all_goals first|exact qx|exact congrArg D.i (by rw[aC (by omega)];omega)|(rw[hsn];done)|(rw[hsn,Bool.or_false];done)|(rw[hsn,Bool.or_true];done)|(rw[hsn];rw[show(0:Int).toNat=0 from rfl,hL0];exact aD4 (j:=((jM (cR b (l.take i) (kn,false)).1 (cT b (l.getD i .zero).num)).getD 0 0).toNat) (by omega))|exact qz
   have hi3:i=l.length:=by simp[bG] at c20;omega
   subst hi3
   clear hi
   refine xt ?_
   rw[aXf]
   cases hrr: (cR b l (kn,false)).2 with
   |true=>
    obtain⟨g1,g2,g3⟩:=aRr hb.2 hk hrr
    refine wk [tI 0 b,tD 1 (.sl (cM l)),tO 5 15 b.toNat,tB 6 (true),oR 15 9 1 (aV ((cR b l (kn,false)).1))] [] [] (⟨_,by rw[hag];simpa using g2,_,true,rfl,g3,fun _=>by rw[← g1];exact hgo,fun h=>(by cases h),rfl⟩) ?_ rfl rfl
    repeat' first|exact trivial|refine lO rfl ?_|refine cJ rfl ?_ ?_|refine jD rfl rfl ?_ rfl ?_|refine bV rfl ?_ ?_|refine bR rfl rfl rfl rfl ?_|refine aU rfl ?_ ?_|refine dN rfl ?_ ?_|exact aL|refine aD ?_ ?_|refine jQ ?_|refine bP rfl ?_ rfl ?_|refine eJ rfl rfl rfl ?_
    all_goals first|with_reducible rfl|(first|with_reducible rfl|(rw[hrr];done))
   |false=>
    have ge:=aPh hrr
    refine wk [tI 0 b,tD 1 (.sl (cM l)),tO 5 15 b.toNat,tB 6 (false),oR 15 9 1 (aV ((cR b l (kn,false)).1))] [] [] (⟨_,by rw[hag];simp,_,false,rfl,(sF (l:=l) (s:=(kn,false)) hk).1,fun h=>(by cases h),fun _=>by rw[← ge];exact hgo,rfl⟩) ?_ rfl rfl
    repeat' first|exact trivial|refine lO rfl ?_|refine cJ rfl ?_ ?_|refine jD rfl rfl ?_ rfl ?_|refine bV rfl ?_ ?_|refine bR rfl rfl rfl rfl ?_|refine aU rfl ?_ ?_|refine dN rfl ?_ ?_|exact aL|refine aD ?_ ?_|refine jQ ?_|refine bP rfl ?_ rfl ?_|refine eJ rfl rfl rfl ?_
    all_goals first|with_reducible rfl|(first|with_reducible rfl|(rw[hrr];done))
 have hag:ag=false:=c16
 have hfin:=hp2 hag
 refine xt (sq (rT [4] (s2 (rt (eC _ [] [15] rfl (eW rfl rfl rfl ?_ (congrArg D.sl ?_) trivial) rfl rfl)))))
 · rw[aJ];have:=hk.1;omega
 rw[hfin]
set_option maxHeartbeats 800000 in
theorem yr (size:Int) (l:List hP) (hl:l.length≤1000000):Sp 240 2 [tI 0 size,tD 1 (.sl (cM l))] [tV 0 (.tup [.c (.d (.s (dZ size l).1)),.c (.d (.b (dZ size l).2))])]:=by
 refine sb Tryz.func240 rfl (sq (rT [0,1] (s2 (sq (sq (rT [0,1,12] (s1 (xp (dM _ _ _) (ai rfl ?_)))))))))
 refine s1 (cd rfl (fun c12=> ?_) fun c12=> ?_)
 · have hno: ¬iK size 1 24=true:=by simpa using c12
   refine sq (rT [4,5] (s2 (rt ?_)))
   have hr:=aGx (l:=l) hno
   refine bO rfl rfl ?_
   rw[hr]<;>rfl
 have hin:iK size 1 24=true:=by simpa using c12
 have hs2:1≤size∧size≤24:=by simpa[iK] using hin
 have hko:=aJb (b:=(size+3) / 4) (l:=l) (by omega)
 have hk1:=hko.1
 have hle:=fun i=>aGu hko.2 (i:=i)
 refine sk (sq (rT [0,6] (s1 (xp (pE size (by omega)) (ai rfl ?_)))))
 refine s1 (xp (yq ((size+3) / 4) l hl) (ai rfl ?_))
 refine s1 (sq (rT [0,6,7] (s1 (sq (sq (rT [0,6,7,8] (s1 (bk (SW.loopW (n:=(eI ((size+3) / 4) l).length) (fun q s=> ∃i:Nat,q=(eI ((size+3) / 4) l).length - i∧i≤(eI ((size+3) / 4) l).length∧(∀j,j<i→((eI ((size+3) / 4) l).getD j []).length≠0)∧s=[tI 0 size,tD 6 (.sl (aV (eI ((size+3) / 4) l))),tD 7 (.s (wQ (eI ((size+3) / 4) l) (i))),tI 8 (i:Nat)]) ?_ ?_)))))))))
 · refine wq (σ':=[tI 0 size,tD 6 (.sl (aV (eI ((size+3) / 4) l))),tD 7 (.s (wQ (eI ((size+3) / 4) l) (0))),tI 8 (0:Nat)]) [] [] (⟨0,rfl,aW6 _,fun j h=>absurd h (by omega),rfl⟩) ?_
   repeat' apply ai
   all_goals first|exact qx|rfl|exact qz
 rintro n s ⟨i,rfl,hi,hk,rfl⟩
 refine sq (sq (rT [0,6,7,8,20] (s4 (cd rfl (fun c20=> ?_) fun c20=> ?_))))
 · have hi2:i< (eI ((size+3) / 4) l).length:=by simp[aJ] at c20;omega
   have hg:=fB (l:=(eI ((size+3) / 4) l)) hi2
   have hsu:=jc hi2
   have hli:=hle i
   have h4:=hko.at hi2
   refine sk (sq (bk (sq (sq (rT [0,6,7,8,27] (s2 (ai (by rw[aWz,hg];exact⟨⟨by omega,by rw[aJ];omega⟩,rfl⟩) (ai (by rw[aWz,hg];exact⟨aW1 rfl,rfl⟩) (s1 (cd rfl (fun c27=> ?_) fun c27=> ?_))))))))))
   · have he: (eI ((size+3) / 4) l).getD i []=[]:=by
      have h9:=c27
      rw[aWz,hg] at h9
      exact beq_iff_eq.1 h9
     refine sq (rT [4,5] (s2 (rt ?_)))
     have hr:=aD7 hin (aAj hi2 he)
     refine bO rfl rfl ?_
     rw[hr]<;>rfl
   have hs: ((eI ((size+3) / 4) l).getD i []).length≠0:=by
    have h9:=c27
    rw[aWz,hg] at h9
    intro e
    rw[List.eq_nil_of_length_eq_zero e] at h9
    exact absurd h9 (by decide)
   refine sk (rT [0,6,7,8] (s3 (ai (by rw[aWz,hg];exact⟨⟨by omega,by rw[aJ];omega⟩,rfl⟩) (ai (by rw[aWz,hg];exact⟨aW1 rfl,rfl⟩) (ai (by rw[aWz,hg];show _+((eI ((size+3) / 4) l).getD i []).length≤9223372036854775807;omega) (s1 (rT [0,6,7,8] (s3 (wq [] [] (⟨(eI ((size+3) / 4) l).length - (i+1),by omega,i+1,rfl,by omega,fun j h=>by by_cases e:j=i;exact e▸hs;exact hk j (by omega),rfl⟩) ?_)))))))))
   repeat' apply ai
   all_goals first|exact qx|exact congrArg D.i (by rw[aC (by omega)];omega)|(rw[hsu,aWz,hg];rfl)|exact qz
 have hi3:i=(eI ((size+3) / 4) l).length:=by simp[aJ] at c20;omega
 subst hi3
 have hae:=aD5 hk
 have hal:=aGv hko.2 (aXa _) hk
 rw[aCl] at hal
 clear hi hk
 refine xt (sq (sq (rT [0,7,9] (s2 (bk (SW.loopW (n:=(qY (eI ((size+3) / 4) l)).length - size.toNat) (fun q s=> ∃i:Nat,q=(qY (eI ((size+3) / 4) l)).length - i∧(size.toNat≤i∧i≤(qY (eI ((size+3) / 4) l)).length)∧(∀j,size.toNat≤j→j<i→(qY (eI ((size+3) / 4) l)).getD j 0=0)∧s=[tI 0 size,tD 7 (.s (qY (eI ((size+3) / 4) l))),tI 9 (i:Nat)]) ?_ ?_))))))
 · have hss:size.toNat≤(qY (eI ((size+3) / 4) l)).length:=by omega
   refine wq [] [] (⟨size.toNat,rfl,by omega,fun j h1 h2=>absurd h1 (by omega),rfl⟩) ?_
   repeat' apply ai
   all_goals first|exact qx|exact congrArg D.i (by omega)|(rw[aCl];done)|exact qz
 rintro n s ⟨i,rfl,hi,hk,rfl⟩
 refine sq (sq (rT [0,7,9,38] (s4 (cd rfl (fun c38=> ?_) fun c38=> ?_))))
 · have hi2:i< (qY (eI ((size+3) / 4) l)).length:=by simp at c38;omega
   refine sk (sq (bk (sq (rT [0,7,9,44] (s2 (ai (by omega) (s1 (cd rfl (fun c44=> ?_) fun c44=> ?_))))))))
   · have hnz: (qY (eI ((size+3) / 4) l)).getD i 0≠0:=by
      intro e
      have h9:=c44
      rw[aWz,e] at h9
      exact absurd h9 (by decide)
     refine sq (rT [4,5] (s2 (rt ?_)))
     have hr:=aD8 hin hae (aD6 hi.1 hi2 hnz)
     refine bO rfl rfl ?_
     rw[hr]<;>rfl
   have hs: (qY (eI ((size+3) / 4) l)).getD i 0=0:=by
    have h9:=c44
    rw[aWz] at h9
    have h11: (((qY (eI ((size+3) / 4) l)).getD i 0).toNat:Int)=0:=by simpa only[bne_eq_false_iff_eq] using h9
    apply UInt8.toNat_inj.1
    have h6: (0:UInt8).toNat=0:=rfl
    omega
   refine sk (rT [0,7,9] (s3 (wq [] [] (⟨(qY (eI ((size+3) / 4) l)).length - (i+1),by omega,i+1,rfl,by omega,fun j h1 h2=>by by_cases e:j=i;exact e▸hs;exact hk j h1 (by omega),rfl⟩) ?_)))
   repeat' apply ai
   all_goals first|exact qx|exact congrArg D.i (by rw[aC (by omega)];omega)|exact qz
 have hi3:i=(qY (eI ((size+3) / 4) l)).length:=by simp at c38;omega
 have hz:=aGw (n:=size.toNat) (fun j h1 h2=>hk j h1 (by omega))
 refine xt (sq (rT [4,5] (s2 (ai (by simp[qp,eY,gI];omega) (s2 (rt ?_))))))
 have hr:=aGy hin hae hz
 refine bO rfl rfl ?_
 rw[hr]<;>rfl
theorem ee (f:cH):Sp 231 1 [tV 0 f.V] [tB 0 (eM f)]:=by
 refine sb Tryz.func231 rfl (sq (rT [1] (s2 (sq (sq (rT [1,42] (s2 (xp (dM _ _ _) (ai rfl ?_)))))))))
 refine s2 (y2 (xc (fun h=>(dF _)) (ai rfl (ai rk ?_))))
 refine y1 (ai pk (s1 (y2 (xc (fun h=>(dF _)) (ai rfl (ai rk ?_))))))
 refine y1 (ai pk (s1 (y2 (xc (fun h=>(dF _)) (ai rfl (ai rk ?_))))))
 refine y1 (ai pk (s1 (y2 (xc (fun h=>(dF _)) (ai rfl (ai rk ?_))))))
 refine y1 (ai pk (s1 (y2 (xc (fun h=>(dM _ _ _)) (ai rfl (ai rk ?_))))))
 refine y1 (ai pk (s1 (y2 (xc (fun h=>(dM _ _ _)) (ai rfl (ai rk ?_))))))
 refine y1 (ai pk (cd rfl (fun c42=> ?_) fun c42=> ?_))
 · refine sq (rT [2] (s1 (rt (bJ rfl (congrArg D.b (Bool.eq_iff_iff.2 ?_))))))
   simp only[eM,gb,aW4,Bool.or_eq_false_iff,Bool.not_eq_false,Bool.or_eq_true,Bool.not_eq_true,beq_iff_eq,decide_eq_true_eq,bne_iff_ne,Bool.not_eq_true,List.length_eq_zero_iff,beq_eq_false_iff_ne,bne_eq_false_iff_eq] at*
   grind[iK]
 refine sk (sq (sq (rT [1,45] (s3 (cd rfl (fun c45=> ?_) fun c45=> ?_)))))
 · refine sq (rD [2] (s4 (xp (tY _ _) (ai rfl ?_))))
   refine s4 (y3 (ai pk (s1 (y3 (ai pk (s1 (y3 (ai pk (s1 (ai (by kernel_rfl) (rt (bJ rfl (congrArg D.b (Bool.eq_iff_iff.2 ?_))))))))))))))
   simp only[eM,gb,aW4,Bool.or_eq_false_iff,Bool.not_eq_false,Bool.or_eq_true,Bool.not_eq_true,beq_iff_eq,decide_eq_true_eq,bne_iff_ne,Bool.not_eq_true,List.length_eq_zero_iff,beq_eq_false_iff_ne,bne_eq_false_iff_eq] at*
   grind[iK]
 refine sk (sq (rD [2] (s4 (xp (tY _ _) (ai rfl ?_)))))
 refine s4 (y2 (xc (fun h=>(dM _ _ _)) (ai rfl (ai rk ?_))))
 refine ai pk (s1 (y2 (xc (fun h=>(dM _ _ _)) (ai rfl (ai rk ?_)))))
 refine ai pk (s1 (y4 (ai pk (s1 (ai (by kernel_rfl) (rt (bJ rfl (congrArg D.b (Bool.eq_iff_iff.2 ?_)))))))))
 simp only[eM,gb,aW4,Bool.or_eq_false_iff,Bool.not_eq_false,Bool.or_eq_true,Bool.not_eq_true,beq_iff_eq,decide_eq_true_eq,bne_iff_ne,Bool.not_eq_true,List.length_eq_zero_iff,beq_eq_false_iff_ne,bne_eq_false_iff_eq] at*
 grind[iK]
theorem bt (l:List UInt8) (hl:l.length≤140737488355328):Sp 237 1 [tD 0 (.sl (aA l))] [tI 0 (fq l l.length:Nat)]:=by
 refine sb Tryz.func237 rfl (sq (rT [0] (s1 (sq (rT [0,3] (s1 (sq (sq (rT [0,3,4] (s1 (bk (SW.loopW (n:=l.length) (fun n s=> ∃i:Nat,n=l.length - i∧i≤l.length∧s=[tD 0 (.sl (aA l)),tI 3 (fq l i:Nat),tI 4 (i:Nat)]) ?_ ?_))))))))))))
 · refine wq (σ':=[tD 0 (.sl (aA l)),tI 3 (0:Nat),tI 4 (0:Nat)]) [] [] (⟨0,rfl,aW6 _,rfl⟩) ?_
   repeat' apply ai
   all_goals first|exact qx|(simp[aS];done)|exact qz
 rintro n s ⟨i,rfl,hi,rfl⟩
 refine sq (sq (rT [0,3,4,8] (s4 (cd rfl (fun c8=> ?_) fun c8=> ?_))))
 · refine sk (sq (bk (rT [0,3,4] (s2 (ai (by decide) (s3 (ai (by have hb:=jJ (l:=l) (i:=i) (by simpa[aS] using c8);refine⟨⟨by omega,by simpa[aS] using c8⟩,?_⟩;simp only[aWz];rw[hb];rfl) (ai (by have hb:=jJ (l:=l) (i:=i) (by simpa[aS] using c8);simp only[aWz];rw[hb];exact⟨aXa _,rfl⟩) (s3 (ai (by decide) (s1 (rT [0,3,4] (s3 ?_)))))))))))))
   have hi2:i<l.length:=by simpa[aS] using c8
   have hb:=jJ (l:=l) (i:=i) hi2
   refine wq [] [] (⟨l.length - (i+1),by omega,i+1,rfl,by omega,rfl⟩) ?_
   repeat' apply ai
   all_goals first|exact qx|(rw[aWz,hb];exact congrArg D.i (vf l i))|(rw[hb];exact congrArg D.i (vf l i))|(exact congrArg D.i (aC (by omega)))|exact qz
 refine xt (sq (rT [2] (s2 (rt (bJ rfl ?_)))))
 have e:i=l.length:=by simp[aS] at c8;omega
 subst e;rfl
theorem vV (l:List UInt8): ∀r∈aA l,r.length=1:=by
 intro r hr
 obtain⟨b,_,rfl⟩:=aXd.1 hr
 rfl
theorem sX (l:List UInt8) (n:Int) (hl:l.length≤1073741824) (hn:0≤n∧n<65536):Sp 236 2 [tO 0 0 l.length,tI 1 n,oR 0 5 1 (aA l)] [tO 0 0 (l++two n).length,oR 0 5 1 (aA (l++two n))]:=by
 refine sb Tryz.func236 rfl (sq (rT [0,1] (s1 (sq (rT [4] (s8 (ai (by refine⟨rfl,by simp[aS],by simp,?_⟩;show(_+2)*1≤_;omega) (s1 (rt (rq [] [] rfl ?_))))))))))
 repeat' apply ai
 all_goals try exact qx
 all_goals first|(simp[aS,two];done)|(rw[aOp hn,gQ])
theorem sI (f:cH):Sp 230 1 [tV 0 f.V] [tO 0 0 (pS f).length,oR 0 5 1 (aA (pS f))]:=by
 refine sb Tryz.func230 rfl (sq (rT [1] (s2 (sq (rT [1,3] (s2 (sq (sq (rT [1,3,7] (s1 (xp (ee _) (ai rfl ?_))))))))))))
 refine s1 (cd rfl (fun c7=> ?_) fun c7=> ?_)
 · refine sq (rT [2] (s2 (rt (rq [(0,4)] [] rfl ?_))))
   repeat' apply ai
   all_goals try exact qx
   all_goals(simp at c7;simp[pS,c7,aA])
 have hok:eM f=true:=by simpa using c7
 obtain⟨k1,k2,k3,k4,k5,k6,k7,k8⟩:=lX hok
 have hlen:=kr hok
 have hsum:=aDe (fH f) (fH f).length
 refine sk (sq (rT [1,3] (s9 (s9 (s4 (sq (wa [tP 1 1,tO 3 4 (eu f).length,oB 1 63 [.d (.i f.kind),.d (.i f.src),.d (.i f.dst),.d (.i f.frm),.d (.i f.num),.d (.i f.to),.d (.i f.til),.d (.i f.size),.d (.i f.mix),.d (.s f.data)],oR 4 5 1 (aA (eu f))] [] [] ?_ ?_)))))))
 · repeat' apply ai
   all_goals first|exact qx|exact aDf hok|rfl|exact qz
 refine rT [1,3] (s3 (bE (robj:=[(4,_)]) (rl:=[(0,4)]) (bor:=[]) (sX (eu f) f.til (by simp[eu]) (by omega)) rfl rfl rfl rfl ⟨jD rfl rfl rfl rfl (cJ rfl rfl (bV rfl rfl trivial)),rfl⟩ rfl (.inl rfl) (fun p hp=>by simp at hp;subst hp;rfl) (fun _ hj=>nomatch hj) (s1 (sq (sq (wa [tP 1 1,tO 3 4 (lD f).length,oB 1 63 [.d (.i f.kind),.d (.i f.src),.d (.i f.dst),.d (.i f.frm),.d (.i f.num),.d (.i f.to),.d (.i f.til),.d (.i f.size),.d (.i f.mix),.d (.s f.data)],oR 4 5 1 (aA (lD f))] [] [] qz (rT [1,3,36] (s3 (cd rfl (fun c36=> ?_) fun c36=> ?_)))))))))
 · have hk:f.kind=1:=by simpa using c36
   obtain⟨m1,m2,m3⟩:=k8 hk
   refine sq (rT [1,3] (s5 (ai (by refine⟨rfl,aS _,by simp,?_⟩;show(_+1)*1≤_;simp[lD,two]) (s1 (sq (wa [tP 1 1,tO 3 4 (lD f++[b8 f.size]).length,oB 1 63 [.d (.i f.kind),.d (.i f.src),.d (.i f.dst),.d (.i f.frm),.d (.i f.num),.d (.i f.to),.d (.i f.til),.d (.i f.size),.d (.i f.mix),.d (.s f.data)],oR 4 5 1 (aA (lD f++[b8 f.size]))] [] [] ?_ ?_))))))
   · repeat' apply ai
     all_goals first|exact qx|rfl|(simp[aS];done)|(rw[← gQ,iq (by omega)];rfl)|exact qz
   refine rT [1,3] (s3 (bE (robj:=[(4,_)]) (rl:=[(0,4)]) (bor:=[]) (sX (lD f++[b8 f.size]) f.mix (by simp[lD,two]) (by omega)) rfl rfl rfl rfl ⟨jD rfl rfl rfl rfl (cJ rfl rfl (bV rfl rfl trivial)),rfl⟩ rfl (.inl rfl) (fun p hp=>by simp at hp;subst hp;rfl) (fun _ hj=>nomatch hj) (s1 (wa [tP 1 1,tO 3 4 (lD f++[b8 f.size]++two f.mix).length,oB 1 63 [.d (.i f.kind),.d (.i f.src),.d (.i f.dst),.d (.i f.frm),.d (.i f.num),.d (.i f.to),.d (.i f.til),.d (.i f.size),.d (.i f.mix),.d (.s f.data)],oR 4 5 1 (aA (lD f++[b8 f.size]++two f.mix))] [] [] qz (rT [3] (s3 (ai (by rw[m3];decide) (ai (by refine⟨aS _,aS _,vV _,?_⟩;show(_+_)*1≤_;simp[aS,m3,lD,two]) (s1 (sq (wa [tO 3 4 (fH f).length,oR 4 5 1 (aA (fH f))] [] [] ?_ ?_)))))))))))
   · repeat' apply ai
     all_goals first|exact qx|(rw[ct hk];done)|(rw[gQ];simp[fH,hk];done)|(simp[fH,hk,aS];omega)|exact qz
   refine rT [2] (s2 (bE (robj:=[(4,.row 5 1 (aA (fH f)))]) (rl:=[]) (bor:=[4]) (bt (fH f) (by omega)) rfl rfl rfl rfl ⟨eW rfl rfl rfl ?_ rfl trivial,rfl⟩ rfl (.inr (vi _)) (fun p hp=>by simp at hp;subst hp;rfl) (fun _ hj=>nomatch hj) ?_))
   · exact aS _
   refine bE (robj:=[(4,_)]) (rl:=[(0,4)]) (bor:=[]) (sX (fH f) (fq (fH f) (fH f).length) (by omega) (by omega)) rfl rfl rfl rfl ⟨jD rfl rfl rfl rfl (cJ rfl rfl (bV rfl rfl trivial)),rfl⟩ rfl (.inl rfl) (fun p hp=>by simp at hp;subst hp;rfl) (fun _ hj=>nomatch hj) (s1 (rt (rq [(0,4)] [] rfl ?_)))
   repeat' apply ai
   all_goals try exact qx
   all_goals first|(rw[qJ,if_pos hok];done)|(rw[qJ,if_pos hok])
 have hk: ¬f.kind=1:=by simpa using c36
 refine sk (sq (wa [tO 3 4 (fH f).length,oR 4 5 1 (aA (fH f))] [] [] ?_ ?_))
 · repeat' apply ai
   all_goals first|exact qx|(rw[ct hk];done)|(rw[gQ];simp[fH,hk];done)|(simp[fH,hk,aS];omega)|exact qz
 refine rT [2] (s2 (bE (robj:=[(4,.row 5 1 (aA (fH f)))]) (rl:=[]) (bor:=[4]) (bt (fH f) (by omega)) rfl rfl rfl rfl ⟨eW rfl rfl rfl ?_ rfl trivial,rfl⟩ rfl (.inr (vi _)) (fun p hp=>by simp at hp;subst hp;rfl) (fun _ hj=>nomatch hj) ?_))
 · exact aS _
 refine bE (robj:=[(4,_)]) (rl:=[(0,4)]) (bor:=[]) (sX (fH f) (fq (fH f) (fH f).length) (by omega) (by omega)) rfl rfl rfl rfl ⟨jD rfl rfl rfl rfl (cJ rfl rfl (bV rfl rfl trivial)),rfl⟩ rfl (.inl rfl) (fun p hp=>by simp at hp;subst hp;rfl) (fun _ hj=>nomatch hj) (s1 (rt (rq [(0,4)] [] rfl ?_)))
 repeat' apply ai
 all_goals try exact qx
 all_goals first|(rw[qJ,if_pos hok];done)|(rw[qJ,if_pos hok])
theorem jl (l:List UInt8):Sp 217 1 [tD 0 (.sl (aA l))] [tV 0 (.tup [.agg [.d (.i (gW l).kind),.d (.i (gW l).src),.d (.i (gW l).dst),.d (.i (gW l).frm),.d (.i (gW l).num),.d (.i (gW l).to),.d (.i (gW l).til),.d (.i (gW l).size),.d (.i (gW l).mix),.d (.s (gW l).data)],.c (.d (.b (mN l)))])]:=by
 refine sb Tryz.func217 rfl (sq (rT [0,2] (s2 (sq (sq (rT [0,2,12] (s4 (y2 (y1 (ai pk (cd rfl (fun c12=> ?_) fun c12=> ?_)))))))))))
 · have hL:l.length≠10∧l.length≠17:=by simp[aS] at c12;omega
   refine sq (rT [2,3] (s3 (rt (bO rfl rfl ?_))))
   have hno:mN l=false:=by simp[mN,hL.1,hL.2]
   simp only[gW,hno,Bool.false_eq_true,if_false,ew]
   rfl
 have hL:l.length=10∨l.length=17:=by
  by_cases h9:l.length=10
  · exact .inl h9
  · right;simp[aS] at c12;omega
 refine sk (sq (rD [0,2,4] (s1 (ai (ixB (by omega) (by omega)) (ai (ldB (by omega) (by omega)) (s1 (s1 (ai (ixB (by omega) (by omega)) (ai (ldB (by omega) (by omega)) (s1 (s1 (ai (ixB (by omega) (by omega)) (ai (ldB (by omega) (by omega)) (s1 (s1 (ai (ixB (by omega) (by omega)) (ai (ldB (by omega) (by omega)) (s1 (s1 (ai (ixB (by omega) (by omega)) (ai (ldB (by omega) (by omega)) (s1 (s1 (ai (ixB (by omega) (by omega)) (ai (ldB (by omega) (by omega)) (s1 (s1 (ai (ixB (by omega) (by omega)) (ai (ldB (by omega) (by omega)) (s1 (s2 (ai (ixB (by omega) (by omega)) (ai (ldB (by omega) (by omega)) (s4 (s1 (ai (by kernel_rfl) (sq (sq (rT [0,2,4,51] (s3 (cd rfl (fun c51=> ?_) fun c51=> ?_)))))))))))))))))))))))))))))))))))))))))
 · have h17:l.length=17:=by simp[aS] at c51;omega
   refine sq (rT [0,2,4] (s1 (ai (ixB (by omega) (by omega)) (ai (ldB (by omega) (by omega)) (s1 (s2 (sq (rD [0,2,4] (s1 (ai (ixB (by omega) (by omega)) (ai (ldB (by omega) (by omega)) (s1 (s2 (ai (ixB (by omega) (by omega)) (ai (ldB (by omega) (by omega)) (s4 (ai (by kernel_rfl) (rT [0,2,4] (s1 (ai (by refine⟨by simp[qp,eY,gI,aS,h17],vV l⟩) (ai (by rw[xE];exact xF l 11 15) (s1 (s1 (sq (sq (wa [tD 0 (.sl (aA l)),tP 2 2,tP 4 4,oB 2 63 [.d (.i 0),.d (.i 0),.d (.i 0),.d (.i 0),.d (.i 0),.d (.i 0),.d (.i 0),.d (.i 0),.d (.i 0),.d (.s [])],oB 4 63 [.d (.i (cV l).kind),.d (.i (cV l).src),.d (.i (cV l).dst),.d (.i (cV l).frm),.d (.i (cV l).num),.d (.i (cV l).to),.d (.i (cV l).til),.d (.i (cV l).size),.d (.i (cV l).mix),.d (.s (cV l).data)]] [] [] ?_ ?_))))))))))))))))))))))))))
   · repeat' apply ai
     all_goals first|exact qx|(rw[aDh (by decide) (by omega),aDh (by decide) (by omega)];(first|simp only[cV,if_neg h17]|simp only[cV,if_pos h17]);exact congrArg D.i (aBr (kJ _ _) (kJ _ _)).1)|(rw[aDh (by decide) (by omega)];(first|simp only[cV,if_neg h17]|simp only[cV,if_pos h17]);first|done|rfl)|((first|simp only[cV,if_neg h17]|simp only[cV,if_pos h17]);done)|((first|simp only[cV,if_neg h17]|simp only[cV,if_pos h17]);exact congrArg D.s (xE _ _ _))|exact qz
   refine rD [2,4,77] (s1 (yA [(0,73)] (sI (cV l)) rfl rfl rfl rfl rfl rfl rfl (fun j hj=>by(obtain rfl:j=0:=by simpa[jV,cA,iH] using hj);rfl) (ai (by exact⟨aS _,(congrArg aA (cI _)).symm⟩) (s1 (ai (by exact(congrArg aA (cI _)).symm) (s1 (ai (by kernel_rfl) (cd rfl (fun c77=> ?_) fun c77=> ?_))))))))
   · refine sq (rT [2,3] (s3 (rt (bO rfl rfl ?_))))
     have hno:mN l=false:=by(simp[cI] at c77;simp[mN,c77])
     simp only[gW,hno,Bool.false_eq_true,if_false,ew]
     rfl
   refine sk (sq (rT [2,3] (s3 (rt (bO rfl rfl ?_)))))
   have hyes:mN l=true:=by(simp[cI] at c77;rcases hL with h|h<;>simp[mN,h,c77])
   simp only[gW,hyes,if_true]
   rfl
 have h17: ¬l.length=17:=by simp[aS] at c51;omega
 refine sk (sq (sq (wa [tD 0 (.sl (aA l)),tP 2 2,tP 4 4,oB 2 63 [.d (.i 0),.d (.i 0),.d (.i 0),.d (.i 0),.d (.i 0),.d (.i 0),.d (.i 0),.d (.i 0),.d (.i 0),.d (.s [])],oB 4 63 [.d (.i (cV l).kind),.d (.i (cV l).src),.d (.i (cV l).dst),.d (.i (cV l).frm),.d (.i (cV l).num),.d (.i (cV l).to),.d (.i (cV l).til),.d (.i (cV l).size),.d (.i (cV l).mix),.d (.s (cV l).data)]] [] [] ?_ ?_)))
 · repeat' apply ai
   all_goals first|exact qx|(rw[aDh (by decide) (by omega),aDh (by decide) (by omega)];(first|simp only[cV,if_neg h17]|simp only[cV,if_pos h17]);exact congrArg D.i (aBr (kJ _ _) (kJ _ _)).1)|(rw[aDh (by decide) (by omega)];(first|simp only[cV,if_neg h17]|simp only[cV,if_pos h17]);first|done|rfl)|((first|simp only[cV,if_neg h17]|simp only[cV,if_pos h17]);done)|((first|simp only[cV,if_neg h17]|simp only[cV,if_pos h17]);exact congrArg D.s (xE _ _ _))|exact qz
 refine rD [2,4,77] (s1 (yA [(0,73)] (sI (cV l)) rfl rfl rfl rfl rfl rfl rfl (fun j hj=>by(obtain rfl:j=0:=by simpa[jV,cA,iH] using hj);rfl) (ai (by exact⟨aS _,(congrArg aA (cI _)).symm⟩) (s1 (ai (by exact(congrArg aA (cI _)).symm) (s1 (ai (by kernel_rfl) (cd rfl (fun c77=> ?_) fun c77=> ?_))))))))
 · refine sq (rT [2,3] (s3 (rt (bO rfl rfl ?_))))
   have hno:mN l=false:=by(simp[cI] at c77;simp[mN,c77])
   simp only[gW,hno,Bool.false_eq_true,if_false,ew]
   rfl
 refine sk (sq (rT [2,3] (s3 (rt (bO rfl rfl ?_)))))
 have hyes:mN l=true:=by(simp[cI] at c77;rcases hL with h|h<;>simp[mN,h,c77])
 simp only[gW,hyes,if_true]
 rfl
theorem cL (l:List UInt8) (p n:Int) (hp:0≤p∧p≤1000000) (hl:l.length≤2000):Sp 78 2 [tP 0 0,tI 1 n,oB 0 137 [.d (.sl (aA l)),.d (.i (p))]] [tI 0 (bL l p n),oB 0 137 [.d (.sl (aA l)),.d (.i (p+1))]]:=by
 refine sb Tryz.func78 rfl (sq (rT [0,1] (s1 (sq (rT [0,1] (s9 (sq (sq (wa [tP 0 0,tI 1 n,oB 0 137 [.d (.sl (aA l)),.d (.i (p+1))]] [] [] ?_ ?_)))))))))
 · repeat' apply ai
   all_goals first|exact qx|exact congrArg D.i (aC (by omega))|exact qz
 refine rT [0,1,24] (s3 (y4 (y2 (ai pk (cd rfl (fun c24=> ?_) fun c24=> ?_)))))
 · refine sq (rT [4] (s1 (rt (rq [] [] rfl ?_))))
   repeat' apply ai
   all_goals try exact qx
   all_goals first|with_reducible rfl|skip
   refine congrArg D.i ?_
   unfold bL
   refine(if_pos ?_).symm
   by_cases h9:n<1
   · exact .inl h9
   right;simp[h9,aS,gb] at c24;simp[c24]
 have hn:1≤n∧1≤((aA l).length:Int):=by
  by_cases h9:n<1
  · simp[h9] at c24
  · refine⟨by omega,?_⟩;simp[h9,aS,gb] at c24 ⊢; have:=List.length_pos_iff.2 c24;omega
 have hlr:=aS l
 refine sk (sq (rT [0,1,5] (s6 (sq (sq (wa [tP 0 0,tI 1 n,tI 5 p,oB 0 137 [.d (.sl (aA l)),.d (.i (p+1))]] [] [] ?_ ?_))))))
 · repeat' apply ai
   all_goals first|exact qx|((refine congrArg D.i ?_;rw[aC (by omega)];omega))|exact qz
 refine rT [0,1,5,36] (s7 (cd rfl (fun c36=> ?_) fun c36=> ?_))
 · have hi:p< ((aA l).length:Int):=by simpa using c36
   refine sq (rT [4] (s5 (ai (ixB (by omega) (by omega)) (ai (ldB (by omega) (by omega)) (s2 (ai (by omega) (s1 (rt (rq [] [] rfl ?_)))))))))
   repeat' apply ai
   all_goals try exact qx
   all_goals first|with_reducible rfl|skip
   refine congrArg D.i ?_
   rw[aDh hp.1 (by omega)]
   unfold bL
   rw[if_neg (by omega),if_pos (by omega)]
 have hi: ¬p< ((aA l).length:Int):=by simpa using c36
 refine sk (sq ?_)
 have r1:=nN (x:=p) (n:=((aA l).length:Int)) hp.1 (by omega)
 have r2:=nN (x:=wrap64 (wrap64 (p*7)+3)) (n:=((aA l).length:Int)) (by rw[aC (n:=p*7) (by omega),aC (by omega)];omega) (by omega)
 have r3:=pJ (x:=p) (n:=((aA l).length:Int)) hp.1 (by omega)
 refine rD [1,6] (s9 (s1 (ai (by omega) (ai (ixB (by omega) (by omega)) (ai (ldB (by omega) (by omega)) (s9 (s5 (ai (by omega) (ai (ixB (by omega) (by omega)) (ai (ldB (by omega) (by omega)) (s9 (s3 (ai (by omega) (s3 (ai (by kernel_rfl) (sq (rT [1,6] (s2 (ai (by decide) (s2 (sq (rT [4] (s2 (ai (by omega) (s1 (rt (rq [] [] rfl ?_)))))))))))))))))))))))))))
 repeat' apply ai
 all_goals try exact qx
 all_goals first|with_reducible rfl|skip
 refine congrArg D.i ?_
 rw[aDh r1.1 (by omega),aDh r2.1 (by omega)]
 unfold bL
 rw[if_neg (by omega),if_neg (by omega),hlr]
theorem sY (l:List UInt8) (hl:l.length≤140737488355328):Sp 76 1 [tD 0 (.sl (aA l))] [tP 0 0,oB 0 137 [.d (.sl (aA (l.take 2000))),.d (.i (0))]]:=by
 refine sb Tryz.func76 rfl (sq (rT [0] (s1 (sq (sq (rT [0,5] (s3 (cd rfl (fun c5=> ?_) fun c5=> ?_))))))))
 · refine rT [0] (s1 (ai (by refine⟨by simp[qp,eY,gI,aS] at *; omega,vV l⟩) (s1 (sq (rT [2] (s4 (rt (rq [(0,10)] [] rfl ?_))))))))
   repeat' apply ai
   all_goals try exact qx
   all_goals first|with_reducible rfl|skip
   first|exact congrArg D.sl (xF l 0 2000)|(refine congrArg D.sl (congrArg aA ?_);symm;apply List.take_of_length_le;simp[aS] at c5;omega)
 refine sk (sq (rT [2] (s4 (rt (rq [(0,10)] [] rfl ?_)))))
 repeat' apply ai
 all_goals try exact qx
 all_goals first|with_reducible rfl|skip
 first|exact congrArg D.sl (xF l 0 2000)|(refine congrArg D.sl (congrArg aA ?_);symm;apply List.take_of_length_le;simp[aS] at c5;omega)
theorem aM5 (l:List UInt8) (p:Int) (rs:List (List UInt8)) (hr:1≤rs.length) (hp:0≤p∧p≤1000000) (hl:l.length≤2000):nj 134 2 [tP 0 0,tD 1 (.sl (aV rs)),oB 0 137 [.d (.sl (aA l)),.d (.i (p))]] (fun s=> ∃x:List UInt8,x∈rs∧s=[tD 0 (.s x),oB 0 137 [.d (.sl (aA l)),.d (.i (p+1))]]):=by
 have hv:=cD l (p:=p) (n:=((aV rs).length:Int)) hp (by rw[aJ];omega)
 have hsl:=aJ rs
 refine pj Tryz.func134 rfl (sq (rT [0,1] (s1 (sq (rT [4] (s4 (bE (robj:=[(0,.box 137 [.d (.sl (aA (l))),.d (.i (p))])]) (rl:=[(0,0)]) (bor:=[]) (cL (l) (p) _ (by omega) hl) rfl rfl rfl rfl ⟨bR rfl rfl rfl rfl (cJ rfl rfl (aU rfl (aD rfl (aD rfl aL)) trivial)),rfl⟩ rfl (.inl rfl) (aK ⟨rfl,trivial⟩) (fun _ hj=>nomatch hj) (ai (ixS (by omega) (by omega)) (ai (ldS (by omega) (by omega)) (s1 (rt (cU _ ⟨rs.getD (bL l p ((aV rs).length:Int)).toNat [],?_,rfl⟩ (eC _ [] [] rfl ?_ rfl rfl)))))))))))))
 · rw[aW7,aW8 (by omega)];exact List.getElem_mem _
 refine qs ?_
 repeat' first|exact qx|apply ai
 all_goals first|with_reducible rfl|exact congrArg D.s (aRf (by omega) (by omega))
theorem oZ (a:List UInt8) (n:Int) (ha:a.length=1) (hn:0≤n∧n≤100000):nj 164 2 [tD 0 (.s a),tI 1 n] (fun s=> ∃x:List UInt8,x.length≤n.toNat∧s=[tD 0 (.s x)]):=by
 refine pj Tryz.func164 rfl (sq (rT [0,1] (s1 (sq (rT [0,1,5] (s1 (sq (bk (SW.loopW (n:=n.toNat) (fun m s=> ∃(x b:List UInt8) (k:Nat),m=k∧(x.length+b.length*k≤n.toNat∧b.length≤2*n.toNat+1∧k≤n.toNat)∧s=[tD 0 (.s b),tI 1 (k),tD 5 (.s x)]) ?_ ?_)))))))))
 · refine wq [] [] (⟨[],a,n.toNat,rfl,⟨by first|(simp[ha];done)|(simp[ha];omega),by omega,by omega⟩,rfl⟩) ?_
   repeat' apply ai
   all_goals first|exact qx|(refine congrArg D.i ?_;omega)|(simp;done)|exact qz
 rintro n s ⟨x,b,k,hmk,hk,rfl⟩
 refine sq (sq (rT [0,1,5,7] (s2 (cd rfl (fun c7=> ?_) fun c7=> ?_))))
 · have hk1:0<k:=by simpa using c7
   have h11:b.length≤b.length*k:=Nat.le_mul_of_pos_right _ hk1
   refine sk (bk (sq (sq (rT [0,1,5,10] (s1 (ai (by decide) (s1 (cd rfl (fun c10=> ?_) fun c10=> ?_))))))))
   · refine rT [0,1,5] (s2 (ai (by show _≤9223372036854775807;omega) (s1 (sq (rT [0,1,5] (s2 (ai (by show _≤9223372036854775807;omega) (s1 (rT [0,1,5] (s1 (ai (by decide) (s1 ?_))))))))))))
     have hm:Int.tmod (k:Int) 2=((k % 2:Nat):Int):=by rw[Int.tmod_eq_emod_of_nonneg (by omega)];omega
     have hd:Int.tdiv (k:Int) 2=((k / 2:Nat):Int):=by rw[Int.tdiv_eq_ediv_of_nonneg (by omega)];omega
     obtain⟨j,hj⟩: ∃j,k=2*j∨k=2*j+1:=⟨k / 2,by omega⟩
     have h8:b.length*k=2*(b.length*j)∨b.length*k=2*(b.length*j)+b.length:=by
      rcases hj with h|h
      · left;rw[h,Nat.mul_left_comm]
      · right;rw[h,Nat.mul_add,Nat.mul_left_comm,Nat.mul_one]
     have h9: (b++b).length*(k / 2)=2*(b.length*j):=by
      rw[aW0,show k / 2=j by omega,Nat.add_mul];omega
     have h10:b.length≤b.length*k:=Nat.le_mul_of_pos_right _ (by omega)
     first
     |(refine wq [] [] (⟨k / 2,by omega,x++b,b++b,k / 2,rfl,⟨by rw[h9,aW0];have:k % 2=1:=(by simp[hm] at c10;omega);have:=congrArg (b.length* ·) (show k=2*j+1 by omega);simp only[Nat.mul_add,Nat.mul_one,Nat.mul_left_comm b.length 2 j] at this;omega,by rw[aW0];omega,by omega⟩,rfl⟩) ?_
       repeat' apply ai
       all_goals first|exact qx|(refine congrArg D.i ?_;rw[hd,aC (by omega)])|exact qz)
     |(refine wq [] [] (⟨k / 2,by omega,x,b++b,k / 2,rfl,⟨by rw[h9];omega,by rw[aW0];omega,by omega⟩,rfl⟩) ?_
       repeat' apply ai
       all_goals first|exact qx|(refine congrArg D.i ?_;rw[hd,aC (by omega)])|exact qz)
   refine sk (sq (rT [0,1,5] (s2 (ai (by show _≤9223372036854775807;omega) (s1 (rT [0,1,5] (s1 (ai (by decide) (s1 ?_)))))))))
   have hm:Int.tmod (k:Int) 2=((k % 2:Nat):Int):=by rw[Int.tmod_eq_emod_of_nonneg (by omega)];omega
   have hd:Int.tdiv (k:Int) 2=((k / 2:Nat):Int):=by rw[Int.tdiv_eq_ediv_of_nonneg (by omega)];omega
   obtain⟨j,hj⟩: ∃j,k=2*j∨k=2*j+1:=⟨k / 2,by omega⟩
   have h8:b.length*k=2*(b.length*j)∨b.length*k=2*(b.length*j)+b.length:=by
    rcases hj with h|h
    · left;rw[h,Nat.mul_left_comm]
    · right;rw[h,Nat.mul_add,Nat.mul_left_comm,Nat.mul_one]
   have h9: (b++b).length*(k / 2)=2*(b.length*j):=by
    rw[aW0,show k / 2=j by omega,Nat.add_mul];omega
   have h10:b.length≤b.length*k:=Nat.le_mul_of_pos_right _ (by omega)
   first
   |(refine wq [] [] (⟨k / 2,by omega,x++b,b++b,k / 2,rfl,⟨by rw[h9,aW0];have:k % 2=1:=(by simp[hm] at c10;omega);have:=congrArg (b.length* ·) (show k=2*j+1 by omega);simp only[Nat.mul_add,Nat.mul_one,Nat.mul_left_comm b.length 2 j] at this;omega,by rw[aW0];omega,by omega⟩,rfl⟩) ?_
     repeat' apply ai
     all_goals first|exact qx|(refine congrArg D.i ?_;rw[hd,aC (by omega)])|exact qz)
   |(refine wq [] [] (⟨k / 2,by omega,x,b++b,k / 2,rfl,⟨by rw[h9];omega,by rw[aW0];omega,by omega⟩,rfl⟩) ?_
     repeat' apply ai
     all_goals first|exact qx|(refine congrArg D.i ?_;rw[hd,aC (by omega)])|exact qz)
 refine xt (sq (rT [4] (s2 (rt ?_))))
 exact cU _ ⟨x,by omega,rfl⟩ (bJ rfl rfl)
end Go.Proofs.YthbgjfegalcenaaGreatDoor
namespace Go.Ab
open Int renaming toNat_natCast→aWz
open List renaming length_append→aW0,length_nil→aW2,length_cons→aW3,length_take→aW5,getD_eq_getElem?_getD→aW7,getElem?_eq_getElem→aW8,length_drop→aW9,getElem?_eq_some_iff→aXb,range→aXc,mem_map→aXd,all_eq_true→aXe,take_length→aXf
open Nat renaming le_of_ble_eq_true→aW1,zero_le→aW6,le_refl→aXa
open Bool renaming and_eq_true→aW4
open Go Go.RowKit
set_option linter.unusedVariables false
structure fJ where
 tm:Int
 ks:List aH
 ls:List Bool
 a:Nat
 b:Nat
 c:Nat
 d:Nat
def fJ.ok (W:fJ):Prop:=zt W.ks W.ls W.a W.b W.c
structure fJ.of (W W0:fJ) (m:Nat):Prop where
 ok:W.ok
 few:W.d≤W0.d+m
theorem fJ.of.refl {W:fJ} (h:W.ok):W.of W 0:=⟨h,aXa _⟩
theorem fJ.of.trans {W1 W2 W0:fJ} {m n:Nat} (h:W1.of W0 m) (k:W2.of W1 n):W2.of W0 (m+n):=⟨k.ok,by have:=h.few;have:=k.few;omega⟩
theorem fJ.of.le {W W0:fJ} {m n:Nat} (h:W.of W0 m) (hn:m≤n):W.of W0 n:=⟨h.ok,by have:=h.few;omega⟩
def dU (n:Int):aH:=if eN n then⟨n,true,[],0,[]⟩ else .zero
def rJ (n:Nat):List aH:=(aXc n).map fun i:Nat=>dU (i:Int)
theorem lS (n:Nat): (rJ n).length=n:=by simp[rJ]
theorem aEl (n:Nat):rJ (n+1)=rJ n++[dU (n:Int)]:=by simp[rJ,List.range_succ]
theorem tc (l:List aH) (k:aH):aI l++[k.row]=aI (l++[k]):=by simp[aI]
theorem rK (n:Nat):aI (rJ n)++[(dU (n:Int)).row]=aI (rJ (n+1)):=by rw[aEl,tc]
def yes (n:Nat):List Bool:=List.replicate n true
theorem sJ (n:Nat): (yes n).length=n:=by simp[yes]
theorem uT (n:Nat):aN (yes n)++[[.b true]]=aN (yes (n+1)):=by
 rw[yes,yes,List.replicate_succ']
 simp[aN]
theorem wU (n:Int):jr (dU n):=by
 unfold dU
 split
 · exact⟨aW6 _,aW6 _,fun x h=>by cases h⟩
 · exact rA
def fN:fJ:=⟨0,rJ 4,yes 3,0,0,0,0⟩
theorem aG7:fN.ok:=⟨lS 4,fun k hk=>by
 obtain⟨i,_,rfl⟩:=aXd.1 hk
 exact wU _,sJ 3,aW6 _,aW6 _,aW6 _⟩
set_option linter.unusedSimpArgs false
abbrev R1 (x:Int):Prop:= -1≤x∧x≤1001
def ND (n:bA):Prop:=(R1 n.frm∧R1 n.num∧R1 n.to∧R1 n.til)∧n.text.length≤60
theorem qh {n:Int} (h:R1 n): (oq n).length≤8:=by
 have q1:=bS (k:=6) (n:=(-n).toNat) (by simp;omega)
 have q2:=bS (k:=6) (n:=n.toNat) (by simp;omega)
 unfold oq
 split
 · rw[aW3];omega
 · omega
theorem eG {l:List Int} {j:Nat} (h: ∀v∈l,R1 v) (hj:j<l.length):R1 (zr (((cZ l).getD j []).getD 0 (.i 0))):=by
 rw[gL hj]
 exact h _ (dG (z:=0) hj)
end Go.Ab
namespace Go.Proofs.YthbgjfegalcenaaGreatDoor
open Int renaming toNat_natCast→aWz
open List renaming length_append→aW0,length_nil→aW2,length_cons→aW3,length_take→aW5,getD_eq_getElem?_getD→aW7,getElem?_eq_getElem→aW8,length_drop→aW9,getElem?_eq_some_iff→aXb,range→aXc,mem_map→aXd,all_eq_true→aXe,take_length→aXf
open Nat renaming le_of_ble_eq_true→aW1,zero_le→aW6,le_refl→aXa
open Bool renaming and_eq_true→aW4
open Go Go.Ab Go.RowKit
set_option linter.unusedVariables false
set_option linter.unusedSimpArgs false
set_option maxRecDepth 9000
theorem yt (l:List UInt8) (p:Int) (hp:0≤p∧p≤900000) (hl:l.length≤2000):nj 135 1 [tP 0 0,oB 0 137 [.d (.sl (aA l)),.d (.i (p))]] (fun s=> ∃(x:List UInt8) (q:Int),(p≤q∧q≤p+40∧x.length≤60)∧s=[tD 0 (.s x),oB 0 137 [.d (.sl (aA l)),.d (.i (q))]]):=by
 have hl2:=hl
 refine pj Tryz.func135 rfl (sq (rT [0] (s1 (sq (sq (rT [0,6] (s1 (bE (robj:=[(0,.box 137 [.d (.sl (aA (l))),.d (.i (p))])]) (rl:=[(0,0)]) (bor:=[]) (cL (l) (p) _ (by omega) hl2) rfl rfl rfl rfl ⟨bR rfl rfl rfl rfl (cJ rfl rfl (aU rfl (aD rfl (aD rfl aL)) trivial)),rfl⟩ rfl (.inl rfl) (aK ⟨rfl,trivial⟩) (fun _ hj=>nomatch hj) (bk (sq (rT [0,6,7] (s2 (cd rfl (fun c7=> ?_) fun c7=> ?_)))))))))))))
 · refine sq (rE [2] (s1 (cQ (robj:=[]) (rl:=[]) (bor:=[]) (news:=[]) (oZ [120] 24 rfl (by omega)) rfl rfl rfl rfl ⟨cJ rfl rfl (cJ rfl rfl (trivial)),rfl⟩ (by rintro _ ⟨x1,hx1,rfl⟩;exact⟨rfl,.inl rfl,fun j hj=>nomatch hj⟩) (fun p hp=>nomatch hp) (fun j hj=>nomatch hj) ?_)))
   rintro _ ⟨x1,hx1,rfl⟩
   refine cQ (robj:=[]) (rl:=[]) (bor:=[]) (news:=[]) (oZ [121] 25 rfl (by omega)) rfl rfl rfl rfl ⟨cJ rfl rfl (cJ rfl rfl (trivial)),rfl⟩ (by rintro _ ⟨x2,hx2,rfl⟩;exact⟨rfl,.inl rfl,fun j hj=>nomatch hj⟩) (fun p hp=>nomatch hp) (fun j hj=>nomatch hj) ?_
   rintro _ ⟨x2,hx2,rfl⟩
   refine ai (by exact⟨by simp,aW1 rfl⟩) (zF 12 12 rfl rfl rfl rfl (cQ (robj:=[(0,.box 137 [.d (.sl (aA (l))),.d (.i (p+1))])]) (rl:=[(0,0)]) (bor:=[]) (news:=[]) (aM5 (l) (p+1) (([[],x1,x2,[0,1],[97,10]]:List (List UInt8))) (by simp) (by omega) hl2) rfl rfl rfl rfl ⟨bR rfl rfl rfl rfl (cJ rfl rfl (aU rfl (aD rfl (aD rfl aL)) trivial)),rfl⟩ (by rintro _ ⟨x,hx,rfl⟩;exact⟨rfl,.inl rfl,fun j hj=>nomatch hj⟩) (aK ⟨rfl,trivial⟩) (fun j hj=>nomatch hj) ?_))
   rintro _ ⟨x,hx,rfl⟩
   refine s1 (rt (cU _ ⟨x,p+1+1,⟨by omega,by omega,?_⟩,rfl⟩ (eC _ [] [] rfl ?_ rfl rfl)))
   · simp at hx;rcases hx with rfl|rfl|rfl|rfl|rfl<;>first|omega|(simp;done)
   refine qs ?_
   repeat' first|exact qx|apply ai
   all_goals rfl
 refine sq (rT [0,14] (s2 (cd rfl (fun c14=> ?_) fun c14=> ?_)))
 · refine sq (rT [0,3] (s2 (sq (sq (rT [0,3,4] (s1 (bE (robj:=[(0,.box 137 [.d (.sl (aA (l))),.d (.i (p+1))])]) (rl:=[(0,0)]) (bor:=[]) (cL (l) (p+1) _ (by omega) hl2) rfl rfl rfl rfl ⟨bR rfl rfl rfl rfl (cJ rfl rfl (aU rfl (aD rfl (aD rfl aL)) trivial)),rfl⟩ rfl (.inl rfl) (aK ⟨rfl,trivial⟩) (fun _ hj=>nomatch hj) (s2 (bk ?_)))))))))
   have hv:=cD l (p:=p+1) (n:=20) (by omega) (by omega)
   refine SW.loopW (n:=(wrap64 (1+bL l (p+1) 20)).toNat) (fun m s=> ∃(k q:Int) (b:List UInt8),m=k.toNat∧(0≤k∧k≤20∧p≤q∧q+k≤p+30∧b.length+k≤20)∧s=[tP 0 0,tO 3 16 (b).length,tI 4 (k),oB 0 137 [.d (.sl (aA l)),.d (.i (q))],oR 16 5 1 (aA (b))]) ?_ ?_
   · refine wq (σ':=[tP 0 0,tO 3 16 ([]).length,tI 4 ((wrap64 (1+bL l (p+1) 20))),oB 0 137 [.d (.sl (aA l)),.d (.i (p+1+1))],oR 16 5 1 (aA ([]))]) [] [] (⟨_,p+1+1,[],rfl,⟨by rw[aC (by omega)];omega,by rw[aC (by omega)];omega,by omega,by rw[aC (by omega)];omega,by rw[aC (by omega)];simp;omega⟩,rfl⟩) ?_
     repeat' apply ai
     all_goals first|exact qx|rfl|(simp[aA];done)|exact qz
   rintro n s ⟨k,q,b,rfl,hk,rfl⟩
   refine sq (sq (rT [0,3,4,21] (s2 (cd rfl (fun c21=> ?_) fun c21=> ?_))))
   · have hk1:0<k:=by simpa using c21
     refine sk (sq (bk (rT [0,3,4] (s2 (bE (robj:=[(0,.box 137 [.d (.sl (aA (l))),.d (.i (q))])]) (rl:=[(0,0)]) (bor:=[]) (cL (l) (q) _ (by omega) hl2) rfl rfl rfl rfl ⟨bR rfl rfl rfl rfl (cJ rfl rfl (aU rfl (aD rfl (aD rfl aL)) trivial)),rfl⟩ rfl (.inl rfl) (aK ⟨rfl,trivial⟩) (fun _ hj=>nomatch hj) (s2 (ai (by refine⟨rfl,aS _,by simp,?_⟩;show(_+1)*1≤_;omega) (s1 (rT [0,3,4] (s3 (wq [] [] (⟨(k - 1).toNat,by omega,k - 1,q+1,b++[u8 (bL l q 256)],rfl,⟨by omega,by omega,by omega,by omega,by rw[aW0];simp;omega⟩,rfl⟩) ?_)))))))))))
     repeat' apply ai
     all_goals first|exact qx|exact aBs _ _|(simp[aS];done)|exact congrArg D.i (aC (by omega))|exact qz
   refine xt (sq (rT [2] (s1 (ai (by exact⟨aS _,(congrArg aA (cI _)).symm⟩) (s1 (rt (cU _ ⟨b,q,⟨by omega,by omega,by omega⟩,rfl⟩ (eC _ [] [] rfl ?_ rfl rfl))))))))
   refine qs ?_
   repeat' first|exact qx|apply ai
   all_goals first|with_reducible rfl|exact congrArg D.s (cI b)
 refine sk (sq (rE [2] (s1 (ai (by exact⟨by simp,by decide⟩) (zF 33 33 rfl rfl rfl rfl (cQ (robj:=[(0,.box 137 [.d (.sl (aA (l))),.d (.i (p+1))])]) (rl:=[(0,0)]) (bor:=[]) (news:=[]) (aM5 (l) (p+1) (([[97],[97,98,99,100],[104,101,108,108,111],[49,50,51,52,53,54,55,56],[97,32,108,111,110,103,101,114,32,109,101,115,115,97,103,101],[106,117,115,116,32,116,119,101,110,116,121,45,102,111,117,114,32,98,121,116,101,115,32,33],[109,105,120,101,100,32,98,108,111,99,107,115],[102,111,117,114,32,119,111,114,100,115,32,111,102,32,97,32,116,101,120,116]]:List (List UInt8))) (by simp) (by omega) hl2) rfl rfl rfl rfl ⟨bR rfl rfl rfl rfl (cJ rfl rfl (aU rfl (aD rfl (aD rfl aL)) trivial)),rfl⟩ (by rintro _ ⟨x,hx,rfl⟩;exact⟨rfl,.inl rfl,fun j hj=>nomatch hj⟩) (aK ⟨rfl,trivial⟩) (fun j hj=>nomatch hj) ?_))))))
 rintro _ ⟨x,hx,rfl⟩
 refine s1 (rt (cU _ ⟨x,p+1+1,⟨by omega,by omega,?_⟩,rfl⟩ (eC _ [] [] rfl ?_ rfl rfl)))
 · have hall: ∀y∈([[97],[97,98,99,100],[104,101,108,108,111],[49,50,51,52,53,54,55,56],[97,32,108,111,110,103,101,114,32,109,101,115,115,97,103,101],[106,117,115,116,32,116,119,101,110,116,121,45,102,111,117,114,32,98,121,116,101,115,32,33],[109,105,120,101,100,32,98,108,111,99,107,115],[102,111,117,114,32,119,111,114,100,115,32,111,102,32,97,32,116,101,120,116]]:List (List UInt8)),y.length≤60:=by decide
   exact hall x hx
 refine qs ?_
 repeat' first|exact qx|apply ai
 all_goals rfl
set_option maxHeartbeats 1600000 in
theorem yu (l:List UInt8) (p:Int) (hp:0≤p∧p≤800000) (hl:l.length≤2000):nj 92 1 [tP 0 0,oB 0 137 [.d (.sl (aA l)),.d (.i (p))]] (fun s=> ∃(n:bA) (q:Int),ND n∧(p≤q∧q≤p+60)∧s=[tV 0 (.e (.agg [.d (.i n.frm),.d (.i n.num),.d (.i n.to),.d (.i n.til),.d (.s n.text)])),oB 0 137 [.d (.sl (aA l)),.d (.i (q))]]):=by
 have pv0:=cD l (p:=p) (n:=4) (by omega) (by omega)
 have pv1:=cD l (p:=p+1) (n:=5) (by omega) (by omega)
 have pv2:=cD l (p:=p+1+1) (n:=4) (by omega) (by omega)
 have pv3:=cD l (p:=p+1+1+1) (n:=30) (by omega) (by omega)
 have hl2:=hl
 have hall: ∀y∈([[97],[104,101,108,108,111],[97,32,108,111,110,103,101,114,32,109,101,115,115,97,103,101],[32,120,32],[106,117,115,116,32,116,119,101,110,116,121,45,102,111,117,114,32,98,121,116,101,115,32,33]]:List (List UInt8)),y.length≤60:=by decide
 refine pj Tryz.func92 rfl (sq (rT [0,2] (s1 (sq (rE [0,2,3] (s1 (iA (bE (robj:=[(0,.box 137 [.d (.sl (aA (l))),.d (.i (p))])]) (rl:=[(0,0)]) (bor:=[]) (cL (l) (p) _ (by omega) hl2) rfl rfl rfl rfl ⟨bR rfl rfl rfl rfl (cJ rfl rfl (aU rfl (aD rfl (aD rfl aL)) trivial)),rfl⟩ rfl (.inl rfl) (aK ⟨rfl,trivial⟩) (fun _ hj=>nomatch hj) (s1 (iA (bE (robj:=[(0,.box 137 [.d (.sl (aA (l))),.d (.i (p+1))])]) (rl:=[(0,0)]) (bor:=[]) (cL (l) (p+1) _ (by omega) hl2) rfl rfl rfl rfl ⟨bR rfl rfl rfl rfl (cJ rfl rfl (aU rfl (aD rfl (aD rfl aL)) trivial)),rfl⟩ rfl (.inl rfl) (aK ⟨rfl,trivial⟩) (fun _ hj=>nomatch hj) (s2 (iA (bE (robj:=[(0,.box 137 [.d (.sl (aA (l))),.d (.i (p+1+1))])]) (rl:=[(0,0)]) (bor:=[]) (cL (l) (p+1+1) _ (by omega) hl2) rfl rfl rfl rfl ⟨bR rfl rfl rfl rfl (cJ rfl rfl (aU rfl (aD rfl (aD rfl aL)) trivial)),rfl⟩ rfl (.inl rfl) (aK ⟨rfl,trivial⟩) (fun _ hj=>nomatch hj) ?_))))))))))))))
 refine s1 (iA (bE (robj:=[(0,.box 137 [.d (.sl (aA (l))),.d (.i (p+1+1+1))])]) (rl:=[(0,0)]) (bor:=[]) (cL (l) (p+1+1+1) _ (by omega) hl2) rfl rfl rfl rfl ⟨bR rfl rfl rfl rfl (cJ rfl rfl (aU rfl (aD rfl (aD rfl aL)) trivial)),rfl⟩ rfl (.inl rfl) (aK ⟨rfl,trivial⟩) (fun _ hj=>nomatch hj) (s2 (ai (by exact⟨by simp,by decide⟩) (zF 15 15 rfl rfl rfl rfl (cQ (robj:=[(0,.box 137 [.d (.sl (aA (l))),.d (.i (p+1+1+1+1))])]) (rl:=[(0,0)]) (bor:=[]) (news:=[]) (aM5 (l) (p+1+1+1+1) (([[97],[104,101,108,108,111],[97,32,108,111,110,103,101,114,32,109,101,115,115,97,103,101],[32,120,32],[106,117,115,116,32,116,119,101,110,116,121,45,102,111,117,114,32,98,121,116,101,115,32,33]]:List (List UInt8))) (by simp) (by omega) hl2) rfl rfl rfl rfl ⟨bR rfl rfl rfl rfl (cJ rfl rfl (aU rfl (aD rfl (aD rfl aL)) trivial)),rfl⟩ (by rintro _ ⟨x,hx,rfl⟩;exact⟨rfl,.inl rfl,fun j hj=>nomatch hj⟩) (aK ⟨rfl,trivial⟩) (fun j hj=>nomatch hj) ?_))))))
 rintro _ ⟨x,hx,rfl⟩
 refine s3 (sq (sq (rT [0,2,3,19] (s1 (bE (robj:=[(0,.box 137 [.d (.sl (aA (l))),.d (.i (p+1+1+1+1+1))])]) (rl:=[(0,0)]) (bor:=[]) (cL (l) (p+1+1+1+1+1) _ (by omega) hl2) rfl rfl rfl rfl ⟨bR rfl rfl rfl rfl (cJ rfl rfl (aU rfl (aD rfl (aD rfl aL)) trivial)),rfl⟩ rfl (.inl rfl) (aK ⟨rfl,trivial⟩) (fun _ hj=>nomatch hj) (bk (sq (rT [0,2,3,19,20] (s2 (cd rfl (fun c20=> ?_) fun c20=> ?_))))))))))
 · have hv:=cD l (p:=p+1+1+1+1+1+1) (n:=2) (by omega) (by omega)
   refine rT [2,3] (ai (by exact⟨by simp,by decide⟩) (s1 (bE (robj:=[(0,.box 137 [.d (.sl (aA (l))),.d (.i (p+1+1+1+1+1+1))])]) (rl:=[(0,0)]) (bor:=[]) (cL (l) (p+1+1+1+1+1+1) _ (by omega) hl2) rfl rfl rfl rfl ⟨bR rfl rfl rfl rfl (cJ rfl rfl (aU rfl (aD rfl (aD rfl aL)) trivial)),rfl⟩ rfl (.inl rfl) (aK ⟨rfl,trivial⟩) (fun _ hj=>nomatch hj) (ai ⟨rfl,hv.1,hv.2⟩ (ai (aDk (l:=[-1,4]) (by simp;omega) rfl) (s2 (sq (rT [2] (s2 (rt ?_))))))))))
   first
    |(refine cU _ ⟨⟨?za1,?zb1,?zc1,?zd1,x⟩,p+1+1+1+1+1+1+1,?zn1,⟨by omega,by omega⟩,rfl⟩ (eC _ [] [] rfl ?_ rfl rfl)
      repeat' first|exact trivial|refine lO rfl ?_|refine cJ rfl ?_ ?_|refine jD rfl rfl ?_ rfl ?_|refine bV rfl ?_ ?_|refine bR rfl rfl rfl rfl ?_|refine aU rfl ?_ ?_|refine dN rfl ?_ ?_|exact aL|refine aD ?_ ?_|refine jQ ?_|refine bP rfl ?_ rfl ?_|refine eJ rfl rfl rfl ?_
      try any_goals with_reducible rfl
      try any_goals rfl
      refine⟨⟨?_,?_,?_,?_⟩,?_⟩
      all_goals(try dsimp only)
      all_goals first|exact hall x hx|omega|(refine⟨?_,?_⟩<;>rw[aC (by omega)]<;>omega)|exact eG (l:=[-1,4]) (j:=(bL l (p+1+1+1+1+1+1) 2).toNat) (by decide) (by simp;omega)|exact eG (l:=[0,99,100]) (j:=(bL l (p+1+1+1+1+1+1) 3).toNat) (by decide) (by simp;omega)|exact eG (l:=[0,999,1000]) (j:=(bL l (p+1+1+1+1+1+1) 3).toNat) (by decide) (by simp;omega)
      done)
    |(refine cU _ ⟨⟨?za1,?zb1,?zc1,?zd1,x⟩,p+1+1+1+1+1+1,?zn1,⟨by omega,by omega⟩,rfl⟩ (eC _ [] [] rfl ?_ rfl rfl)
      repeat' first|exact trivial|refine lO rfl ?_|refine cJ rfl ?_ ?_|refine jD rfl rfl ?_ rfl ?_|refine bV rfl ?_ ?_|refine bR rfl rfl rfl rfl ?_|refine aU rfl ?_ ?_|refine dN rfl ?_ ?_|exact aL|refine aD ?_ ?_|refine jQ ?_|refine bP rfl ?_ rfl ?_|refine eJ rfl rfl rfl ?_
      try any_goals with_reducible rfl
      try any_goals rfl
      refine⟨⟨?_,?_,?_,?_⟩,?_⟩
      all_goals(try dsimp only)
      all_goals first|exact hall x hx|omega|(refine⟨?_,?_⟩<;>rw[aC (by omega)]<;>omega)|exact eG (l:=[-1,4]) (j:=(bL l (p+1+1+1+1+1+1) 2).toNat) (by decide) (by simp;omega)|exact eG (l:=[0,99,100]) (j:=(bL l (p+1+1+1+1+1+1) 3).toNat) (by decide) (by simp;omega)|exact eG (l:=[0,999,1000]) (j:=(bL l (p+1+1+1+1+1+1) 3).toNat) (by decide) (by simp;omega)
      done)
    |(refine cU _ ⟨⟨?za1,?zb1,?zc1,?zd1,y⟩,q,?zn1,⟨by omega,by omega⟩,rfl⟩ (eC _ [] [] rfl ?_ rfl rfl)
      repeat' first|exact trivial|refine lO rfl ?_|refine cJ rfl ?_ ?_|refine jD rfl rfl ?_ rfl ?_|refine bV rfl ?_ ?_|refine bR rfl rfl rfl rfl ?_|refine aU rfl ?_ ?_|refine dN rfl ?_ ?_|exact aL|refine aD ?_ ?_|refine jQ ?_|refine bP rfl ?_ rfl ?_|refine eJ rfl rfl rfl ?_
      try any_goals with_reducible rfl
      try any_goals rfl
      refine⟨⟨?_,?_,?_,?_⟩,?_⟩
      all_goals(try dsimp only)
      all_goals first|exact hq.2.2|omega|(refine⟨?_,?_⟩<;>rw[aC (by omega)]<;>omega)|exact eG (l:=[-1,4]) (j:=(bL l (p+1+1+1+1+1+1) 2).toNat) (by decide) (by simp;omega)|exact eG (l:=[0,99,100]) (j:=(bL l (p+1+1+1+1+1+1) 3).toNat) (by decide) (by simp;omega)|exact eG (l:=[0,999,1000]) (j:=(bL l (p+1+1+1+1+1+1) 3).toNat) (by decide) (by simp;omega)
      done)
 refine sq (rT [0,2,3,19,28] (s2 (cd rfl (fun c28=> ?_) fun c28=> ?_)))
 · have hv:=cD l (p:=p+1+1+1+1+1+1) (n:=3) (by omega) (by omega)
   refine rT [2,3] (ai (by exact⟨by simp,by decide⟩) (s1 (bE (robj:=[(0,.box 137 [.d (.sl (aA (l))),.d (.i (p+1+1+1+1+1+1))])]) (rl:=[(0,0)]) (bor:=[]) (cL (l) (p+1+1+1+1+1+1) _ (by omega) hl2) rfl rfl rfl rfl ⟨bR rfl rfl rfl rfl (cJ rfl rfl (aU rfl (aD rfl (aD rfl aL)) trivial)),rfl⟩ rfl (.inl rfl) (aK ⟨rfl,trivial⟩) (fun _ hj=>nomatch hj) (ai ⟨rfl,hv.1,hv.2⟩ (ai (aDk (l:=[0,99,100]) (by simp;omega) rfl) (s2 (sq (rT [2] (s2 (rt ?_))))))))))
   first
    |(refine cU _ ⟨⟨?za2,?zb2,?zc2,?zd2,x⟩,p+1+1+1+1+1+1+1,?zn2,⟨by omega,by omega⟩,rfl⟩ (eC _ [] [] rfl ?_ rfl rfl)
      repeat' first|exact trivial|refine lO rfl ?_|refine cJ rfl ?_ ?_|refine jD rfl rfl ?_ rfl ?_|refine bV rfl ?_ ?_|refine bR rfl rfl rfl rfl ?_|refine aU rfl ?_ ?_|refine dN rfl ?_ ?_|exact aL|refine aD ?_ ?_|refine jQ ?_|refine bP rfl ?_ rfl ?_|refine eJ rfl rfl rfl ?_
      try any_goals with_reducible rfl
      try any_goals rfl
      refine⟨⟨?_,?_,?_,?_⟩,?_⟩
      all_goals(try dsimp only)
      all_goals first|exact hall x hx|omega|(refine⟨?_,?_⟩<;>rw[aC (by omega)]<;>omega)|exact eG (l:=[-1,4]) (j:=(bL l (p+1+1+1+1+1+1) 2).toNat) (by decide) (by simp;omega)|exact eG (l:=[0,99,100]) (j:=(bL l (p+1+1+1+1+1+1) 3).toNat) (by decide) (by simp;omega)|exact eG (l:=[0,999,1000]) (j:=(bL l (p+1+1+1+1+1+1) 3).toNat) (by decide) (by simp;omega)
      done)
    |(refine cU _ ⟨⟨?za2,?zb2,?zc2,?zd2,x⟩,p+1+1+1+1+1+1,?zn2,⟨by omega,by omega⟩,rfl⟩ (eC _ [] [] rfl ?_ rfl rfl)
      repeat' first|exact trivial|refine lO rfl ?_|refine cJ rfl ?_ ?_|refine jD rfl rfl ?_ rfl ?_|refine bV rfl ?_ ?_|refine bR rfl rfl rfl rfl ?_|refine aU rfl ?_ ?_|refine dN rfl ?_ ?_|exact aL|refine aD ?_ ?_|refine jQ ?_|refine bP rfl ?_ rfl ?_|refine eJ rfl rfl rfl ?_
      try any_goals with_reducible rfl
      try any_goals rfl
      refine⟨⟨?_,?_,?_,?_⟩,?_⟩
      all_goals(try dsimp only)
      all_goals first|exact hall x hx|omega|(refine⟨?_,?_⟩<;>rw[aC (by omega)]<;>omega)|exact eG (l:=[-1,4]) (j:=(bL l (p+1+1+1+1+1+1) 2).toNat) (by decide) (by simp;omega)|exact eG (l:=[0,99,100]) (j:=(bL l (p+1+1+1+1+1+1) 3).toNat) (by decide) (by simp;omega)|exact eG (l:=[0,999,1000]) (j:=(bL l (p+1+1+1+1+1+1) 3).toNat) (by decide) (by simp;omega)
      done)
    |(refine cU _ ⟨⟨?za2,?zb2,?zc2,?zd2,y⟩,q,?zn2,⟨by omega,by omega⟩,rfl⟩ (eC _ [] [] rfl ?_ rfl rfl)
      repeat' first|exact trivial|refine lO rfl ?_|refine cJ rfl ?_ ?_|refine jD rfl rfl ?_ rfl ?_|refine bV rfl ?_ ?_|refine bR rfl rfl rfl rfl ?_|refine aU rfl ?_ ?_|refine dN rfl ?_ ?_|exact aL|refine aD ?_ ?_|refine jQ ?_|refine bP rfl ?_ rfl ?_|refine eJ rfl rfl rfl ?_
      try any_goals with_reducible rfl
      try any_goals rfl
      refine⟨⟨?_,?_,?_,?_⟩,?_⟩
      all_goals(try dsimp only)
      all_goals first|exact hq.2.2|omega|(refine⟨?_,?_⟩<;>rw[aC (by omega)]<;>omega)|exact eG (l:=[-1,4]) (j:=(bL l (p+1+1+1+1+1+1) 2).toNat) (by decide) (by simp;omega)|exact eG (l:=[0,99,100]) (j:=(bL l (p+1+1+1+1+1+1) 3).toNat) (by decide) (by simp;omega)|exact eG (l:=[0,999,1000]) (j:=(bL l (p+1+1+1+1+1+1) 3).toNat) (by decide) (by simp;omega)
      done)
 refine sq (rT [0,2,3,19,36] (s2 (cd rfl (fun c36=> ?_) fun c36=> ?_)))
 · have hv:=cD l (p:=p+1+1+1+1+1+1) (n:=3) (by omega) (by omega)
   refine rT [2,3] (ai (by exact⟨by simp,by decide⟩) (s1 (bE (robj:=[(0,.box 137 [.d (.sl (aA (l))),.d (.i (p+1+1+1+1+1+1))])]) (rl:=[(0,0)]) (bor:=[]) (cL (l) (p+1+1+1+1+1+1) _ (by omega) hl2) rfl rfl rfl rfl ⟨bR rfl rfl rfl rfl (cJ rfl rfl (aU rfl (aD rfl (aD rfl aL)) trivial)),rfl⟩ rfl (.inl rfl) (aK ⟨rfl,trivial⟩) (fun _ hj=>nomatch hj) (ai ⟨rfl,hv.1,hv.2⟩ (ai (aDk (l:=[0,999,1000]) (by simp;omega) rfl) (s2 (sq (rT [2] (s2 (rt ?_))))))))))
   first
    |(refine cU _ ⟨⟨?za3,?zb3,?zc3,?zd3,x⟩,p+1+1+1+1+1+1+1,?zn3,⟨by omega,by omega⟩,rfl⟩ (eC _ [] [] rfl ?_ rfl rfl)
      repeat' first|exact trivial|refine lO rfl ?_|refine cJ rfl ?_ ?_|refine jD rfl rfl ?_ rfl ?_|refine bV rfl ?_ ?_|refine bR rfl rfl rfl rfl ?_|refine aU rfl ?_ ?_|refine dN rfl ?_ ?_|exact aL|refine aD ?_ ?_|refine jQ ?_|refine bP rfl ?_ rfl ?_|refine eJ rfl rfl rfl ?_
      try any_goals with_reducible rfl
      try any_goals rfl
      refine⟨⟨?_,?_,?_,?_⟩,?_⟩
      all_goals(try dsimp only)
      all_goals first|exact hall x hx|omega|(refine⟨?_,?_⟩<;>rw[aC (by omega)]<;>omega)|exact eG (l:=[-1,4]) (j:=(bL l (p+1+1+1+1+1+1) 2).toNat) (by decide) (by simp;omega)|exact eG (l:=[0,99,100]) (j:=(bL l (p+1+1+1+1+1+1) 3).toNat) (by decide) (by simp;omega)|exact eG (l:=[0,999,1000]) (j:=(bL l (p+1+1+1+1+1+1) 3).toNat) (by decide) (by simp;omega)
      done)
    |(refine cU _ ⟨⟨?za3,?zb3,?zc3,?zd3,x⟩,p+1+1+1+1+1+1,?zn3,⟨by omega,by omega⟩,rfl⟩ (eC _ [] [] rfl ?_ rfl rfl)
      repeat' first|exact trivial|refine lO rfl ?_|refine cJ rfl ?_ ?_|refine jD rfl rfl ?_ rfl ?_|refine bV rfl ?_ ?_|refine bR rfl rfl rfl rfl ?_|refine aU rfl ?_ ?_|refine dN rfl ?_ ?_|exact aL|refine aD ?_ ?_|refine jQ ?_|refine bP rfl ?_ rfl ?_|refine eJ rfl rfl rfl ?_
      try any_goals with_reducible rfl
      try any_goals rfl
      refine⟨⟨?_,?_,?_,?_⟩,?_⟩
      all_goals(try dsimp only)
      all_goals first|exact hall x hx|omega|(refine⟨?_,?_⟩<;>rw[aC (by omega)]<;>omega)|exact eG (l:=[-1,4]) (j:=(bL l (p+1+1+1+1+1+1) 2).toNat) (by decide) (by simp;omega)|exact eG (l:=[0,99,100]) (j:=(bL l (p+1+1+1+1+1+1) 3).toNat) (by decide) (by simp;omega)|exact eG (l:=[0,999,1000]) (j:=(bL l (p+1+1+1+1+1+1) 3).toNat) (by decide) (by simp;omega)
      done)
    |(refine cU _ ⟨⟨?za3,?zb3,?zc3,?zd3,y⟩,q,?zn3,⟨by omega,by omega⟩,rfl⟩ (eC _ [] [] rfl ?_ rfl rfl)
      repeat' first|exact trivial|refine lO rfl ?_|refine cJ rfl ?_ ?_|refine jD rfl rfl ?_ rfl ?_|refine bV rfl ?_ ?_|refine bR rfl rfl rfl rfl ?_|refine aU rfl ?_ ?_|refine dN rfl ?_ ?_|exact aL|refine aD ?_ ?_|refine jQ ?_|refine bP rfl ?_ rfl ?_|refine eJ rfl rfl rfl ?_
      try any_goals with_reducible rfl
      try any_goals rfl
      refine⟨⟨?_,?_,?_,?_⟩,?_⟩
      all_goals(try dsimp only)
      all_goals first|exact hq.2.2|omega|(refine⟨?_,?_⟩<;>rw[aC (by omega)]<;>omega)|exact eG (l:=[-1,4]) (j:=(bL l (p+1+1+1+1+1+1) 2).toNat) (by decide) (by simp;omega)|exact eG (l:=[0,99,100]) (j:=(bL l (p+1+1+1+1+1+1) 3).toNat) (by decide) (by simp;omega)|exact eG (l:=[0,999,1000]) (j:=(bL l (p+1+1+1+1+1+1) 3).toNat) (by decide) (by simp;omega)
      done)
 refine sq (rT [0,2,3,19,44] (s2 (cd rfl (fun c44=> ?_) fun c44=> ?_)))
 · refine rE [2,3] (s1 (cQ (robj:=[(0,.box 137 [.d (.sl (aA (l))),.d (.i (p+1+1+1+1+1+1))])]) (rl:=[(0,0)]) (bor:=[]) (news:=[]) (yt l (p+1+1+1+1+1+1) (by omega) hl) rfl rfl rfl rfl ⟨bR rfl rfl rfl rfl (aU rfl (aD rfl (aD rfl aL)) trivial),rfl⟩ (by rintro _ ⟨y,q,hq,rfl⟩;exact⟨rfl,.inl rfl,fun j hj=>nomatch hj⟩) (aK ⟨rfl,trivial⟩) (fun j hj=>nomatch hj) ?_))
   rintro _ ⟨y,q,hq,rfl⟩
   refine s2 (sq (rT [2] (s2 (rt ?_))))
   first
    |(refine cU _ ⟨⟨?za4,?zb4,?zc4,?zd4,x⟩,p+1+1+1+1+1+1+1,?zn4,⟨by omega,by omega⟩,rfl⟩ (eC _ [] [] rfl ?_ rfl rfl)
      repeat' first|exact trivial|refine lO rfl ?_|refine cJ rfl ?_ ?_|refine jD rfl rfl ?_ rfl ?_|refine bV rfl ?_ ?_|refine bR rfl rfl rfl rfl ?_|refine aU rfl ?_ ?_|refine dN rfl ?_ ?_|exact aL|refine aD ?_ ?_|refine jQ ?_|refine bP rfl ?_ rfl ?_|refine eJ rfl rfl rfl ?_
      try any_goals with_reducible rfl
      try any_goals rfl
      refine⟨⟨?_,?_,?_,?_⟩,?_⟩
      all_goals(try dsimp only)
      all_goals first|exact hall x hx|omega|(refine⟨?_,?_⟩<;>rw[aC (by omega)]<;>omega)|exact eG (l:=[-1,4]) (j:=(bL l (p+1+1+1+1+1+1) 2).toNat) (by decide) (by simp;omega)|exact eG (l:=[0,99,100]) (j:=(bL l (p+1+1+1+1+1+1) 3).toNat) (by decide) (by simp;omega)|exact eG (l:=[0,999,1000]) (j:=(bL l (p+1+1+1+1+1+1) 3).toNat) (by decide) (by simp;omega)
      done)
    |(refine cU _ ⟨⟨?za4,?zb4,?zc4,?zd4,x⟩,p+1+1+1+1+1+1,?zn4,⟨by omega,by omega⟩,rfl⟩ (eC _ [] [] rfl ?_ rfl rfl)
      repeat' first|exact trivial|refine lO rfl ?_|refine cJ rfl ?_ ?_|refine jD rfl rfl ?_ rfl ?_|refine bV rfl ?_ ?_|refine bR rfl rfl rfl rfl ?_|refine aU rfl ?_ ?_|refine dN rfl ?_ ?_|exact aL|refine aD ?_ ?_|refine jQ ?_|refine bP rfl ?_ rfl ?_|refine eJ rfl rfl rfl ?_
      try any_goals with_reducible rfl
      try any_goals rfl
      refine⟨⟨?_,?_,?_,?_⟩,?_⟩
      all_goals(try dsimp only)
      all_goals first|exact hall x hx|omega|(refine⟨?_,?_⟩<;>rw[aC (by omega)]<;>omega)|exact eG (l:=[-1,4]) (j:=(bL l (p+1+1+1+1+1+1) 2).toNat) (by decide) (by simp;omega)|exact eG (l:=[0,99,100]) (j:=(bL l (p+1+1+1+1+1+1) 3).toNat) (by decide) (by simp;omega)|exact eG (l:=[0,999,1000]) (j:=(bL l (p+1+1+1+1+1+1) 3).toNat) (by decide) (by simp;omega)
      done)
    |(refine cU _ ⟨⟨?za4,?zb4,?zc4,?zd4,y⟩,q,?zn4,⟨by omega,by omega⟩,rfl⟩ (eC _ [] [] rfl ?_ rfl rfl)
      repeat' first|exact trivial|refine lO rfl ?_|refine cJ rfl ?_ ?_|refine jD rfl rfl ?_ rfl ?_|refine bV rfl ?_ ?_|refine bR rfl rfl rfl rfl ?_|refine aU rfl ?_ ?_|refine dN rfl ?_ ?_|exact aL|refine aD ?_ ?_|refine jQ ?_|refine bP rfl ?_ rfl ?_|refine eJ rfl rfl rfl ?_
      try any_goals with_reducible rfl
      try any_goals rfl
      refine⟨⟨?_,?_,?_,?_⟩,?_⟩
      all_goals(try dsimp only)
      all_goals first|exact hq.2.2|omega|(refine⟨?_,?_⟩<;>rw[aC (by omega)]<;>omega)|exact eG (l:=[-1,4]) (j:=(bL l (p+1+1+1+1+1+1) 2).toNat) (by decide) (by simp;omega)|exact eG (l:=[0,99,100]) (j:=(bL l (p+1+1+1+1+1+1) 3).toNat) (by decide) (by simp;omega)|exact eG (l:=[0,999,1000]) (j:=(bL l (p+1+1+1+1+1+1) 3).toNat) (by decide) (by simp;omega)
      done)
 refine sq (rT [0,2,3,49] (s2 (cd rfl (fun c49=> ?_) fun c49=> ?_)))
 · have hv:=cD l (p:=p+1+1+1+1+1+1) (n:=2) (by omega) (by omega)
   refine rT [2,3] (ai (by exact⟨by simp,by decide⟩) (s1 (bE (robj:=[(0,.box 137 [.d (.sl (aA (l))),.d (.i (p+1+1+1+1+1+1))])]) (rl:=[(0,0)]) (bor:=[]) (cL (l) (p+1+1+1+1+1+1) _ (by omega) hl2) rfl rfl rfl rfl ⟨bR rfl rfl rfl rfl (cJ rfl rfl (aU rfl (aD rfl (aD rfl aL)) trivial)),rfl⟩ rfl (.inl rfl) (aK ⟨rfl,trivial⟩) (fun _ hj=>nomatch hj) (ai ⟨rfl,hv.1,hv.2⟩ (ai (aDk (l:=[-1,4]) (by simp;omega) rfl) (s2 (sq (rT [2] (s2 (rt ?_))))))))))
   first
    |(refine cU _ ⟨⟨?za5,?zb5,?zc5,?zd5,x⟩,p+1+1+1+1+1+1+1,?zn5,⟨by omega,by omega⟩,rfl⟩ (eC _ [] [] rfl ?_ rfl rfl)
      repeat' first|exact trivial|refine lO rfl ?_|refine cJ rfl ?_ ?_|refine jD rfl rfl ?_ rfl ?_|refine bV rfl ?_ ?_|refine bR rfl rfl rfl rfl ?_|refine aU rfl ?_ ?_|refine dN rfl ?_ ?_|exact aL|refine aD ?_ ?_|refine jQ ?_|refine bP rfl ?_ rfl ?_|refine eJ rfl rfl rfl ?_
      try any_goals with_reducible rfl
      try any_goals rfl
      refine⟨⟨?_,?_,?_,?_⟩,?_⟩
      all_goals(try dsimp only)
      all_goals first|exact hall x hx|omega|(refine⟨?_,?_⟩<;>rw[aC (by omega)]<;>omega)|exact eG (l:=[-1,4]) (j:=(bL l (p+1+1+1+1+1+1) 2).toNat) (by decide) (by simp;omega)|exact eG (l:=[0,99,100]) (j:=(bL l (p+1+1+1+1+1+1) 3).toNat) (by decide) (by simp;omega)|exact eG (l:=[0,999,1000]) (j:=(bL l (p+1+1+1+1+1+1) 3).toNat) (by decide) (by simp;omega)
      done)
    |(refine cU _ ⟨⟨?za5,?zb5,?zc5,?zd5,x⟩,p+1+1+1+1+1+1,?zn5,⟨by omega,by omega⟩,rfl⟩ (eC _ [] [] rfl ?_ rfl rfl)
      repeat' first|exact trivial|refine lO rfl ?_|refine cJ rfl ?_ ?_|refine jD rfl rfl ?_ rfl ?_|refine bV rfl ?_ ?_|refine bR rfl rfl rfl rfl ?_|refine aU rfl ?_ ?_|refine dN rfl ?_ ?_|exact aL|refine aD ?_ ?_|refine jQ ?_|refine bP rfl ?_ rfl ?_|refine eJ rfl rfl rfl ?_
      try any_goals with_reducible rfl
      try any_goals rfl
      refine⟨⟨?_,?_,?_,?_⟩,?_⟩
      all_goals(try dsimp only)
      all_goals first|exact hall x hx|omega|(refine⟨?_,?_⟩<;>rw[aC (by omega)]<;>omega)|exact eG (l:=[-1,4]) (j:=(bL l (p+1+1+1+1+1+1) 2).toNat) (by decide) (by simp;omega)|exact eG (l:=[0,99,100]) (j:=(bL l (p+1+1+1+1+1+1) 3).toNat) (by decide) (by simp;omega)|exact eG (l:=[0,999,1000]) (j:=(bL l (p+1+1+1+1+1+1) 3).toNat) (by decide) (by simp;omega)
      done)
    |(refine cU _ ⟨⟨?za5,?zb5,?zc5,?zd5,y⟩,q,?zn5,⟨by omega,by omega⟩,rfl⟩ (eC _ [] [] rfl ?_ rfl rfl)
      repeat' first|exact trivial|refine lO rfl ?_|refine cJ rfl ?_ ?_|refine jD rfl rfl ?_ rfl ?_|refine bV rfl ?_ ?_|refine bR rfl rfl rfl rfl ?_|refine aU rfl ?_ ?_|refine dN rfl ?_ ?_|exact aL|refine aD ?_ ?_|refine jQ ?_|refine bP rfl ?_ rfl ?_|refine eJ rfl rfl rfl ?_
      try any_goals with_reducible rfl
      try any_goals rfl
      refine⟨⟨?_,?_,?_,?_⟩,?_⟩
      all_goals(try dsimp only)
      all_goals first|exact hq.2.2|omega|(refine⟨?_,?_⟩<;>rw[aC (by omega)]<;>omega)|exact eG (l:=[-1,4]) (j:=(bL l (p+1+1+1+1+1+1) 2).toNat) (by decide) (by simp;omega)|exact eG (l:=[0,99,100]) (j:=(bL l (p+1+1+1+1+1+1) 3).toNat) (by decide) (by simp;omega)|exact eG (l:=[0,999,1000]) (j:=(bL l (p+1+1+1+1+1+1) 3).toNat) (by decide) (by simp;omega)
      done)
 refine sk (sq (rT [2] (s2 (rt ?_))))
 first
  |(refine cU _ ⟨⟨?za6,?zb6,?zc6,?zd6,x⟩,p+1+1+1+1+1+1+1,?zn6,⟨by omega,by omega⟩,rfl⟩ (eC _ [] [] rfl ?_ rfl rfl)
    repeat' first|exact trivial|refine lO rfl ?_|refine cJ rfl ?_ ?_|refine jD rfl rfl ?_ rfl ?_|refine bV rfl ?_ ?_|refine bR rfl rfl rfl rfl ?_|refine aU rfl ?_ ?_|refine dN rfl ?_ ?_|exact aL|refine aD ?_ ?_|refine jQ ?_|refine bP rfl ?_ rfl ?_|refine eJ rfl rfl rfl ?_
    try any_goals with_reducible rfl
    try any_goals rfl
    refine⟨⟨?_,?_,?_,?_⟩,?_⟩
    all_goals(try dsimp only)
    all_goals first|exact hall x hx|omega|(refine⟨?_,?_⟩<;>rw[aC (by omega)]<;>omega)|exact eG (l:=[-1,4]) (j:=(bL l (p+1+1+1+1+1+1) 2).toNat) (by decide) (by simp;omega)|exact eG (l:=[0,99,100]) (j:=(bL l (p+1+1+1+1+1+1) 3).toNat) (by decide) (by simp;omega)|exact eG (l:=[0,999,1000]) (j:=(bL l (p+1+1+1+1+1+1) 3).toNat) (by decide) (by simp;omega)
    done)
  |(refine cU _ ⟨⟨?za6,?zb6,?zc6,?zd6,x⟩,p+1+1+1+1+1+1,?zn6,⟨by omega,by omega⟩,rfl⟩ (eC _ [] [] rfl ?_ rfl rfl)
    repeat' first|exact trivial|refine lO rfl ?_|refine cJ rfl ?_ ?_|refine jD rfl rfl ?_ rfl ?_|refine bV rfl ?_ ?_|refine bR rfl rfl rfl rfl ?_|refine aU rfl ?_ ?_|refine dN rfl ?_ ?_|exact aL|refine aD ?_ ?_|refine jQ ?_|refine bP rfl ?_ rfl ?_|refine eJ rfl rfl rfl ?_
    try any_goals with_reducible rfl
    try any_goals rfl
    refine⟨⟨?_,?_,?_,?_⟩,?_⟩
    all_goals(try dsimp only)
    all_goals first|exact hall x hx|omega|(refine⟨?_,?_⟩<;>rw[aC (by omega)]<;>omega)|exact eG (l:=[-1,4]) (j:=(bL l (p+1+1+1+1+1+1) 2).toNat) (by decide) (by simp;omega)|exact eG (l:=[0,99,100]) (j:=(bL l (p+1+1+1+1+1+1) 3).toNat) (by decide) (by simp;omega)|exact eG (l:=[0,999,1000]) (j:=(bL l (p+1+1+1+1+1+1) 3).toNat) (by decide) (by simp;omega)
    done)
  |(refine cU _ ⟨⟨?za6,?zb6,?zc6,?zd6,y⟩,q,?zn6,⟨by omega,by omega⟩,rfl⟩ (eC _ [] [] rfl ?_ rfl rfl)
    repeat' first|exact trivial|refine lO rfl ?_|refine cJ rfl ?_ ?_|refine jD rfl rfl ?_ rfl ?_|refine bV rfl ?_ ?_|refine bR rfl rfl rfl rfl ?_|refine aU rfl ?_ ?_|refine dN rfl ?_ ?_|exact aL|refine aD ?_ ?_|refine jQ ?_|refine bP rfl ?_ rfl ?_|refine eJ rfl rfl rfl ?_
    try any_goals with_reducible rfl
    try any_goals rfl
    refine⟨⟨?_,?_,?_,?_⟩,?_⟩
    all_goals(try dsimp only)
    all_goals first|exact hq.2.2|omega|(refine⟨?_,?_⟩<;>rw[aC (by omega)]<;>omega)|exact eG (l:=[-1,4]) (j:=(bL l (p+1+1+1+1+1+1) 2).toNat) (by decide) (by simp;omega)|exact eG (l:=[0,99,100]) (j:=(bL l (p+1+1+1+1+1+1) 3).toNat) (by decide) (by simp;omega)|exact eG (l:=[0,999,1000]) (j:=(bL l (p+1+1+1+1+1+1) 3).toNat) (by decide) (by simp;omega)
    done)
theorem ef (l:List bA) (hl:l.length≤100000):Sp 61 2 [tD 0 (.sl (aE l)),tD 1 (.sl (aE l))] [tB 0 true]:=by
 refine sb Tryz.func61 rfl (sq (rT [0,1] (s1 (sq (sq (rT [0,1,10] (s5 (cd rfl (fun c10=> ?_) fun c10=> ?_))))))))
 · simp at c10
 refine sk (sq (sq (rT [0,1,5] (s1 (bk (SW.loopW (n:=l.length) (fun n s=> ∃i:Nat,n=l.length - i∧i≤l.length∧s=[tD 0 (.sl (aE l)),tD 1 (.sl (aE l)),tI 5 (i:Nat)]) ?_ ?_))))))
 · exact wq (σ':=[tD 0 (.sl (aE l)),tD 1 (.sl (aE l)),tI 5 (0:Nat)]) [] [] (⟨0,rfl,aW6 _,rfl⟩) qz
 rintro n s ⟨i,rfl,hi,rfl⟩
 refine sq (sq (rT [0,1,5,14] (s4 (cd rfl (fun c14=> ?_) fun c14=> ?_))))
 · have hi2:i<l.length:=by simpa[aB] using c14
   have hg:=aR (l:=l) hi2
   have hlen:=aB l
   refine sk (sq (bk (sq (rD [0,1,5,25] (s2 (ai (by rw[aWz,hg];exact⟨⟨by omega,by rw[hlen];omega⟩,rfl⟩) (ai (by rw[aWz,hg];exact⟨aW1 rfl,rfl⟩) (s2 (ai (by rw[aWz,hg];exact⟨⟨by omega,by rw[hlen];omega⟩,rfl⟩) (ai (by rw[aWz,hg];exact⟨aW1 rfl,rfl⟩) (aIo cX (kT aQa.zero ((aE l).getD (Int.toNat (i:Int)) []) 0) (kT aQa.zero ((aE l).getD (Int.toNat (i:Int)) []) 0) rfl rfl rfl (by kernel_rfl) (by kernel_rfl) (by kernel_rfl) (by kernel_rfl) rfl rfl (ai (by kernel_rfl) (cd rfl (fun c25=> ?_) fun c25=> ?_)))))))))))))
   · exact absurd c25 (by simp[bu,eqD,kT,aC7])
   refine sk (rT [0,1,5] (s3 (wq [] [] (⟨l.length - (i+1),by omega,i+1,rfl,by omega,rfl⟩) ?_)))
   repeat' apply ai
   all_goals first|exact qx|exact congrArg D.i (aC (by omega))|rfl|exact qz
 refine xt (sq (rT [4] (s1 (rt (bJ rfl ?_)))))
 rfl
theorem yv (l:List cB) (hl:l.length≤100000):Sp 62 2 [tD 0 (.sl (aO l)),tD 1 (.sl (aO l))] [tB 0 true]:=by
 refine sb Tryz.func62 rfl (sq (rT [0,1] (s1 (sq (sq (rT [0,1,10] (s5 (cd rfl (fun c10=> ?_) fun c10=> ?_))))))))
 · simp at c10
 refine sk (sq (sq (rT [0,1,5] (s1 (bk (SW.loopW (n:=l.length) (fun n s=> ∃i:Nat,n=l.length - i∧i≤l.length∧s=[tD 0 (.sl (aO l)),tD 1 (.sl (aO l)),tI 5 (i:Nat)]) ?_ ?_))))))
 · exact wq (σ':=[tD 0 (.sl (aO l)),tD 1 (.sl (aO l)),tI 5 (0:Nat)]) [] [] (⟨0,rfl,aW6 _,rfl⟩) qz
 rintro n s ⟨i,rfl,hi,rfl⟩
 refine sq (sq (rT [0,1,5,14] (s4 (cd rfl (fun c14=> ?_) fun c14=> ?_))))
 · have hi2:i<l.length:=by simpa[aF] using c14
   have hg:=bW (l:=l) hi2
   have hlen:=aF l
   refine sk (sq (bk (sq (rD [0,1,5,25] (s2 (ai (by rw[aWz,hg];exact⟨⟨by omega,by rw[hlen];omega⟩,rfl⟩) (ai (by rw[aWz,hg];exact⟨aW1 rfl,rfl⟩) (s2 (ai (by rw[aWz,hg];exact⟨⟨by omega,by rw[hlen];omega⟩,rfl⟩) (ai (by rw[aWz,hg];exact⟨aW1 rfl,rfl⟩) (aIo cX (kT aJ7.zero ((aO l).getD (Int.toNat (i:Int)) []) 0) (kT aJ7.zero ((aO l).getD (Int.toNat (i:Int)) []) 0) rfl rfl rfl (by kernel_rfl) (by kernel_rfl) (by kernel_rfl) (by kernel_rfl) rfl rfl (ai (by kernel_rfl) (cd rfl (fun c25=> ?_) fun c25=> ?_)))))))))))))
   · exact absurd c25 (by simp[bu,eqD,kT,aC7])
   refine sk (rT [0,1,5] (s3 (wq [] [] (⟨l.length - (i+1),by omega,i+1,rfl,by omega,rfl⟩) ?_)))
   repeat' apply ai
   all_goals first|exact qx|exact congrArg D.i (aC (by omega))|rfl|exact qz
 refine xt (sq (rT [4] (s1 (rt (bJ rfl ?_)))))
 rfl
set_option maxHeartbeats 800000 in
theorem kM (k:bB) (hk:KB k):Sp 17 2 [tV 0 k.V,tV 1 k.V] [tB 0 true]:=by
 refine sb Tryz.func17 rfl (sq (rT [2,3] (s3 (sq (rT [4] (s6 (y4 (y1 (ai pk (s1 (y4 (y1 (ai pk (s1 (y4 (xc (fun h=>ef k.held (by have:=hk.1;omega)) (ai rfl (ai rk ?_))))))))))))))))))
 refine ai pk (s1 (y4 (xc (fun h=>yv k.marks (by have:=hk.1;omega)) (ai rfl (ai rk ?_)))))
 refine ai pk (s1 (y4 (xc (fun h=>ef k.inbox (by have:=hk.1;omega)) (ai rfl (ai rk ?_)))))
 refine ai pk (s1 (rt (bJ rfl (congrArg D.b ?_))))
 simp
theorem sh (a b c:Int) (h:R1 a∧R1 b∧R1 c):nj 110 3 [tI 0 a,tI 1 b,tI 2 c] (fun s=> ∃x:List UInt8,x.length≤60∧s=[tD 0 (.s x)]):=by
 have q1:=qh h.1
 have q2:=qh h.2.1
 have q3:=qh h.2.2
 refine pj Tryz.func110 rfl (sq (rT [0,1,2] (s1 (sq (rT [6] (s1 (xp (yN a (by omega)) (ai rfl ?_))))))))
 refine ai (by first|trivial|(show _≤9223372036854775807;(try simp only[aW0,aW3,aW2]);omega)) (s1 (xp (yN b (by omega)) (ai rfl ?_)))
 refine ai (by first|trivial|(show _≤9223372036854775807;(try simp only[aW0,aW3,aW2]);omega)) (ai (by first|trivial|(show _≤9223372036854775807;(try simp only[aW0,aW3,aW2]);omega)) (s1 (xp (yN c (by omega)) (ai rfl ?_))))
 refine ai (by first|trivial|(show _≤9223372036854775807;(try simp only[aW0,aW3,aW2]);omega)) (s1 (rt ?_))
 exact cU _ ⟨oq a++[32]++oq b++[32]++oq c,by simp only[aW0,aW3,aW2];omega,rfl⟩ (bJ rfl rfl)
set_option maxHeartbeats 800000 in
theorem gy (l:List UInt8) (p:Int) (hp:0≤p∧p≤790000) (hl:l.length≤2000):nj 121 1 [tP 0 0,oB 0 137 [.d (.sl (aA l)),.d (.i (p))]] (fun s=> ∃(x:List UInt8) (q:Int),(p≤q∧q≤p+70∧x.length≤130)∧s=[tD 0 (.s x),oB 0 137 [.d (.sl (aA l)),.d (.i (q))]]):=by
 have hall: ∀y∈([[111,119,110,32],[116,97,107,101,32],[116,97,107,101,32],[104,101,108,100,32],[105,110,98,111,120,32]]:List (List UInt8)),y.length≤10:=by decide
 refine pj Tryz.func121 rfl (sq (rT [0] (s1 (sq (sq (rT [0,4] (s1 (bE (robj:=[(0,.box 137 [.d (.sl (aA (l))),.d (.i (p))])]) (rl:=[(0,0)]) (bor:=[]) (cL (l) (p) _ (by omega) hl) rfl rfl rfl rfl ⟨bR rfl rfl rfl rfl (cJ rfl rfl (aU rfl (aD rfl (aD rfl aL)) trivial)),rfl⟩ rfl (.inl rfl) (aK ⟨rfl,trivial⟩) (fun _ hj=>nomatch hj) (bk (sq (rT [0,4,5] (ai (by first|trivial|(show _≤9223372036854775807;(try simp only[aW0,aW3,aW2]);omega)) (s1 (cd rfl (fun c5=> ?_) fun c5=> ?_))))))))))))))
 · refine sq (rT [2] (s1 (bE (robj:=[(0,.box 137 [.d (.sl (aA (l))),.d (.i (p+1))])]) (rl:=[(0,0)]) (bor:=[]) (cL (l) (p+1) _ (by omega) hl) rfl rfl rfl rfl ⟨bR rfl rfl rfl rfl (cJ rfl rfl (aU rfl (aD rfl (aD rfl aL)) trivial)),rfl⟩ rfl (.inl rfl) (aK ⟨rfl,trivial⟩) (fun _ hj=>nomatch hj) ?_)))
   have hpv:=cD l (p:=p+1) (n:=30) (by omega) (by omega)
   have q1:=bS (k:=6) (n:=(bL l (p+1) 30).toNat) (by simp;omega)
   refine xp (kR (bL l (p+1) 30) (by omega)) (ai rfl ?_)
   refine ai (by first|trivial|(show _≤9223372036854775807;(try simp only[aW0,aW3,aW2]);omega)) (s1 (rt (cU _ ⟨[116,105,109,101,32]++jZ (bL l (p+1) 30).toNat,p+1+1,⟨by omega,by omega,by simp only[aW0,aW3,aW2];omega⟩,rfl⟩ (eC _ [] [] rfl ?_ rfl rfl))))
   refine qs ?_
   repeat' first|exact qx|apply ai
   all_goals rfl
 refine sq (rT [0,4,11] (ai (by first|trivial|(show _≤9223372036854775807;(try simp only[aW0,aW3,aW2]);omega)) (s1 (cd rfl (fun c11=> ?_) fun c11=> ?_))))
 · refine sq (rE [2] (s1 (iA (bE (robj:=[(0,.box 137 [.d (.sl (aA (l))),.d (.i (p+1))])]) (rl:=[(0,0)]) (bor:=[]) (cL (l) (p+1) _ (by omega) hl) rfl rfl rfl rfl ⟨bR rfl rfl rfl rfl (cJ rfl rfl (aU rfl (aD rfl (aD rfl aL)) trivial)),rfl⟩ rfl (.inl rfl) (aK ⟨rfl,trivial⟩) (fun _ hj=>nomatch hj) (s1 (iA (bE (robj:=[(0,.box 137 [.d (.sl (aA (l))),.d (.i (p+1+1))])]) (rl:=[(0,0)]) (bor:=[]) (cL (l) (p+1+1) _ (by omega) hl) rfl rfl rfl rfl ⟨bR rfl rfl rfl rfl (cJ rfl rfl (aU rfl (aD rfl (aD rfl aL)) trivial)),rfl⟩ rfl (.inl rfl) (aK ⟨rfl,trivial⟩) (fun _ hj=>nomatch hj) (ai (by first|trivial|(show _≤9223372036854775807;(try simp only[aW0,aW3,aW2]);omega)) (s1 (iA (bE (robj:=[(0,.box 137 [.d (.sl (aA (l))),.d (.i (p+1+1+1))])]) (rl:=[(0,0)]) (bor:=[]) (cL (l) (p+1+1+1) _ (by omega) hl) rfl rfl rfl rfl ⟨bR rfl rfl rfl rfl (cJ rfl rfl (aU rfl (aD rfl (aD rfl aL)) trivial)),rfl⟩ rfl (.inl rfl) (aK ⟨rfl,trivial⟩) (fun _ hj=>nomatch hj) ?_)))))))))))
   refine ai (by first|trivial|(show _≤9223372036854775807;(try simp only[aW0,aW3,aW2]);omega)) (cQ (robj:=[]) (rl:=[]) (bor:=[]) (news:=[]) (sh (bL l (p+1) 4) (wrap64 (1+bL l (p+1+1) 3)) (wrap64 (1+bL l (p+1+1+1) 30)) (by have:=cD l (p:=p+1) (n:=4) (by omega) (by omega);have:=cD l (p:=p+1+1) (n:=3) (by omega) (by omega);have:=cD l (p:=p+1+1+1) (n:=30) (by omega) (by omega);rw[aC (by omega),aC (by omega)];omega)) rfl rfl rfl rfl ⟨cJ rfl rfl (cJ rfl rfl (cJ rfl rfl (trivial))),rfl⟩ (by rintro _ ⟨y,hy,rfl⟩;exact⟨rfl,.inl rfl,fun j hj=>nomatch hj⟩) (fun p hp=>nomatch hp) (fun j hj=>nomatch hj) ?_)
   rintro _ ⟨y,hy,rfl⟩
   refine ai (by first|trivial|(show _≤9223372036854775807;(try simp only[aW0,aW3,aW2]);omega)) (s1 (rt (cU _ ⟨[108,101,116,32]++y,p+1+1+1+1,⟨by omega,by omega,by simp only[aW0,aW3,aW2];omega⟩,rfl⟩ (eC _ [] [] rfl ?_ rfl rfl))))
   refine qs ?_
   repeat' first|exact qx|apply ai
   all_goals rfl
 refine sq (rT [0,4,23] (ai (by first|trivial|(show _≤9223372036854775807;(try simp only[aW0,aW3,aW2]);omega)) (s1 (cd rfl (fun c23=> ?_) fun c23=> ?_))))
 · refine sq (rE [2] (s1 (iA (bE (robj:=[(0,.box 137 [.d (.sl (aA (l))),.d (.i (p+1))])]) (rl:=[(0,0)]) (bor:=[]) (cL (l) (p+1) _ (by omega) hl) rfl rfl rfl rfl ⟨bR rfl rfl rfl rfl (cJ rfl rfl (aU rfl (aD rfl (aD rfl aL)) trivial)),rfl⟩ rfl (.inl rfl) (aK ⟨rfl,trivial⟩) (fun _ hj=>nomatch hj) (s1 (iA (bE (robj:=[(0,.box 137 [.d (.sl (aA (l))),.d (.i (p+1+1))])]) (rl:=[(0,0)]) (bor:=[]) (cL (l) (p+1+1) _ (by omega) hl) rfl rfl rfl rfl ⟨bR rfl rfl rfl rfl (cJ rfl rfl (aU rfl (aD rfl (aD rfl aL)) trivial)),rfl⟩ rfl (.inl rfl) (aK ⟨rfl,trivial⟩) (fun _ hj=>nomatch hj) (ai (by first|trivial|(show _≤9223372036854775807;(try simp only[aW0,aW3,aW2]);omega)) (s1 (iA (bE (robj:=[(0,.box 137 [.d (.sl (aA (l))),.d (.i (p+1+1+1))])]) (rl:=[(0,0)]) (bor:=[]) (cL (l) (p+1+1+1) _ (by omega) hl) rfl rfl rfl rfl ⟨bR rfl rfl rfl rfl (cJ rfl rfl (aU rfl (aD rfl (aD rfl aL)) trivial)),rfl⟩ rfl (.inl rfl) (aK ⟨rfl,trivial⟩) (fun _ hj=>nomatch hj) ?_)))))))))))
   refine ai (by first|trivial|(show _≤9223372036854775807;(try simp only[aW0,aW3,aW2]);omega)) (cQ (robj:=[]) (rl:=[]) (bor:=[]) (news:=[]) (sh (bL l (p+1) 4) (wrap64 (1+bL l (p+1+1) 3)) (wrap64 (1+bL l (p+1+1+1) 30)) (by have:=cD l (p:=p+1) (n:=4) (by omega) (by omega);have:=cD l (p:=p+1+1) (n:=3) (by omega) (by omega);have:=cD l (p:=p+1+1+1) (n:=30) (by omega) (by omega);rw[aC (by omega),aC (by omega)];omega)) rfl rfl rfl rfl ⟨cJ rfl rfl (cJ rfl rfl (cJ rfl rfl (trivial))),rfl⟩ (by rintro _ ⟨y,hy,rfl⟩;exact⟨rfl,.inl rfl,fun j hj=>nomatch hj⟩) (fun p hp=>nomatch hp) (fun j hj=>nomatch hj) ?_)
   rintro _ ⟨y,hy,rfl⟩
   refine ai (by first|trivial|(show _≤9223372036854775807;(try simp only[aW0,aW3,aW2]);omega)) (s1 (rt (cU _ ⟨[101,97,116,32]++y,p+1+1+1+1,⟨by omega,by omega,by simp only[aW0,aW3,aW2];omega⟩,rfl⟩ (eC _ [] [] rfl ?_ rfl rfl))))
   refine qs ?_
   repeat' first|exact qx|apply ai
   all_goals rfl
 refine sq (rT [0,35] (ai (by first|trivial|(show _≤9223372036854775807;(try simp only[aW0,aW3,aW2]);omega)) (s1 (cd rfl (fun c35=> ?_) fun c35=> ?_))))
 · refine sq (rE [2] (s1 (cQ (robj:=[]) (rl:=[]) (bor:=[]) (news:=[]) (oZ [122] 60 rfl (by omega)) rfl rfl rfl rfl ⟨cJ rfl rfl (cJ rfl rfl (trivial)),rfl⟩ (by rintro _ ⟨x1,hx1,rfl⟩;exact⟨rfl,.inl rfl,fun j hj=>nomatch hj⟩) (fun p hp=>nomatch hp) (fun j hj=>nomatch hj) ?_)))
   rintro _ ⟨x1,hx1,rfl⟩
   refine cQ (robj:=[]) (rl:=[]) (bor:=[]) (news:=[]) (oZ [122] 61 rfl (by omega)) rfl rfl rfl rfl ⟨cJ rfl rfl (cJ rfl rfl (trivial)),rfl⟩ (by rintro _ ⟨x2,hx2,rfl⟩;exact⟨rfl,.inl rfl,fun j hj=>nomatch hj⟩) (fun p hp=>nomatch hp) (fun j hj=>nomatch hj) ?_
   rintro _ ⟨x2,hx2,rfl⟩
   refine ai (by exact⟨by simp,aW1 rfl⟩) (zF 40 40 rfl rfl rfl rfl (cQ (robj:=[(0,.box 137 [.d (.sl (aA (l))),.d (.i (p+1))])]) (rl:=[(0,0)]) (bor:=[]) (news:=[]) (aM5 (l) (p+1) (([[],[119,104,97,116],[116,105,109,101],[116,105,109,101,32,48],[116,105,109,101,32,48,49],[110,101,120,116,32,51],[110,101,120,116,32,49],[109,97,114,107,32,48,32,49,32,53],[109,97,114,107,32,48,32,49],[109,97,114,107,32,48,32,49,32,53,32],[104,101,108,100,32,48,32,49,32,50,32,57,32,120],[105,110,98,111,120,32,48,32,49,32,50,32,57,32,120],x1,x2]:List (List UInt8))) (by simp) (by omega) hl) rfl rfl rfl rfl ⟨bR rfl rfl rfl rfl (cJ rfl rfl (aU rfl (aD rfl (aD rfl aL)) trivial)),rfl⟩ (by rintro _ ⟨x,hx,rfl⟩;exact⟨rfl,.inl rfl,fun j hj=>nomatch hj⟩) (aK ⟨rfl,trivial⟩) (fun j hj=>nomatch hj) ?_))
   rintro _ ⟨x,hx,rfl⟩
   refine s1 (rt (cU _ ⟨x,p+1+1,⟨by omega,by omega,?_⟩,rfl⟩ (eC _ [] [] rfl ?_ rfl rfl)))
   · simp at hx;rcases hx with rfl|rfl|rfl|rfl|rfl|rfl|rfl|rfl|rfl|rfl|rfl|rfl|rfl|rfl<;>first|omega|(simp;done)
   refine qs ?_
   repeat' first|exact qx|apply ai
   all_goals rfl
 refine sk (sq (rE [2] (s1 (ai (by exact⟨by simp,by decide⟩) (zF 43 43 rfl rfl rfl rfl (cQ (robj:=[(0,.box 137 [.d (.sl (aA (l))),.d (.i (p+1))])]) (rl:=[(0,0)]) (bor:=[]) (news:=[]) (aM5 (l) (p+1) (([[111,119,110,32],[116,97,107,101,32],[116,97,107,101,32],[104,101,108,100,32],[105,110,98,111,120,32]]:List (List UInt8))) (by simp) (by omega) hl) rfl rfl rfl rfl ⟨bR rfl rfl rfl rfl (cJ rfl rfl (aU rfl (aD rfl (aD rfl aL)) trivial)),rfl⟩ (by rintro _ ⟨x,hx,rfl⟩;exact⟨rfl,.inl rfl,fun j hj=>nomatch hj⟩) (aK ⟨rfl,trivial⟩) (fun j hj=>nomatch hj) ?_))))))
 rintro _ ⟨x,hx,rfl⟩
 have hxl:=hall x hx
 refine s1 (cQ (robj:=[(0,.box 137 [.d (.sl (aA (l))),.d (.i (p+1+1))])]) (rl:=[(0,0)]) (bor:=[]) (news:=[]) (yu l (p+1+1) (by omega) hl) rfl rfl rfl rfl ⟨bR rfl rfl rfl rfl (aU rfl (aD rfl (aD rfl aL)) trivial),rfl⟩ (by rintro _ ⟨n1,q1,hn1,hq1,rfl⟩;exact⟨rfl,.inl rfl,fun j hj=>nomatch hj⟩) (aK ⟨rfl,trivial⟩) (fun j hj=>nomatch hj) ?_)
 rintro _ ⟨n1,q1,hn1,hq1,rfl⟩
 have hwl:=nQ n1
 have hnt:=hn1.2
 refine iA (xp (kN n1 (by omega)) (ai rfl ?_))
 refine ai (by first|trivial|(show _≤9223372036854775807;(try simp only[aW0,aW3,aW2]);omega)) (s1 (rt (cU _ ⟨x++gB n1,q1,⟨by omega,by omega,by simp only[aW0,aW3,aW2];omega⟩,rfl⟩ (eC _ [] [] rfl ?_ rfl rfl))))
 refine qs ?_
 repeat' first|exact qx|apply ai
 all_goals rfl
theorem yw (l:List dT) (f m:Int) (hl:l.length≤1000000):Sp 242 3 [tD 0 (.sl (aX l)),tI 1 f,tI 2 m] [tI 0 (gV l f m)]:=by
 refine sb Tryz.func242 rfl (sq (rT [0,1,2] (s1 (sq (sq (rT [0,1,2,7] (s1 (bk (SW.loopW (n:=l.length) (fun n q=> ∃i:Nat,n=l.length - i∧i≤l.length∧(∀k,k<i→iJ l f m k=false)∧q=[tD 0 (.sl (aX l)),tI 1 f,tI 2 m,tI 7 (i:Nat)]) ?_ ?_)))))))))
 · exact wq (σ':=[tD 0 (.sl (aX l)),tI 1 f,tI 2 m,tI 7 (0:Nat)]) [] [] (⟨0,rfl,aW6 _,fun k h=>absurd h (by omega),rfl⟩) qz
 rintro n s ⟨i,rfl,hi,hk,rfl⟩
 refine sq (sq (rT [0,1,2,7,11] (s4 (cd rfl (fun c11=> ?_) fun c11=> ?_))))
 · have hi2:i<l.length:=by simpa[aG] using c11
   have hg:=gJ (l:=l) hi2
   refine sk (sq (bk (sq (rT [0,1,2,7,29] (s2 (ai (by rw[aWz,hg];exact⟨⟨by omega,by rw[aG];omega⟩,rfl⟩) (s1 (ai (by rw[aWz,hg];exact⟨aW1 rfl,rfl⟩) (s3 (y2 (ai (fun h=>(by rw[aWz,hg];exact⟨⟨by omega,by rw[aG];omega⟩,rfl⟩)) (ai rk (y1 (ai (fun h=>(by rw[aWz,hg];exact⟨aW1 rfl,rfl⟩)) (ai rk (y2 (ai pk (cd rfl (fun c29=> ?_) fun c29=> ?_))))))))))))))))))
   · refine sq (rT [6] (s2 (rt (bJ rfl (congrArg D.i ?_)))))
     have hs:iJ l f m i=true:=by
      have h9:=c29
      rw[aWz,hg] at h9
      exact h9
     exact(lV (aW6 _) (by omega) (fun j _ h=>hk j h) hs).symm
   refine sk (rT [0,1,2,7] (s3 ?_))
   have hs:iJ l f m i=false:=by
    have h9:=c29
    rw[aWz,hg] at h9
    exact h9
   refine wq [] [] (⟨l.length - (i+1),by omega,i+1,rfl,by omega,fun k h=>by by_cases e:k=i;exact e▸hs;exact hk k (by omega),rfl⟩) ?_
   repeat' apply ai
   all_goals first|exact qx|exact congrArg D.i (aC (by omega))|exact qz
 have hi3:i=l.length:=by simp[aG] at c11;omega
 refine xt (sq (rT [6] (s1 (rt (bJ rfl (congrArg D.i ?_))))))
 exact(lY (fun j _ h=>hk j (by omega))).symm
theorem yx (l:List dT) (a:Int) (ha:0≤a∧a<l.length) (hl:l.length≤100000):Sp 241 2 [tD 0 (.sl (aX l)),tI 1 a] [tO 0 0 (gX l a.toNat).length,oR 0 85 6 (aX (gX l a.toNat))]:=by
 obtain⟨i,rfl⟩:=Int.eq_ofNat_of_zero_le ha.1
 have hw:wrap64 ((i:Int)+1)=((i+1:Nat):Int):=by rw[aC (by omega)];omega
 refine sb Tryz.func241 rfl (sq (rT [0,1] (s1 (sq (rD [4] (ai (by simp) (s2 (ai (by exact⟨by rw[aG];exact⟨by first|(simp;done)|(simp;omega),by first|(simp;done)|(simp;omega),by first|(simp;done)|(simp;omega)⟩,sR _⟩) (ai (by exact⟨by first|trivial|rfl|(simp;done),by first|rfl|(simp[aG];done),by first|exact ln l _ _|(simp;done),by(try simp only[aW0,aW3,aW2,aW5,aW9,aG,jR,jS,jT,jU]);show _*64≤_;omega⟩) (s3 (ai (by rw[hw];exact⟨by rw[aG];exact⟨by first|(simp;done)|(simp;omega),by first|(simp;done)|(simp;omega),by first|(simp;done)|(simp;omega)⟩,sR _⟩) (ai (by exact⟨by first|trivial|rfl|(simp;done),by first|rfl|(simp[aG];done),by first|exact ln l _ _|(simp;done),by(try simp only[hw]);(try simp only[aW0,aW3,aW2,aW5,aW9,aG,jR,jS,jT,jU]);show _*64≤_;omega⟩) (s1 (ai (by kernel_rfl) (rt (eC _ [(0,5)] [] rfl (jD rfl rfl ?_ rfl (bV rfl ?_ trivial)) rfl rfl))))))))))))))))
 · rw[hw,vO,zO];simp[aX,gX]
 rw[hw,vO,zO];simp[aX,gX,List.map_take,List.map_drop]
theorem yy (l:List dT) (a:Int) (ha:0≤a∧a<l.length) (hl:l.length≤100000):Ab.Spec Tryz.prog 241 2 [(.t 0,.v (Dv (.sl (aX l)))),(.t 1,.v (I a))] [(.t 0,.v (Dv (.sl (aX (gX l a.toNat)))))]:=
 Spec.told (rl:=[]) (bor:=[0]) (yx l a ha hl) (eW rfl rfl rfl (aG _) rfl trivial) rfl rfl
set_option maxHeartbeats 800000 in
theorem aM6 (k:aH) (hl:k.log.length≤900000):Sp 59 1 [tV 0 (.e (.agg [.d (.i (k).id),.d (.b (k).up),.d (.s (k).log),.d (.i (k).forced),.own 0 k.halves.length])),oR 0 85 6 (aX k.halves)] [tV 0 (.tup [.agg [.d (.i (bC k).1.id),.d (.i (bC k).1.time),.d (.i (bC k).1.next),.d (.sl (aE (bC k).1.held)),.d (.sl (aO (bC k).1.marks)),.d (.sl (aE (bC k).1.inbox))],.c (.d (.b (bC k).2))]),oR 0 85 6 (aX k.halves)]:=by
 refine sb Tryz.func59 rfl (sq (rT [1,2] (s3 (sq (rT [1,2,4] (s3 (xp (fQ k.log (by omega)) (ai rfl ?_))))))))
 refine s5 (sq (rT [2,3] (s3 (xp (xQ k.id (bD k.log).1 (jF k.log hl).1 (jF k.log hl).2) (ai rfl ?_)))))
 exact s4 (rt (eC _ [] [] rfl (aUx rfl (aRm (aD rfl (aD rfl (aD rfl (aD rfl (aD rfl (aD rfl aL)))))) (aWu rfl aO2)) (bV rfl rfl trivial)) rfl rfl))
theorem sK (a:Int) (f:cH):Sp 238 2 [tI 0 a,tV 1 f.V] [tV 0 ((bx a f).V)]:=by
 exact sb Tryz.func238 rfl (sq (rT [0,3,4] (s2 (sq (rT [4] (s9 (s6 (rt (eC _ [] [] rfl (dN rfl (aD rfl (aD rfl (aD rfl (aD rfl (aD rfl (aD rfl (aD rfl (aD rfl (aD rfl (aD rfl aL)))))))))) trivial) rfl rfl)))))))))
set_option maxHeartbeats 3200000 in
theorem aA3 (k:aH) (f:cH) (hb:k.halves.length≤3) (hb2: ∀x∈k.halves,x.got.length≤14):Sp 239 2 [tV 0 (.e (.agg [.d (.i (k).id),.d (.b (k).up),.d (.s (k).log),.d (.i (k).forced),.own 0 k.halves.length])),(.t 1,.v f.V),oR 0 85 6 (aX k.halves)] [tV 0 (.tup [.agg [.d (.i ((eB k (bY k.halves f).1)).id),.d (.b ((eB k (bY k.halves f).1)).up),.d (.s ((eB k (bY k.halves f).1)).log),.d (.i ((eB k (bY k.halves f).1)).forced),.d (.sl (aX ((eB k (bY k.halves f).1)).halves))],.c (.d (.i (bY k.halves f).2))])]:=by
 have hlt:=yb (f:=f) hb
 have hg14:=aEa (f:=f) hb2
 refine sb Tryz.func239 rfl (sq (rT [2,3,4] (s4 (sq (wa [tP 2 2,tP 3 3,tP 4 4,oB 2 27 [.d (.i (k).id),.d (.b (k).up),.d (.s (k).log),.d (.i (k).forced),.own 0 k.halves.length],oB 3 63 [.d (.i f.kind),.d (.i f.src),.d (.i f.dst),.d (.i f.frm),.d (.i f.num),.d (.i f.to),.d (.i f.til),.d (.i f.size),.d (.i f.mix),.d (.s f.data)],oB 4 27 [.d (.i 0),.d (.b false),.d (.s []),.d (.i 0),.nil],oR 0 85 6 (aX k.halves)] [] [] qz (rT [2,3,4,6] (s6 (bE (robj:=[(0,.row 85 6 (aX k.halves))]) (rl:=[]) (bor:=[0]) (yw k.halves f.frm f.num (by omega)) rfl rfl rfl rfl ⟨eW rfl rfl rfl (aG _) rfl (cJ rfl rfl (cJ rfl rfl trivial)),rfl⟩ rfl (.inr (fun p hp=>by simp at hp;subst hp;trivial)) (aK ⟨rfl,trivial⟩) (fun j hj=>nomatch hj) ?_))))))))
 refine s1 (SW.midW (fun q=>q=[tP 2 2,tP 3 3,tP 4 4,tI 6 ((dO k.halves f).2:Nat),oB 2 27 [.d (.i (k).id),.d (.b (k).up),.d (.s (k).log),.d (.i (k).forced),.own 50 (dO k.halves f).1.length],oB 3 63 [.d (.i f.kind),.d (.i f.src),.d (.i f.dst),.d (.i f.frm),.d (.i f.num),.d (.i f.to),.d (.i f.til),.d (.i f.size),.d (.i f.mix),.d (.s f.data)],oB 4 27 [.d (.i 0),.d (.b false),.d (.s []),.d (.i 0),.nil],oR 50 85 6 (aX (dO k.halves f).1)]) ?_ ?_)
 · refine sq (rT [2,3,4,6,18] (s2 (cd rfl (fun c18=> ?_) fun c18=> ?_)))
   · have hneg:gV k.halves f.frm f.num<0:=by simpa using c18
     have hput:=dk hneg
     refine SW.midW (fun q=>q=[tP 2 2,tP 3 3,tP 4 4,oB 2 27 [.d (.i (k).id),.d (.b (k).up),.d (.s (k).log),.d (.i (k).forced),.own 50 (gT k.halves).length],oB 3 63 [.d (.i f.kind),.d (.i f.src),.d (.i f.dst),.d (.i f.frm),.d (.i f.num),.d (.i f.to),.d (.i f.til),.d (.i f.size),.d (.i f.mix),.d (.s f.data)],oB 4 27 [.d (.i 0),.d (.b false),.d (.s []),.d (.i 0),.nil],oR 50 85 6 (aX (gT k.halves))]) ?_ ?_
     · refine sq (rT [2,3,4,22] (s2 (ai (by exact aG _) (s1 (cd rfl (fun c22=> ?_) fun c22=> ?_)))))
       · have h3:3≤k.halves.length:=by simp[aG] at c22;omega
         have hcut:gT k.halves=gX k.halves (0:Int).toNat:=by unfold gT;rw[if_pos h3];rfl
         refine rE [2,3,4] (s2 (zF 24 0 rfl rfl (aG _) (by rfl) (iA (bE (robj:=[]) (rl:=[(0,25)]) (bor:=[]) (yx k.halves 0 (by omega) (by omega)) rfl rfl rfl rfl ⟨cJ rfl rfl (cJ rfl rfl trivial),rfl⟩ rfl (.inl rfl) (fun p hp=>nomatch hp) (fun j hj=>by(obtain rfl:j=0:=by simpa[jV,cA,iH] using hj);rfl) (s2 ?_)))))
         first
         |(refine wq [(50,25)] [] (rfl) ?_
           repeat' apply ai
           all_goals first|exact qx|(rw[hcut];done)|(rw[hcut];simp[aG];done)|(simp[aG];done)|exact qz)
         |(refine wq [(50,0)] [] (rfl) ?_
           repeat' apply ai
           all_goals first|exact qx|(rw[hcut];done)|(rw[hcut];simp[aG];done)|(simp[aG];done)|exact qz)
       have h3: ¬3≤k.halves.length:=by simp[aG] at c22;omega
       have hcut:gT k.halves=k.halves:=by unfold gT;rw[if_neg h3]
       refine sk ?_
       first
       |(refine wq [(50,25)] [] (rfl) ?_
         repeat' apply ai
         all_goals first|exact qx|(rw[hcut];done)|(rw[hcut];simp[aG];done)|(simp[aG];done)|exact qz)
       |(refine wq [(50,0)] [] (rfl) ?_
         repeat' apply ai
         all_goals first|exact qx|(rw[hcut];done)|(rw[hcut];simp[aG];done)|(simp[aG];done)|exact qz)
     rintro s rfl
     have hc2:=mi k.halves hb
     refine sq (rT [2,3,4] (s9 (s5 (ai (by exact⟨rfl,aG _,by intro r hr;rw[List.mem_singleton.1 hr];rfl,by show(_+1)*64≤_;omega⟩) (s2 (rT [2,3,4,6] (s2 (ai (by first|rfl|(simp[aG];done)) (s2 ?_)))))))))
     first
     |(refine wq [] [] (rfl) ?_
       repeat' apply ai
       all_goals first|exact qx|(rw[hput];done)|(rw[hput];rfl)|(rw[hput];simp[aG];done)|(rw[hput];exact oW _ (sS f))|(simp[aG];done)|(rw[hput];show D.i _=D.i (((gT k.halves).length:Nat):Int);refine congrArg D.i ?_;simp only[aW0,aW3,aW2,aG];rw[aC (by omega)];omega)|(rw[hput];show D.i _=D.i (((gV k.halves f.frm f.num).toNat:Nat):Int);exact congrArg D.i (Int.toNat_of_nonneg (by omega)).symm)|exact qz)
     |(refine wq [(50,0)] [] (rfl) ?_
       repeat' apply ai
       all_goals first|exact qx|(rw[hput];done)|(rw[hput];rfl)|(rw[hput];simp[aG];done)|(rw[hput];exact oW _ (sS f))|(simp[aG];done)|(rw[hput];show D.i _=D.i (((gT k.halves).length:Nat):Int);refine congrArg D.i ?_;simp only[aW0,aW3,aW2,aG];rw[aC (by omega)];omega)|(rw[hput];show D.i _=D.i (((gV k.halves f.frm f.num).toNat:Nat):Int);exact congrArg D.i (Int.toNat_of_nonneg (by omega)).symm)|exact qz)
   have hneg: ¬gV k.halves f.frm f.num<0:=by simpa using c18
   have hput:=jd hneg
   refine sk ?_
   first
   |(refine wq [] [] (rfl) ?_
     repeat' apply ai
     all_goals first|exact qx|(rw[hput];done)|(rw[hput];rfl)|(rw[hput];simp[aG];done)|(rw[hput];exact oW _ (sS f))|(simp[aG];done)|(rw[hput];show D.i _=D.i (((gT k.halves).length:Nat):Int);refine congrArg D.i ?_;simp only[aW0,aW3,aW2,aG];rw[aC (by omega)];omega)|(rw[hput];show D.i _=D.i (((gV k.halves f.frm f.num).toNat:Nat):Int);exact congrArg D.i (Int.toNat_of_nonneg (by omega)).symm)|exact qz)
   |(refine wq [(50,0)] [] (rfl) ?_
     repeat' apply ai
     all_goals first|exact qx|(rw[hput];done)|(rw[hput];rfl)|(rw[hput];simp[aG];done)|(rw[hput];exact oW _ (sS f))|(simp[aG];done)|(rw[hput];show D.i _=D.i (((gT k.halves).length:Nat):Int);refine congrArg D.i ?_;simp only[aW0,aW3,aW2,aG];rw[aC (by omega)];omega)|(rw[hput];show D.i _=D.i (((gV k.halves f.frm f.num).toNat:Nat):Int);exact congrArg D.i (Int.toNat_of_nonneg (by omega)).symm)|exact qz)
 rintro s rfl
 refine sq (rT [2,3,4,6,7] (s3 (ai (by exact⟨aG _,by omega,by omega⟩) (ai (by rw[aWz,gJ hlt.1];exact⟨⟨aG _,hlt.1⟩,aW1 rfl,rfl⟩) (s2 (sq (sq (wa [tP 2 2,tP 3 3,tP 4 4,tP 7 7,tI 6 ((dO k.halves f).2:Nat),oB 2 27 [.d (.i (k).id),.d (.b (k).up),.d (.s (k).log),.d (.i (k).forced),.own 50 (dO k.halves f).1.length],oB 3 63 [.d (.i f.kind),.d (.i f.src),.d (.i f.dst),.d (.i f.frm),.d (.i f.num),.d (.i f.to),.d (.i f.til),.d (.i f.size),.d (.i f.mix),.d (.s f.data)],oB 4 27 [.d (.i 0),.d (.b false),.d (.s []),.d (.i 0),.nil],oB 7 85 [.d (.i ((bT k.halves f)).frm),.d (.i ((bT k.halves f)).num),.d (.i ((bT k.halves f)).to),.d (.i ((bT k.halves f)).til),.d (.i ((bT k.halves f)).size),.d (.sl (cM ((bT k.halves f)).got))],oR 50 85 6 (aX (dO k.halves f).1)] [] [] ?_ ?_))))))))
 · repeat' apply ai
   all_goals first|exact qx|(rw[aWz,gJ hlt.1];rfl)|rfl|exact qz
 refine rT [2,3,4,6,7,70] (s6 (y4 (y1 (ai pk (s1 (y4 (y1 (ai pk (cd rfl (fun c70=> ?_) fun c70=> ?_)))))))))
 · have hno: ¬qZ (bT k.halves f) f=true:=by intro h;simp only[qZ,aW4,beq_iff_eq] at h;simp[h.1.1,h.1.2,h.2] at c70
   have hadd:=je hno
   refine sq (rT [4,5] (s3 (rt (rq [] [50] rfl ?_))))
   repeat' apply ai
   all_goals try exact qx
   all_goals(first|with_reducible rfl|(rw[hadd];done)|(rw[hadd];rfl)|exact aG _)
 have hyes:qZ (bT k.halves f) f=true:=by simp at c70;simp[qZ,c70]
 have hadd:=dl hyes
 refine sk (sq (rT [2,3,4,6,7,8] (s2 (sq (sq (rT [2,3,4,6,7,8,9] (s1 (bk (SW.loopW (n:=(bT k.halves f).got.length) (fun m q=> ∃i:Nat,m=(bT k.halves f).got.length - i∧i≤(bT k.halves f).got.length∧q=[tP 2 2,tP 3 3,tP 4 4,tP 7 7,tI 6 ((dO k.halves f).2:Nat),tO 8 72 (iS ((bT k.halves f).got.take (i)) f.mix).length,tI 9 (i:Nat),oB 2 27 [.d (.i (k).id),.d (.b (k).up),.d (.s (k).log),.d (.i (k).forced),.own 50 (dO k.halves f).1.length],oB 3 63 [.d (.i f.kind),.d (.i f.src),.d (.i f.dst),.d (.i f.frm),.d (.i f.num),.d (.i f.to),.d (.i f.til),.d (.i f.size),.d (.i f.mix),.d (.s f.data)],oB 4 27 [.d (.i 0),.d (.b false),.d (.s []),.d (.i 0),.nil],oB 7 85 [.d (.i ((bT k.halves f)).frm),.d (.i ((bT k.halves f)).num),.d (.i ((bT k.halves f)).to),.d (.i ((bT k.halves f)).til),.d (.i ((bT k.halves f)).size),.d (.sl (cM ((bT k.halves f)).got))],oR 50 85 6 (aX (dO k.halves f).1),oR 72 68 2 (cM (iS ((bT k.halves f).got.take (i)) f.mix))]) ?_ ?_)))))))))
 · refine wq (σ':=[tP 2 2,tP 3 3,tP 4 4,tP 7 7,tI 6 ((dO k.halves f).2:Nat),tO 8 72 (iS ((bT k.halves f).got.take (0)) f.mix).length,tI 9 (0:Nat),oB 2 27 [.d (.i (k).id),.d (.b (k).up),.d (.s (k).log),.d (.i (k).forced),.own 50 (dO k.halves f).1.length],oB 3 63 [.d (.i f.kind),.d (.i f.src),.d (.i f.dst),.d (.i f.frm),.d (.i f.num),.d (.i f.to),.d (.i f.til),.d (.i f.size),.d (.i f.mix),.d (.s f.data)],oB 4 27 [.d (.i 0),.d (.b false),.d (.s []),.d (.i 0),.nil],oB 7 85 [.d (.i ((bT k.halves f)).frm),.d (.i ((bT k.halves f)).num),.d (.i ((bT k.halves f)).to),.d (.i ((bT k.halves f)).til),.d (.i ((bT k.halves f)).size),.d (.sl (cM ((bT k.halves f)).got))],oR 50 85 6 (aX (dO k.halves f).1),oR 72 68 2 (cM (iS ((bT k.halves f).got.take (0)) f.mix))]) [] [] (⟨0,rfl,aW6 _,rfl⟩) ?_
   repeat' apply ai
   all_goals first|exact qx|rfl|exact qz
 rintro n s ⟨i,rfl,hi,rfl⟩
 refine sq (sq (rT [2,3,4,6,7,8,9,77] (s5 (cd rfl (fun c77=> ?_) fun c77=> ?_))))
 · have hi2:i< (bT k.halves f).got.length:=by simpa[bG] using c77
   have hg:=mB (l:=(bT k.halves f).got) hi2
   have hts:=eR (z:=hP.zero) hi2
   have hle:=yc ((bT k.halves f).got.take i) f.mix
   rw[aW5] at hle
   refine sk (sq (bk (sq (rD [2,3,4,6,7,8,9,88] (s3 (ai (by rw[aWz,hg];exact⟨⟨by omega,by rw[bG];omega⟩,rfl⟩) (s1 (ai (by rw[aWz,hg];exact⟨aW1 rfl,rfl⟩) (s3 (ai (by kernel_rfl) (cd rfl (fun c88=> ?_) fun c88=> ?_)))))))))))
   · have hlg:=aGz (l:=(bT k.halves f).got.take i) (m:=(bT k.halves f).got.getD i .zero) (n:=f.mix) (by rw[aWz,hg] at c88;exact c88)
     refine rT [2,3,4,6,7,8,9] (s4 (ai (by rw[aWz,hg];exact⟨⟨by omega,by rw[bG];omega⟩,rfl⟩) (ai (by rw[aWz,hg];exact⟨aW1 rfl,rfl⟩) (s1 (ai (by exact⟨rfl,bG _,by intro r hr;rw[List.mem_singleton.1 hr];rfl,by show(_+1)*24≤_;omega⟩) (s1 (rT [2,3,4,6,7,8,9] (s3 (wq [] [] (⟨(bT k.halves f).got.length - (i+1),by omega,i+1,rfl,by omega,rfl⟩) ?_)))))))))
     repeat' apply ai
     all_goals first|exact qx|exact congrArg D.i (by rw[aC (by omega)];omega)|(rw[hts,hlg];done)|(rw[hts,hlg,aW0];rfl)|(rw[hts,hlg];simp[bG];done)|(rw[hts,hlg,aWz,hg];exact zT _ _)|exact qz
   have hlg:=aJd (l:=(bT k.halves f).got.take i) (m:=(bT k.halves f).got.getD i .zero) (n:=f.mix) (by rw[aWz,hg] at c88;exact c88)
   refine sk (rT [2,3,4,6,7,8,9] (s3 (wq [] [] (⟨(bT k.halves f).got.length - (i+1),by omega,i+1,rfl,by omega,rfl⟩) ?_)))
   repeat' apply ai
   all_goals first|exact qx|exact congrArg D.i (by rw[aC (by omega)];omega)|(rw[hts,hlg];done)|(rw[hts,hlg,aW0];rfl)|(rw[hts,hlg];simp[bG];done)|(rw[hts,hlg,aWz,hg];exact zT _ _)|exact qz
 have hi3:i=(bT k.halves f).got.length:=by simp[bG] at c77;omega
 subst hi3
 clear hi
 have hle:=yc (bT k.halves f).got f.mix
 refine xt (SW.midW (fun q=>q=[tP 2 2,tP 3 3,tP 4 4,tP 7 7,tI 6 ((dO k.halves f).2:Nat),tO 8 60 (sG (iS (bT k.halves f).got f.mix)).length,oB 2 27 [.d (.i (k).id),.d (.b (k).up),.d (.s (k).log),.d (.i (k).forced),.own 50 (dO k.halves f).1.length],oB 3 63 [.d (.i f.kind),.d (.i f.src),.d (.i f.dst),.d (.i f.frm),.d (.i f.num),.d (.i f.to),.d (.i f.til),.d (.i f.size),.d (.i f.mix),.d (.s f.data)],oB 4 27 [.d (.i 0),.d (.b false),.d (.s []),.d (.i 0),.nil],oB 7 85 [.d (.i ((bT k.halves f)).frm),.d (.i ((bT k.halves f)).num),.d (.i ((bT k.halves f)).to),.d (.i ((bT k.halves f)).til),.d (.i ((bT k.halves f)).size),.d (.sl (cM ((bT k.halves f)).got))],oR 50 85 6 (aX (dO k.halves f).1),oR 60 68 2 (cM (sG (iS (bT k.halves f).got f.mix)))]) ?_ ?_)
 · refine sq (rT [2,3,4,6,7,8,99] (s1 (ai (by exact bG _) (s1 (cd rfl (fun c99=> ?_) fun c99=> ?_)))))
   · have h14:14≤(iS (bT k.halves f).got f.mix).length:=by rw[aXf] at c99;simp[bG] at c99;omega
     have hcg:sG (iS (bT k.halves f).got f.mix)=(iS (bT k.halves f).got f.mix).drop 1:=by unfold sG;rw[if_pos h14]
     refine rE [2,3,4,6,7,8] (s2 (zF 101 72 rfl rfl (by simp[bG]) (by rfl) (iA (sx cX rfl (by exact⟨⟨by simp,by simp[bG] at *; omega,by simp⟩,qS _⟩) (ai (by rw[aXf];exact⟨trivial,rfl,aGc _ _ _,by have h9:=Nat.le_trans (show(((cM (iS (bT k.halves f).got f.mix)).take (gI none (cM (iS (bT k.halves f).got f.mix)).length)).drop (eY (some 1))).length≤(cM (iS (bT k.halves f).got f.mix)).length by rw[aW9,aW5];omega) (Nat.le_of_eq (bG _));simp only[aW2];show _*24≤_;omega⟩) (s1 ?_))))))
     first
     |(refine wq [(60,72)] [] (rfl) ?_
       repeat' apply ai
       all_goals first|exact qx|(rw[hcg];done)|(rw[hcg,aXf];done)|(rw[hcg];simp[bG,gI,eY];done)|(simp[bG];done)|(rw[hcg];simp[gI,eY,cM,List.map_drop];done)|(rw[hcg];simp[gI,eY,cM,List.map_drop];rw[List.take_of_length_le (by simp)];done)|exact qz)
     |(refine wq [(60,100)] [] (rfl) ?_
       repeat' apply ai
       all_goals first|exact qx|(rw[hcg];done)|(rw[hcg,aXf];done)|(rw[hcg];simp[bG,gI,eY];done)|(simp[bG];done)|(rw[hcg];simp[gI,eY,cM,List.map_drop];done)|(rw[hcg];simp[gI,eY,cM,List.map_drop];rw[List.take_of_length_le (by simp)];done)|exact qz)
   have h14: ¬14≤(iS (bT k.halves f).got f.mix).length:=by rw[aXf] at c99;simp[bG] at c99;omega
   have hcg:sG (iS (bT k.halves f).got f.mix)=(iS (bT k.halves f).got f.mix):=by unfold sG;rw[if_neg h14]
   refine sk ?_
   first
   |(refine wq [(60,72)] [] (rfl) ?_
     repeat' apply ai
     all_goals first|exact qx|(rw[hcg];done)|(rw[hcg,aXf];done)|(rw[hcg];simp[bG,gI,eY];done)|(simp[bG];done)|(rw[hcg];simp[gI,eY,cM,List.map_drop];done)|(rw[hcg];simp[gI,eY,cM,List.map_drop];rw[List.take_of_length_le (by simp)];done)|exact qz)
   |(refine wq [(60,100)] [] (rfl) ?_
     repeat' apply ai
     all_goals first|exact qx|(rw[hcg];done)|(rw[hcg,aXf];done)|(rw[hcg];simp[bG,gI,eY];done)|(simp[bG];done)|(rw[hcg];simp[gI,eY,cM,List.map_drop];done)|(rw[hcg];simp[gI,eY,cM,List.map_drop];rw[List.take_of_length_le (by simp)];done)|exact qz)
 rintro s rfl
 have hcl: (sG (iS (bT k.halves f).got f.mix)).length≤14:=by unfold sG;split<;>(try rw[aW9])<;>omega
 refine sq (rT [2,4,6,7] (s7 (ai (by exact⟨rfl,bG _,by intro r hr;rw[List.mem_singleton.1 hr];rfl,by show(_+1)*24≤_;omega⟩) (s2 (sq (wa [tP 2 2,tP 4 4,tP 7 7,tI 6 ((dO k.halves f).2:Nat),oB 2 27 [.d (.i (k).id),.d (.b (k).up),.d (.s (k).log),.d (.i (k).forced),.own 50 (dO k.halves f).1.length],oB 3 63 [.d (.i f.kind),.d (.i f.src),.d (.i f.dst),.d (.i f.frm),.d (.i f.num),.d (.i f.to),.d (.i f.til),.d (.i f.size),.d (.i f.mix),.d (.s f.data)],oB 4 27 [.d (.i 0),.d (.b false),.d (.s []),.d (.i 0),.nil],oB 7 85 [.d (.i ((uO (bT k.halves f) f)).frm),.d (.i ((uO (bT k.halves f) f)).num),.d (.i ((uO (bT k.halves f) f)).to),.d (.i ((uO (bT k.halves f) f)).til),.d (.i ((uO (bT k.halves f) f)).size),.d (.sl (cM ((uO (bT k.halves f) f)).got))],oR 50 85 6 (aX (dO k.halves f).1)] [] [60] ?_ ?_))))))
 · repeat' apply ai
   all_goals first|exact qx|rfl|(exact congrArg D.sl (zT _ ⟨f.mix,f.data⟩).symm)|(simp[bG];done)|exact qz
 refine rT [2,4,6] (s4 (ai (by exact⟨aG _,by omega,by omega⟩) (ai (by rw[aWz,gJ hlt.1];exact⟨aG _,hlt.1,rfl,aW1 rfl⟩) (sq (rT [4,5] (s4 (rt (rq [] [50] rfl ?_))))))))
 repeat' apply ai
 all_goals try exact qx
 all_goals(first|with_reducible rfl|(rw[hadd];done)|(rw[hadd];rfl)|(rw[aWz,hadd];exact congrArg D.sl (aD9 (h:=uO (bT k.halves f) f) hlt.1).symm)|(simp[aG];done))
set_option maxHeartbeats 6400000 in
theorem td (k:aH) (f:cH) (hok:aT k=true) (hu:k.up=true) (hf:eM f=true) (hkd:f.kind=1):Sp 232 2 [tV 0 (.e (.agg [.d (.i (k).id),.d (.b (k).up),.d (.s (k).log),.d (.i (k).forced),.own 0 k.halves.length])),(.t 1,.v f.V),oR 0 85 6 (aX k.halves)] [tV 0 (.tup [.agg [.d (.i ((dY k f).1).id),.d (.b ((dY k f).1).up),.d (.s ((dY k f).1).log),.d (.i ((dY k f).1).forced),.d (.sl (aX ((dY k f).1).halves))],.c (.d (.sl (nE (dY k f).2)))])]:=by
 have hlg:=eQ hok
 have hkb:=qW hok
 have hfh:=jf hf hkd
 have hH:=aKq (mj hok) hlg.2.2.2.1 hf hkd
 have h6:=eK (gU hok)
 refine sb Tryz.func232 rfl (sq (rT [2,3,4] (s4 (sq (rT [2,3,4,6] (s2 (sq (rT [2,3,4,6,7] (s1 (bE (robj:=[(0,.row 85 6 (aX k.halves))]) (rl:=[(0,0)]) (bor:=[]) (aM6 k (by omega)) rfl rfl rfl rfl ⟨dN rfl (aD rfl (aD rfl (aD rfl (aD rfl (bP rfl rfl rfl aL))))) (bV rfl rfl trivial),rfl⟩ rfl (.inl rfl) (aK ⟨rfl,trivial⟩) (fun _ hj=>nomatch hj) (s6 (sq (sq (rT [2,3,4,6,7,25] (s5 (cd rfl (fun c25=> ?_) fun c25=> ?_))))))))))))))))
 · have hlate:f.til≤(bC k).1.time:=by simpa using c25
   refine sq (rD [4,5] (s2 (xp (sK _ f) (ai rfl ?_))))
   refine s3 (ai (by kernel_rfl) (rt ?_))
   have hr:dY k f=(k,[bx 3 f]):=by rw[dY,if_pos hlate]
   refine rq [] [0,29] rfl ?_
   repeat' apply ai
   all_goals try exact qx
   all_goals(first|with_reducible rfl|(rw[hr];done)|(rw[hr];rfl)|exact aG _|rfl)
 have hlate: ¬f.til≤(bC k).1.time:=by simpa using c25
 refine sk (sq (sq (rT [2,3,4,6,47] (s6 (xp (gG (bC k).1.held f.frm f.num (by have:=h6.1.1;omega)) (ai rfl ?_))))))
 refine s2 (y4 (y2 (xc (fun h=>(nT (bC k).1.marks f.frm f.num (by have:=h6.1.2.1;omega))) (ai rfl (ai rk ?_)))))
 refine y1 (ai pk (cd rfl (fun c47=> ?_) fun c47=> ?_))
 · have hhave:0≤aW (bC k).1.held f.frm f.num∨0≤gR (bC k).1.marks f.frm f.num:=by simpa using c47
   refine sq (rT [2,3,4] (s2 (xp (iT k.log k.forced (by omega)) (ai rfl ?_))))
   refine s2 (sq (rD [4,5] (s2 (xp (sK _ f) (ai rfl ?_)))))
   refine s3 (ai (by kernel_rfl) (rt ?_))
   have hr:dY k f=(jY k,[bx 2 f]):=by rw[dY,if_neg hlate,if_pos hhave]
   refine rq [] [0,55] rfl ?_
   repeat' apply ai
   all_goals try exact qx
   all_goals(first|with_reducible rfl|(rw[hr];done)|(rw[hr];rfl)|exact aG _|rfl)
 have hhave: ¬(0≤aW (bC k).1.held f.frm f.num∨0≤gR (bC k).1.marks f.frm f.num):=by simpa using c47
 refine sk (sq (sq (rD [2,3,4,6,69] (s6 (y2 (xc (fun h=>(pE f.size (by omega))) (ai rfl (ai rk ?_))))))))
 refine y2 (xc (fun h=>(wS _ f.mix)) (ai rfl (ai rk ?_)))
 refine y1 (ai pk (ai (by kernel_rfl) (cd rfl (fun c69=> ?_) fun c69=> ?_)))
 · have hskip:f.frm=k.id∨ ¬tR ((f.size+3) / 4) f.mix=true:=by simpa using c69
   refine sq (rT [4,5] (s4 (rt ?_)))
   have hr:dY k f=(k,[]):=by rw[dY,if_neg hlate,if_neg hhave,if_pos hskip]
   refine rq [] [0,15] rfl ?_
   repeat' apply ai
   all_goals try exact qx
   all_goals(first|with_reducible rfl|(rw[hr];done)|(rw[hr];rfl)|exact aG _|rfl)
 have hskip: ¬(f.frm=k.id∨ ¬tR ((f.size+3) / 4) f.mix=true):=by simpa using c69
 refine sk (sq (rT [2,3,4,6,9] (s2 (bE (robj:=[(0,.row 85 6 (aX k.halves))]) (rl:=[]) (bor:=[]) (aA3 k f hlg.2.2.2.1 hlg.2.2.2.2.2) rfl rfl rfl rfl ⟨dN rfl (aD rfl (aD rfl (aD rfl (aD rfl (bP rfl rfl rfl aL))))) (dN rfl (aD rfl (aD rfl (aD rfl (aD rfl (aD rfl (aD rfl (aD rfl (aD rfl (aD rfl (aD rfl aL)))))))))) (bV rfl rfl trivial)),rfl⟩ rfl (.inl rfl) (aK ⟨rfl,trivial⟩) (fun _ hj=>nomatch hj) (s5 (sq (sq (rT [2,3,4,6,9,79] (s2 (cd rfl (fun c79=> ?_) fun c79=> ?_))))))))))
 · have hneg: (bY k.halves f).2<0:=by simpa using c79
   refine sq (rT [4,5] (s4 (rt ?_)))
   have hr:dY k f=(eB k (bY k.halves f).1,[]):=by rw[dY,if_neg hlate,if_neg hhave,if_neg hskip,if_pos hneg]
   refine rq [] [15] rfl ?_
   repeat' apply ai
   all_goals try exact qx
   all_goals(first|with_reducible rfl|(rw[hr];done)|(rw[hr];rfl)|exact aG _|rfl)
 have hge: ¬(bY k.halves f).2<0:=by simpa using c79
 obtain⟨i,hi⟩: ∃i:Nat,(bY k.halves f).2=(i:Int):=⟨(bY k.halves f).2.toNat,by omega⟩
 have hil:i< (bY k.halves f).1.length:=aJf hi
 have hgi: (aX (eB k (bY k.halves f).1).halves).getD i []=((bY k.halves f).1.getD i .zero).row:=gJ hil
 have hr1:dY k f=oH k f (bY k.halves f).1 i:=by rw[dY,if_neg hlate,if_neg hhave,if_neg hskip,if_neg hge,hi];rfl
 have hgl: ((bY k.halves f).1.getD i .zero).got.length≤14:=by have h9:=(vR _).1 (hH.1.1 _ (dG (z:=dT.zero) hil));exact(lQ h9.1).2.2.2.2.2
 refine sk (sq (rD [2,3,4,6,9,10,11] (s5 (ai (by rw[hi];exact⟨⟨by omega,by rw[aG];show((i:Nat):Int)< (((bY k.halves f).1.length:Nat):Int);omega⟩,by rw[aWz,hgi];rfl⟩) (s1 (ai (by rw[hi,aWz,hgi];exact⟨aW1 rfl,rfl⟩) (xp (yr f.size ((bY k.halves f).1.getD i .zero).got (by omega)) (ai (by rw[hi,aWz,hgi];rfl) ?_))))))))
 refine s5 (ai (by kernel_rfl) (sq (sq (rT [2,3,4,6,9,10,95] (s2 (cd rfl (fun c95=> ?_) fun c95=> ?_))))))
 · have hno: ¬(dZ f.size ((bY k.halves f).1.getD i .zero).got).2=true:=by exact oN c95
   refine sq (rT [4,5] (s4 (rt ?_)))
   have hr:dY k f=(eB k (bY k.halves f).1,[]):=hr1.trans (mn hno)
   refine rq [] [15] rfl ?_
   repeat' apply ai
   all_goals try exact qx
   all_goals(first|with_reducible rfl|(rw[hr];done)|(rw[hr];rfl)|exact aG _|rfl)
 have hyes: (dZ f.size ((bY k.halves f).1.getD i .zero).got).2=true:=by exact iY c95
 refine sk (sq (rT [2,3,4,6,9,12] (s9 (s3 (sq (rT [2,3,4,6,12] (s3 (xp (yy (bY k.halves f).1 (i:Nat) (by omega) (by omega)) (ai (by rw[hi];rfl) ?_)))))))))
 refine s2 (sq (rT [2,3,4,6,13] (s1 (xp (kN (fA f (dZ f.size ((bY k.halves f).1.getD i .zero).got).1) (by have:=aG2 f.size ((bY k.halves f).1.getD i .zero).got;show(dZ f.size ((bY k.halves f).1.getD i .zero).got).1.length≤_;omega)) (ai rfl ?_)))))
 refine s1 (sq (sq (rT [2,3,4,6,13,116] (s2 (cd rfl (fun c116=> ?_) fun c116=> ?_)))))
 · have hemp:gB (fA f (dZ f.size ((bY k.halves f).1.getD i .zero).got).1)=[]:=by exact beq_iff_eq.1 c116
   refine sq (rT [4,5] (s4 (rt ?_)))
   have hr:dY k f=(eB k (gX (bY k.halves f).1 i),[]):=hr1.trans (fm hyes hemp)
   refine rq [] [15] rfl ?_
   repeat' apply ai
   all_goals try exact qx
   all_goals(first|with_reducible rfl|(rw[hr];done)|(rw[hr];rfl)|exact aG _|rfl)
 have hemp: ¬gB (fA f (dZ f.size ((bY k.halves f).1.getD i .zero).got).1)=[]:=by exact beq_eq_false_iff_ne.1 c116
 refine sk (sq (rT [2,3,4,6,14] (s2 (ai (by have:=nQ (fA f (dZ f.size ((bY k.halves f).1.getD i .zero).got).1);show _≤9223372036854775807;(try simp only[aW0,aW3,aW2]);omega) (xp (mY (eB k (gX (bY k.halves f).1 i)) (eH gK (fA f (dZ f.size ((bY k.halves f).1.getD i .zero).got).1)) true (ml hok hu (by have:=yI (bY k.halves f).1 i;omega) (aKp hH.1 i)) (by have h9:=wO gK (fA f (dZ f.size ((bY k.halves f).1.getD i .zero).got).1);have h8:gK.length=4:=rfl;omega)) (ai rfl ?_))))))
 refine s5 (sq (sq (rT [2,3,4,6,127] (s2 (cd rfl (fun c127=> ?_) fun c127=> ?_)))))
 · have hw: ¬(fX (eB k (gX (bY k.halves f).1 i)) (eH gK (fA f (dZ f.size ((bY k.halves f).1.getD i .zero).got).1)) true).2=true:=oN c127
   refine sq (rT [4,5] (s4 (rt ?_)))
   have hr:dY k f=((fX (eB k (gX (bY k.halves f).1 i)) (eH gK (fA f (dZ f.size ((bY k.halves f).1.getD i .zero).got).1)) true).1,[]):=hr1.trans (ak hyes hemp hw)
   refine rq [] [15] rfl ?_
   repeat' apply ai
   all_goals try exact qx
   all_goals(first|with_reducible rfl|(rw[hr];done)|(rw[hr];rfl)|exact aG _|rfl)
 have hw: (fX (eB k (gX (bY k.halves f).1 i)) (eH gK (fA f (dZ f.size ((bY k.halves f).1.getD i .zero).got).1)) true).2=true:=iY c127
 refine sk (sq (rD [4,5] (s2 (xp (sK _ f) (ai rfl ?_)))))
 refine s3 (ai (by kernel_rfl) (rt ?_))
 have hr:dY k f=((fX (eB k (gX (bY k.halves f).1 i)) (eH gK (fA f (dZ f.size ((bY k.halves f).1.getD i .zero).got).1)) true).1,[bx 2 f]):=hr1.trans (mq hyes hemp hw)
 refine rq [] [133] rfl ?_
 repeat' apply ai
 all_goals try exact qx
 all_goals(first|with_reducible rfl|(rw[hr];done)|(rw[hr];rfl)|exact aG _|rfl)
end Go.Proofs.YthbgjfegalcenaaGreatDoor
