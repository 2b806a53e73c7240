/- Plain functions, and contracts of the functions that the law reaches. -/
import Derived.Test.YthbgjfegalcenaaGreatDoorB2
namespace Go.Proofs.YthbgjfegalcenaaGreatDoor
open Int renaming toNat_natCast→aW6,tmod→aXm
open List renaming length_append→aW7,length_cons→aW9,length_nil→aXa,length_take→aXc,getD_eq_getElem?_getD→aXe,length_drop→aXf,getElem?_eq_getElem→aXg,getElem?_eq_some_iff→aXh,range→aXj,mem_map→aXk,all_eq_true→aXl,take_length→aXn,mem_singleton→aXo,mem_iff_getElem?→aXq,mem_cons→aXr
open Nat renaming le_of_ble_eq_true→aW8,zero_le→aXd,le_refl→aXi,add_mul→aXp
open Bool renaming and_eq_true→aXb
open Go Go.Ab Go.RowKit
set_option linter.unusedVariables false
set_option linter.unusedSimpArgs false
set_option maxRecDepth 9000
set_option maxHeartbeats 1600000 in
theorem gp (k:bC) (n:bA) (hb:k.held.length≤100000∧k.marks.length≤100000∧k.inbox.length≤100000) (hn:n.text.length≤140737488355328):Sp 184 2 [tV 0 k.V,tV 1 n.V] [tV 0 (.tup [.agg [.d (.i ((fF k n).1).id),.d (.i ((fF k n).1).time),.d (.i ((fF k n).1).next),.d (.sl (aE ((fF k n).1).held)),.d (.sl (aP ((fF k n).1).marks)),.d (.sl (aE ((fF k n).1).inbox))],.c (.d (.b (fF k n).2))])]:=by
 refine sb Tryz.func184 rfl (sq (rT [2,3,4] (s4 (sq (sq (rT [2,3,4,56] (s1 (xp (sU n hn) (ai rfl ?_)))))))))
 refine s2 (y4 (y1 (ai pk (s1 (y4 (y2 (xc (fun h=>(lP k.held _ _ (by omega))) (ai rfl (ai rk ?_)))))))))
 refine y1 (ai pk (s1 (y4 (y2 (xc (fun h=>(lP k.inbox _ _ (by omega))) (ai rfl (ai rk ?_)))))))
 refine y1 (ai pk (s1 (y4 (y2 (xc (fun h=>(sV k.marks _ _ (by omega))) (ai rfl (ai rk ?_)))))))
 refine y1 (ai pk (s1 (y4 (y4 (y1 (ai pk (cd rfl (fun c56=> ?_) fun c56=> ?_)))))))
 · have ha:=wo hb c56
   refine sq (rT [4,5] (s3 (rt ?_)))
   have hr:fF k n=(k,false):=if_neg (bn ha)
   refine bG rfl rfl ?_
   rw[hr]<;>rfl
 have ha:=wo hb c56
 refine sk (sq (sq (rT [2,3,4,62] (s5 (cd rfl (fun c62=> ?_) fun c62=> ?_)))))
 · refine sq (rT [2,3,4] (s3 (xp (sW k.inbox n hb.2.2) (ai rfl ?_))))
   refine s2 (rT [2,4] (s9 (xp (xN k.marks ⟨n.frm,n.num,n.til⟩ hb.2.1) (ai rfl ?_))))
   refine s2 (sq (rT [4,5] (s3 (rt ?_))))
   first|have hr:=aB7 ha c62|have hr:=aB8 ha c62
   refine bG rfl rfl ?_
   rw[hr]<;>rfl
 refine rT [2,4] (s3 (xp (sW k.held n hb.1) (ai rfl ?_)))
 refine s2 (sq (rT [4,5] (s3 (rt ?_))))
 first|have hr:=aB7 ha c62|have hr:=aB8 ha c62
 refine bG rfl rfl ?_
 rw[hr]<;>rfl
theorem aEj (k:bC) (w:List UInt8) (n:Int) (hb:k.held.length≤100000∧k.marks.length≤100000∧k.inbox.length≤100000):Sp 150 3 [tV 0 k.V,tD 1 (.s w),tI 2 n] [tV 0 (.tup [.agg [.d (.i ((lH k w n).1).id),.d (.i ((lH k w n).1).time),.d (.i ((lH k w n).1).next),.d (.sl (aE ((lH k w n).1).held)),.d (.sl (aP ((lH k w n).1).marks)),.d (.sl (aE ((lH k w n).1).inbox))],.c (.d (.b (lH k w n).2))])]:=by
 refine sb Tryz.func150 rfl (sq (rT [1,2,3,6] (s3 (sq (bk (sq (rT [1,2,3,6,8] (s3 (y4 (ai pk (s1 (cd rfl (fun c8=> ?_) fun c8=> ?_))))))))))))
 · refine sq (rT [6,7] (s2 (xp (yy k n hb) (ai rfl ?_))))
   refine s2 (rt ?_)
   have hr:lH k w n=(kR k n,true):=if_pos c8
   refine bG rfl rfl ?_
   rw[hr]<;>rfl
 refine sq (rT [2,3,6,20] (s3 (y4 (ai pk (s1 (cd rfl (fun c20=> ?_) fun c20=> ?_))))))
 · refine sq (rT [3,6] (s3 (sq (rT [6,7] (s3 (rt ?_))))))
   have hr:lH k w n=({k with next:=n},true):=(if_neg (bn c8)).trans (if_pos c20)
   refine bG rfl rfl ?_
   rw[hr]<;>rfl
 refine sk (sq (rT [6,7] (s3 (rt ?_))))
 have hr:lH k w n=(k,false):=(if_neg (bn c8)).trans (if_neg (bn c20))
 refine bG rfl rfl ?_
 rw[hr]<;>rfl
set_option maxHeartbeats 1600000 in
theorem aAv (k:bC) (w:List UInt8) (n:bA) (hb:k.held.length≤100000∧k.marks.length≤100000∧k.inbox.length≤100000) (hn:n.text.length≤140737488355328):Sp 152 3 [tV 0 k.V,tD 1 (.s w),tV 2 n.V] [tV 0 (.tup [.agg [.d (.i ((fN k w n).1).id),.d (.i ((fN k w n).1).time),.d (.i ((fN k w n).1).next),.d (.sl (aE ((fN k w n).1).held)),.d (.sl (aP ((fN k w n).1).marks)),.d (.sl (aE ((fN k w n).1).inbox))],.c (.d (.b (fN k w n).2))])]:=by
 refine sb Tryz.func152 rfl (sq (rT [1,3,5,6] (s4 (sq (bk (sq (rT [1,3,5,6,8] (s3 (y4 (y1 (ai pk (s1 (y4 (y1 (ai pk (s1 (cd rfl (fun c8=> ?_) fun c8=> ?_)))))))))))))))))
 · refine sq (rT [3,5,6] (s5 (sq (rT [6,7] (s2 (xp (gp {k with next:=wrap64 (k.next+1)} n hb hn) (ai rfl ?_)))))))
   refine s4 (rt ?_)
   have hr:fN k w n=fF {k with next:=wrap64 (k.next+1)} n:=if_pos c8
   refine bG rfl rfl ?_
   rw[hr]<;>rfl
 refine sq (rT [1,3,5,6,34] (s3 (y4 (y1 (ai pk (s1 (cd rfl (fun c34=> ?_) fun c34=> ?_)))))))
 · refine sq (rT [6,7] (s2 (xp (gp k n hb hn) (ai rfl ?_))))
   refine s4 (rt ?_)
   have hr:fN k w n=fF k n:=(if_neg (bn c8)).trans (if_pos c34)
   refine bG rfl rfl ?_
   rw[hr]<;>rfl
 refine sq (rT [1,3,5,6,49] (s6 (xp (lP k.held _ _ (by omega)) (ai rfl ?_))))
 refine s2 (y4 (y2 (xc (fun h=>(lP k.inbox _ _ (by omega))) (ai rfl (ai rk ?_)))))
 refine y1 (ai pk (s1 (cd rfl (fun c49=> ?_) fun c49=> ?_)))
 · refine sk (sq (rT [6,7] (s3 (rt ?_))))
   have hr:fN k w n=(k,false):=by
    first|exact(if_neg (bn c8)).trans ((if_neg (bn c34)).trans (if_pos c49))|exact(if_neg (bn c8)).trans ((if_neg (bn c34)).trans ((if_neg (bn c49)).trans ((if_neg (bn c68)).trans (if_neg (bn c77)))))
   refine bG rfl rfl ?_
   rw[hr]<;>rfl
 refine sq (rT [1,3,5,6,68] (s3 (cd rfl (fun c68=> ?_) fun c68=> ?_)))
 · refine sq (rT [3,6] (s3 (xp (sW k.held n hb.1) (ai rfl ?_))))
   refine s2 (sq (rT [6,7] (s3 (rt ?_))))
   have hr:fN k w n=({k with held:=kD k.held n},true):=(if_neg (bn c8)).trans ((if_neg (bn c34)).trans ((if_neg (bn c49)).trans (if_pos c68)))
   refine bG rfl rfl ?_
   rw[hr]<;>rfl
 refine sq (rT [3,5,6,77] (s3 (cd rfl (fun c77=> ?_) fun c77=> ?_)))
 · refine sq (rT [3,6] (s3 (xp (sW k.inbox n hb.2.2) (ai rfl ?_))))
   refine s2 (sq (rT [6,7] (s3 (rt ?_))))
   have hr:fN k w n=({k with inbox:=kD k.inbox n},true):=(if_neg (bn c8)).trans ((if_neg (bn c34)).trans ((if_neg (bn c49)).trans ((if_neg (bn c68)).trans (if_pos c77))))
   refine bG rfl rfl ?_
   rw[hr]<;>rfl
 refine sk (sq (rT [6,7] (s3 (rt ?_))))
 have hr:fN k w n=(k,false):=by
  first|exact(if_neg (bn c8)).trans ((if_neg (bn c34)).trans (if_pos c49))|exact(if_neg (bn c8)).trans ((if_neg (bn c34)).trans ((if_neg (bn c49)).trans ((if_neg (bn c68)).trans (if_neg (bn c77)))))
 refine bG rfl rfl ?_
 rw[hr]<;>rfl
set_option maxHeartbeats 1600000 in
theorem aAw (k:bC) (w:List UInt8) (m:cA) (hb:k.held.length≤100000∧k.marks.length≤100000∧k.inbox.length≤100000):Sp 155 3 [tV 0 k.V,tD 1 (.s w),tV 2 m.V] [tV 0 (.tup [.agg [.d (.i ((iL k w m).1).id),.d (.i ((iL k w m).1).time),.d (.i ((iL k w m).1).next),.d (.sl (aE ((iL k w m).1).held)),.d (.sl (aP ((iL k w m).1).marks)),.d (.sl (aE ((iL k w m).1).inbox))],.c (.d (.b (iL k w m).2))])]:=by
 refine sb Tryz.func155 rfl (sq (rT [1,3,5,6] (s4 (sq (rD [1,3,5,6,8,9] (s6 (xp (lP k.held _ _ (by omega)) (ai rfl ?_))))))))
 refine s6 (xp (lP k.inbox _ _ (by omega)) (ai rfl ?_))
 refine s2 (ai (by kernel_rfl) (sq (rT [1,3,5,6,8,9,10] (s6 (xp (sV k.marks _ _ (by omega)) (ai rfl ?_))))))
 refine s2 (sq (bk (sq (rD [1,3,5,6,8,9,10,33] (s3 (y2 (ai pk (s1 (y3 (ai (fun h=>(by skip;have hp:0≤aS k.held m.frm m.num:=(by have h8:=h;simp only[gb,aXb,decide_eq_true_eq] at h8;exact h8.2);have hr:=fT k.held m.frm m.num;rw[aQ (by omega)];exact⟨⟨hp,by rw[aC];omega⟩,rfl⟩)) (ai rk (y1 (ai (fun h=>(by have hp:0≤aS k.held m.frm m.num:=(by have h8:=h;simp only[gb,aXb,decide_eq_true_eq] at h8;exact h8.2);have hr:=fT k.held m.frm m.num;rw[aQ (by omega)];exact⟨aW8 rfl,rfl⟩)) (ai rk (y3 (ai pk (s1 (ai (by kernel_rfl) (cd rfl (fun c33=> ?_) fun c33=> ?_)))))))))))))))))))
 · have hc: (w==nP&&decide (0≤aS k.held m.frm m.num)&&(k.held.getD (aS k.held m.frm m.num).toNat .zero).til==m.til)=true:=by
    have h9:=c33
    by_cases hp:0≤aS k.held m.frm m.num
    · have hr:=fT k.held m.frm m.num
      rw[aQ (by omega)] at h9
      exact h9
    · rw[show decide (aS k.held m.frm m.num≥0)=false from decide_eq_false hp,Bool.and_false,Bool.false_and] at h9
      rw[show decide (0≤aS k.held m.frm m.num)=false from decide_eq_false hp,Bool.and_false,Bool.false_and]<;>exact h9
   have hp:0≤aS k.held m.frm m.num:=by
    simp only[aXb,decide_eq_true_eq] at hc
    exact hc.1.2
   have hr:=fT k.held m.frm m.num
   refine sq (rT [3,5,6] (s3 (xp (dq k.held (aS k.held m.frm m.num) ⟨hp,by omega⟩ hb.1) (ai rfl ?_))))
   refine s2 (sq (rT [3,6] (s3 (xp (xN k.marks m hb.2.1) (ai rfl ?_)))))
   refine s2 (sq (rT [6,7] (s3 (rt ?_))))
   have hr:iL k w m=({k with held:=gK k.held (aS k.held m.frm m.num).toNat,marks:=pR k.marks m},true):=if_pos hc
   refine bG rfl rfl ?_
   rw[hr]<;>rfl
 have hc: (w==nP&&decide (0≤aS k.held m.frm m.num)&&(k.held.getD (aS k.held m.frm m.num).toNat .zero).til==m.til)=false:=by
  have h9:=c33
  by_cases hp:0≤aS k.held m.frm m.num
  · have hr:=fT k.held m.frm m.num
    rw[aQ (by omega)] at h9
    exact h9
  · rw[show decide (aS k.held m.frm m.num≥0)=false from decide_eq_false hp,Bool.and_false,Bool.false_and] at h9
    rw[show decide (0≤aS k.held m.frm m.num)=false from decide_eq_false hp,Bool.and_false,Bool.false_and]<;>exact h9
 have hc1:=hc
 clear hc
 refine sq (rD [1,3,5,6,9,10,62] (s3 (y2 (ai pk (s1 (y3 (ai (fun h=>(by skip;have hp:0≤aS k.inbox m.frm m.num:=(by have h8:=h;simp only[gb,aXb,decide_eq_true_eq] at h8;exact h8.2);have hr:=fT k.inbox m.frm m.num;rw[aQ (by omega)];exact⟨⟨hp,by rw[aC];omega⟩,rfl⟩)) (ai rk (y1 (ai (fun h=>(by have hp:0≤aS k.inbox m.frm m.num:=(by have h8:=h;simp only[gb,aXb,decide_eq_true_eq] at h8;exact h8.2);have hr:=fT k.inbox m.frm m.num;rw[aQ (by omega)];exact⟨aW8 rfl,rfl⟩)) (ai rk (y3 (ai pk (s1 (ai (by kernel_rfl) (cd rfl (fun c62=> ?_) fun c62=> ?_))))))))))))))))
 · have hc: (w==jY&&decide (0≤aS k.inbox m.frm m.num)&&(k.inbox.getD (aS k.inbox m.frm m.num).toNat .zero).til==m.til)=true:=by
    have h9:=c62
    by_cases hp:0≤aS k.inbox m.frm m.num
    · have hr:=fT k.inbox m.frm m.num
      rw[aQ (by omega)] at h9
      exact h9
    · rw[show decide (aS k.inbox m.frm m.num≥0)=false from decide_eq_false hp,Bool.and_false,Bool.false_and] at h9
      rw[show decide (0≤aS k.inbox m.frm m.num)=false from decide_eq_false hp,Bool.and_false,Bool.false_and]<;>exact h9
   have hp:0≤aS k.inbox m.frm m.num:=by
    simp only[aXb,decide_eq_true_eq] at hc
    exact hc.1.2
   have hr:=fT k.inbox m.frm m.num
   refine sq (rT [3,6] (s3 (xp (dq k.inbox (aS k.inbox m.frm m.num) ⟨hp,by omega⟩ hb.2.2) (ai rfl ?_))))
   refine s2 (sq (rT [6,7] (s3 (rt ?_))))
   have hr:iL k w m=({k with inbox:=gK k.inbox (aS k.inbox m.frm m.num).toNat},true):=(if_neg (bn hc1)).trans (if_pos hc)
   refine bG rfl rfl ?_
   rw[hr]<;>rfl
 have hc: (w==jY&&decide (0≤aS k.inbox m.frm m.num)&&(k.inbox.getD (aS k.inbox m.frm m.num).toNat .zero).til==m.til)=false:=by
  have h9:=c62
  by_cases hp:0≤aS k.inbox m.frm m.num
  · have hr:=fT k.inbox m.frm m.num
    rw[aQ (by omega)] at h9
    exact h9
  · rw[show decide (aS k.inbox m.frm m.num≥0)=false from decide_eq_false hp,Bool.and_false,Bool.false_and] at h9
    rw[show decide (0≤aS k.inbox m.frm m.num)=false from decide_eq_false hp,Bool.and_false,Bool.false_and]<;>exact h9
 refine sq (rT [3,5,6,86] (s3 (y2 (ai pk (s1 (cd rfl (fun c86=> ?_) fun c86=> ?_))))))
 · have hm: (w==iF&&decide (gN k.marks m.frm m.num<0))=true:=by
    have h9:=c86
    rw[aB0,Bool.not_not] at h9
    exact h9
   refine sq (rT [3,6] (s3 (xp (xN k.marks m hb.2.1) (ai rfl ?_))))
   refine s2 (sq (rT [6,7] (s3 (rt ?_))))
   have hr:iL k w m=({k with marks:=pR k.marks m},true):=(if_neg (bn hc1)).trans ((if_neg (bn hc)).trans (if_pos hm))
   refine bG rfl rfl ?_
   rw[hr]<;>rfl
 have hm: (w==iF&&decide (gN k.marks m.frm m.num<0))=false:=by
  have h9:=c86
  rw[aB0,Bool.not_not] at h9
  exact h9
 refine sk (sq (rT [6,7] (s3 (rt ?_))))
 have hr:iL k w m=(k,false):=(if_neg (bn hc1)).trans ((if_neg (bn hc)).trans (if_neg (bn hm)))
 refine bG rfl rfl ?_
 rw[hr]<;>rfl
set_option maxHeartbeats 3200000 in
theorem aEk (k:bC) (rec:List UInt8) (hb:k.held.length≤100000∧k.marks.length≤100000∧k.inbox.length≤100000) (hr:rec.length≤900000):Sp 111 2 [tV 0 k.V,tD 1 (.s rec)] [tV 0 (.tup [.agg [.d (.i ((eM k rec).1).id),.d (.i ((eM k rec).1).time),.d (.i ((eM k rec).1).next),.d (.sl (aE ((eM k rec).1).held)),.d (.sl (aP ((eM k rec).1).marks)),.d (.sl (aE ((eM k rec).1).inbox))],.c (.d (.b (eM k rec).2))])]:=by
 have hl1:=uX rec
 have hl2:=eu rec
 have hl3:=zQ (aO rec)
 refine sb Tryz.func111 rfl (sq (rT [1,2,4] (s3 (sq (rT [2,4,6,7,8] (s1 (xp (aAu rec (by omega)) (ai rfl ?_))))))))
 refine s7 (sq (sq (rT [2,4,6,7,22] (s2 (cd rfl (fun c22=> ?_) fun c22=> ?_)))))
 · have hs:fX rec=false:=by simpa using c22
   refine sq (rT [4,5] (s3 (rt ?_)))
   have hr:eM k rec=(k,false):=aMc hs
   refine bG rfl rfl ?_
   rw[hr]<;>rfl
 have hs:fX rec=true:=by simpa using c22
 refine sk (sq (sq (rT [2,4,6,7,24] (s1 (bk (SW.midW (fun q=>q=[tP 2 2,tP 4 4,tD 6 (.s (bH rec)),tD 7 (.s (aO rec)),tD 24 (.s (bH rec)),tB 25 (bH rec==jG||bH rec==jM),oB 2 32 [.d (.i k.id),.d (.i k.time),.d (.i k.next),.d (.sl (aE k.held)),.d (.sl (aP k.marks)),.d (.sl (aE k.inbox))],oB 4 32 [.d (.i 0),.d (.i 0),.d (.i 0),.nil,.nil,.nil]]) ?_ ?_))))))
 · refine sq (rT [2,4,6,7,24,25] (s2 (cd rfl (fun c25=> ?_) fun c25=> ?_)))
   · refine sk (wq [] [] (rfl) ?_)
     repeat' apply ai
     all_goals first|exact qx|(refine congrArg D.b ?_;simp_all[jG,jM,iG,fL,hG,fP,nP,jY,iF])|exact qz
   refine rT [2,4,6,7,24,25] (s2 (wq [] [] (rfl) ?_))
   repeat' apply ai
   all_goals first|exact qx|(refine congrArg D.b ?_;simp_all[jG,jM,iG,fL,hG,fP,nP,jY,iF])|exact qz
 rintro s rfl
 refine cd rfl (fun c25=> ?_) fun c25=> ?_
 · refine sq (rT [2,4,6,9,10] (s1 (xp (aCt (aO rec) (by omega)) (ai rfl ?_))))
   refine s5 (sq (rT [2,4,6,9,33] (s1 (cd rfl (fun c33=> ?_) fun c33=> ?_))))
   · refine sq (rT [4,5] (s3 (xp (aEj k (bH rec) (jB (aO rec)) hb) (ai rfl ?_))))
     refine s4 (rt ?_)
     have hr:eM k rec=_:=wt hs c25 c33
     refine bG rfl rfl ?_
     rw[hr]<;>rfl
   refine sk (sq (rT [4,5] (s3 (rt ?_))))
   have hr2:eM k rec=(k,false):=by
    first|exact fa hs c25 c33|exact rZ hs c25 c40 c50|exact zR hs c25 c40 c57 hm3|exact ll hs c25 c40 c57
   refine bG rfl rfl ?_
   rw[hr2]<;>rfl
 refine SW.midW (fun q=>q=[tP 2 2,tP 4 4,tD 6 (.s (bH rec)),tD 7 (.s (aO rec)),tD 24 (.s (bH rec)),tB 40 (bH rec==iG||bH rec==fL||bH rec==hG||bH rec==fP),oB 2 32 [.d (.i k.id),.d (.i k.time),.d (.i k.next),.d (.sl (aE k.held)),.d (.sl (aP k.marks)),.d (.sl (aE k.inbox))],oB 4 32 [.d (.i 0),.d (.i 0),.d (.i 0),.nil,.nil,.nil]]) ?_ ?_
 · refine sq (rT [2,4,6,7,24,40] (s2 (cd rfl (fun c40=> ?_) fun c40=> ?_)))
   · refine sk (wq [] [] (rfl) ?_)
     repeat' apply ai
     all_goals first|exact qx|(refine congrArg D.b ?_;simp_all[jG,jM,iG,fL,hG,fP,nP,jY,iF])|exact qz
   refine sq (rT [2,4,6,7,24,40] (s2 (cd rfl (fun c40_2=> ?_) fun c40_2=> ?_)))
   · refine sk (wq [] [] (rfl) ?_)
     repeat' apply ai
     all_goals first|exact qx|(refine congrArg D.b ?_;simp_all[jG,jM,iG,fL,hG,fP,nP,jY,iF])|exact qz
   refine sq (rT [2,4,6,7,24,40] (s2 (cd rfl (fun c40_3=> ?_) fun c40_3=> ?_)))
   · refine sk (wq [] [] (rfl) ?_)
     repeat' apply ai
     all_goals first|exact qx|(refine congrArg D.b ?_;simp_all[jG,jM,iG,fL,hG,fP,nP,jY,iF])|exact qz
   refine rT [2,4,6,7,24,40] (s2 (wq [] [] (rfl) ?_))
   repeat' apply ai
   all_goals first|exact qx|(refine congrArg D.b ?_;simp_all[jG,jM,iG,fL,hG,fP,nP,jY,iF])|exact qz
 rintro s rfl
 refine cd rfl (fun c40=> ?_) fun c40=> ?_
 · refine sq (rT [2,4,6,11,12] (s1 (xp (tp (aO rec) (by omega)) (ai rfl ?_))))
   refine s6 (sq (rT [2,4,6,11,50] (s1 (cd rfl (fun c50=> ?_) fun c50=> ?_))))
   · refine sq (rT [4,5] (s3 (xp (aAv k (bH rec) (eB (aO rec)).1 hb (by omega)) (ai rfl ?_))))
     refine s4 (rt ?_)
     have hr:eM k rec=_:=aB9 hs c25 c40 c50
     refine bG rfl rfl ?_
     rw[hr]<;>rfl
   refine sk (sq (rT [4,5] (s3 (rt ?_))))
   have hr2:eM k rec=(k,false):=by
    first|exact fa hs c25 c33|exact rZ hs c25 c40 c50|exact zR hs c25 c40 c57 hm3|exact ll hs c25 c40 c57
   refine bG rfl rfl ?_
   rw[hr2]<;>rfl
 refine SW.midW (fun q=>q=[tP 2 2,tP 4 4,tD 6 (.s (bH rec)),tD 7 (.s (aO rec)),tB 57 (bH rec==nP||bH rec==jY||bH rec==iF),oB 2 32 [.d (.i k.id),.d (.i k.time),.d (.i k.next),.d (.sl (aE k.held)),.d (.sl (aP k.marks)),.d (.sl (aE k.inbox))],oB 4 32 [.d (.i 0),.d (.i 0),.d (.i 0),.nil,.nil,.nil]]) ?_ ?_
 · refine sq (rT [2,4,6,7,24,57] (s2 (cd rfl (fun c57=> ?_) fun c57=> ?_)))
   · refine sk (wq [] [] (rfl) ?_)
     repeat' apply ai
     all_goals first|exact qx|(refine congrArg D.b ?_;simp_all[jG,jM,iG,fL,hG,fP,nP,jY,iF])|exact qz
   refine sq (rT [2,4,6,7,24,57] (s2 (cd rfl (fun c57_2=> ?_) fun c57_2=> ?_)))
   · refine sk (wq [] [] (rfl) ?_)
     repeat' apply ai
     all_goals first|exact qx|(refine congrArg D.b ?_;simp_all[jG,jM,iG,fL,hG,fP,nP,jY,iF])|exact qz
   refine rT [2,4,6,7,57] (s2 (wq [] [] (rfl) ?_))
   repeat' apply ai
   all_goals first|exact qx|(refine congrArg D.b ?_;simp_all[jG,jM,iG,fL,hG,fP,nP,jY,iF])|exact qz
 rintro s rfl
 refine cd rfl (fun c57=> ?_) fun c57=> ?_
 · refine sq (rT [2,4,6,13,14] (s1 (xp (tn (aO rec) (by omega)) (ai rfl ?_))))
   refine xp (bm (dG (aO rec)) (by have:=aMb (aO rec);omega) (fun x hx=>by have:=aO8 (aO rec) x hx;omega)) (ai rfl ?_)
   refine s5 (sq (rT [2,4,6,13,72] (s2 (y3 (ai pk (cd rfl (fun c72=> ?_) fun c72=> ?_))))))
   · have hm3:=aCb c72
     have hm4:=hm3
     rw[aXb,beq_iff_eq] at hm4
     obtain⟨hno,hl4⟩:=hm4
     have e0:zy (((cZ (kU (dG (aO rec)))).getD 0 []).getD 0 (.i 0))=jB ((dG (aO rec)).getD 0 []):=aDw hno (by omega)
     have e1:zy (((cZ (kU (dG (aO rec)))).getD 1 []).getD 0 (.i 0))=jB ((dG (aO rec)).getD 1 []):=aDw hno (by omega)
     have e2:zy (((cZ (kU (dG (aO rec)))).getD 2 []).getD 0 (.i 0))=jB ((dG (aO rec)).getD 2 []):=aDw hno (by omega)
     refine sq (rD [4,5] (s3 (ai (by exact kw (l:=kU (dG (aO rec))) (by omega) (by rw[iH hno];omega)) (ai (by have:=iR (l:=kU (dG (aO rec))) (i:=0) (by rw[iH hno];omega);first|(rw[show((0:Int)).toNat=((0:Nat):Int).toNat from rfl,this];exact⟨aW8 rfl,rfl⟩)) (s1 (ai (by exact kw (l:=kU (dG (aO rec))) (by omega) (by rw[iH hno];omega)) (ai (by have:=iR (l:=kU (dG (aO rec))) (i:=1) (by rw[iH hno];omega);first|(rw[show((1:Int)).toNat=((1:Nat):Int).toNat from rfl,this];exact⟨aW8 rfl,rfl⟩)) (s1 (ai (by exact kw (l:=kU (dG (aO rec))) (by omega) (by rw[iH hno];omega)) (ai (by have:=iR (l:=kU (dG (aO rec))) (i:=2) (by rw[iH hno];omega);first|(rw[show((2:Int)).toNat=((2:Nat):Int).toNat from rfl,this];exact⟨aW8 rfl,rfl⟩)) (s1 (xp (aAw k (bH rec) (three (dG (aO rec))) hb) (ai (by exact aW0 e0 e1 e2) ?_)))))))))))))
     refine s4 (ai (by kernel_rfl) (rt ?_))
     have hr:eM k rec=_:=aCa hs c25 c40 c57 hm3
     refine bG rfl rfl ?_
     rw[hr]<;>rfl
   have hm3:=aCb c72
   refine sk (sq (rT [4,5] (s3 (rt ?_))))
   have hr2:eM k rec=(k,false):=by
    first|exact fa hs c25 c33|exact rZ hs c25 c40 c50|exact zR hs c25 c40 c57 hm3|exact ll hs c25 c40 c57
   refine bG rfl rfl ?_
   rw[hr2]<;>rfl
 refine sk (sq (rT [4,5] (s3 (rt ?_))))
 have hr2:eM k rec=(k,false):=by
  first|exact fa hs c25 c33|exact rZ hs c25 c40 c50|exact zR hs c25 c40 c57 hm3|exact ll hs c25 c40 c57
 refine bG rfl rfl ?_
 rw[hr2]<;>rfl
theorem qd (id:Int):Sp 75 1 [tI 0 id] [tV 0 ((dU id).V)]:=by
 refine sb Tryz.func75 rfl (sq (rT [0,2] (s1 (sq (sq (rT [0,2,5] (s1 (xp (jK _) (ai rfl ?_)))))))))
 refine s1 (cd rfl (fun c5=> ?_) fun c5=> ?_)
 · have hr:dU id= .zero:=if_neg (by simpa using c5)
   refine sq (rT [2] (s2 (rt ?_)))
   rw[hr]
   exact rq [] [] rfl qz
 have hr:dU id=⟨id,0,1,[],[],[]⟩:=if_pos (by simpa using c5)
 refine sk (sq (rT [2] (s3 (rt ?_))))
 rw[hr]
 exact rq [] [] rfl qz
set_option maxHeartbeats 1600000 in
theorem xO (k:bC) (rec:List UInt8) (hk:KB k) (hr:rec.length≤900000):Sp 56 2 [tV 0 k.V,tD 1 (.s rec)] [tV 0 (.tup [.agg [.d (.i ((cL k rec).1).id),.d (.i ((cL k rec).1).time),.d (.i ((cL k rec).1).next),.d (.sl (aE ((cL k rec).1).held)),.d (.sl (aP ((cL k rec).1).marks)),.d (.sl (aE ((cL k rec).1).inbox))],.c (.d (.b (cL k rec).2))])]:=by
 refine sb Tryz.func56 rfl (sq (rT [1,2,4] (s3 (sq (sq (rT [1,2,4,10] (s1 (xp (xL k hk.2.1 hk.2.2) (ai rfl ?_)))))))))
 refine s1 (cd rfl (fun c10=> ?_) fun c10=> ?_)
 · refine sq (rT [4,5] (s3 (rt ?_)))
   have hr:cL k rec=(.zero,false):=if_neg (by simpa using c10)
   rw[hr]
   exact rq [] [] rfl qz
 have hok:dC k=true:=by simpa using c10
 refine sk (sq (rT [2,4,6,7] (s1 (xp (tW k (by have:=hk.1;omega)) (ai rfl ?_)))))
 refine s1 (xp (aEk k rec hk.1 hr) (ai rfl ?_))
 refine s6 (sq (sq (rT [2,4,6,25] (s3 (y1 (xc (fun h=>xL (eM k rec).1 (pb (eZ hok) (by omega)).2.1 (pb (eZ hok) (by omega)).2.2) (ai rfl (ai rk ?_))))))))
 refine y1 (ai pk (cd rfl (fun c25=> ?_) fun c25=> ?_))
 · refine sq (rT [4,5] (s1 (xp (tW k (by have:=hk.1;omega)) (ai rfl ?_))))
   refine s2 (rt ?_)
   have hr:cL k rec=(k,false):=(if_pos hok).trans (if_neg (by intro h;rw[aXb] at h;rw[h.1,h.2] at c25;cases c25))
   rw[hr]
   exact rq [] [] rfl qz
 refine sk (sq (rT [4,5] (s1 (xp (tW (eM k rec).1 (by have:=(pb (eZ hok) (show rec.length≤1000000 by omega)).1;omega)) (ai rfl ?_)))))
 refine s2 (rt ?_)
 have hr:cL k rec=((eM k rec).1,true):=(if_pos hok).trans (if_pos (by simpa using c25))
 rw[hr]
 exact rq [] [] rfl qz
set_option maxHeartbeats 1600000 in
theorem aAx (id:Int) (l:List (List UInt8)) (hl:l.length≤900000) (hx: ∀x∈l,x.length≤900000):Sp 21 2 [tI 0 id,tD 1 (.sl (bB l))] [tV 0 (.tup [.agg [.d (.i ((eU id l).1).id),.d (.i ((eU id l).1).time),.d (.i ((eU id l).1).next),.d (.sl (aE ((eU id l).1).held)),.d (.sl (aP ((eU id l).1).marks)),.d (.sl (aE ((eU id l).1).inbox))],.c (.d (.b (eU id l).2))])]:=by
 refine sb Tryz.func21 rfl (sq (rT [0,1,4] (s2 (sq (sq (rT [0,1,4,13] (s1 (xp (jK _) (ai rfl ?_)))))))))
 refine s1 (cd rfl (fun c13=> ?_) fun c13=> ?_)
 · refine sq (rT [4,5] (s3 (rt ?_)))
   have hr:eU id l=(.zero,false):=if_neg (by simpa using c13)
   rw[hr]
   exact rq [] [] rfl qz
 have hnode:eR id=true:=by simpa using c13
 refine sk (sq (rT [1,4,6] (s1 (xp (qd id) (ai rfl ?_)))))
 refine s2 (sq (sq (rT [4,6,17,18,19] (s3 (bk (SW.loopW (n:=l.length) (fun m s=> ∃(i:Nat) (q:bC),m=l.length - i∧i≤l.length∧K6 q∧gX (dU id) l=gX q (l.drop i)∧s=[tP 4 4,tP 6 6,tD 17 (.sl (bB l)),tI 18 (l.length:Nat),tI 19 (i:Nat),oB 4 32 [.d (.i 0),.d (.i 0),.d (.i 0),.nil,.nil,.nil],oB 6 32 [.d (.i (q).id),.d (.i (q).time),.d (.i (q).next),.d (.sl (aE (q).held)),.d (.sl (aP (q).marks)),.d (.sl (aE (q).inbox))]]) ?_ ?_))))))
 · refine wq (σ':=[tP 4 4,tP 6 6,tD 17 (.sl (bB l)),tI 18 (l.length:Nat),tI 19 (0:Nat),oB 4 32 [.d (.i 0),.d (.i 0),.d (.i 0),.nil,.nil,.nil],oB 6 32 [.d (.i (dU id).id),.d (.i (dU id).time),.d (.i (dU id).next),.d (.sl (aE (dU id).held)),.d (.sl (aP (dU id).marks)),.d (.sl (aE (dU id).inbox))]]) [] [] (⟨0,dU id,rfl,aXd _,lm id,rfl,rfl⟩) ?_
   repeat' apply ai
   all_goals first|exact qx|rfl|(rw[aL];done)|exact qz
 rintro n s ⟨i,q,rfl,hi,hq,hgo,rfl⟩
 refine sq (rT [4,6,17,18,19,20] (s1 (sq (cd rfl (fun c20=> ?_) fun c20=> ?_))))
 · have hi2:i<l.length:=by simpa using c20
   have hg:=fV (l:=l) hi2
   have hmem:l.getD i []∈l:=dB hi2
   refine sk (sq (bk (sq (rT [4,6,8,17,18,19] (ai (by rw[aW6,hg];exact⟨⟨by omega,by rw[aL];omega⟩,rfl⟩) (ai (by rw[aW6,hg];exact⟨aW8 rfl,rfl⟩) (s1 (sq (wa [tP 4 4,tP 6 6,tD 8 (.s (l.getD i [])),tD 17 (.sl (bB l)),tI 18 (l.length:Nat),tI 19 (i:Nat),oB 4 32 [.d (.i 0),.d (.i 0),.d (.i 0),.nil,.nil,.nil],oB 6 32 [.d (.i (q).id),.d (.i (q).time),.d (.i (q).next),.d (.sl (aE (q).held)),.d (.sl (aP (q).marks)),.d (.sl (aE (q).inbox))]] [] [] ?_ ?_)))))))))
   · repeat' apply ai
     all_goals first|exact qx|(rw[aW6,hg];rfl)|exact qz
   refine rT [4,6,9,10,17,18,19] (s2 (xp (xO q (l.getD i []) hq.seven.big (hx _ hmem)) (ai rfl ?_)))
   refine s6 (sq (sq (rT [4,6,9,17,18,19,30] (s2 (cd rfl (fun c30=> ?_) fun c30=> ?_)))))
   · have hno: (cL q (l.getD i [])).2=false:=by simpa using c30
     rw[List.drop_eq_getElem_cons hi2,gX,show l[i]=l.getD i [] by rw[aXe,aXg hi2];rfl,hno] at hgo
     refine sq (rT [4,5] (s3 (rt ?_)))
     have hr:eU id l=(.zero,false):=(if_pos hnode).trans (hgo.trans (if_neg (by simp)))
     rw[hr]
     exact rq [] [] rfl qz
   have hno: (cL q (l.getD i [])).2=true:=by simpa using c30
   rw[List.drop_eq_getElem_cons hi2,gX,show l[i]=l.getD i [] by rw[aXe,aXg hi2];rfl,if_pos hno] at hgo
   refine sk (rT [4,6,17,18,19] (s2 (rT [4,6,17,18,19] (s2 (wq [] [] (⟨l.length - (i+1),by omega,i+1,(cL q (l.getD i [])).1,rfl,by omega,aCd,hgo,rfl⟩) ?_)))))
   repeat' apply ai
   all_goals first|exact qx|exact congrArg D.i (aB (by omega))|exact qz
 have hi3:i=l.length:=by simp at c20;omega
 subst hi3
 refine xt (sq (rT [4,5] (s3 (rt ?_))))
 have hr:eU id l=(q,true):=(if_pos hnode).trans (hgo.trans (by rw[List.drop_length];rfl))
 rw[hr]
 exact rq [] [] rfl qz
set_option maxHeartbeats 800000 in
theorem tq (k:bC) (n:bA) (hb:k.held.length≤100000∧k.marks.length≤100000∧k.inbox.length≤100000) (hn:n.text.length≤140737488355328):Sp 210 2 [tV 0 k.V,tV 1 n.V] [tB 0 (ip k n)]:=by
 refine sb Tryz.func210 rfl (sq (rT [2,3] (s3 (sq (rT [4] (s1 (xp (xK n hn) (ai rfl ?_))))))))
 refine s1 (y4 (y1 (ai pk (s1 (y4 (y2 (xc (fun h=>(gB k.held _ _ (by omega))) (ai rfl (ai rk ?_)))))))))
 refine y1 (ai pk (s1 (y4 (y2 (xc (fun h=>(oD k.marks _ _ (by omega))) (ai rfl (ai rk ?_)))))))
 refine y1 (ai pk (s1 (y4 (y2 (xc (fun h=>(gB k.inbox _ _ (by omega))) (ai rfl (ai rk ?_)))))))
 refine y1 (ai pk (s1 (rt (bN rfl (congrArg D.b ?_)))))
 rfl
set_option maxHeartbeats 1600000 in
theorem dt (k:bC) (n:bA) (hb:k.held.length≤100000∧k.marks.length≤100000∧k.inbox.length≤100000) (hn:n.text.length≤140737488355328):Sp 192 2 [tV 0 k.V,tV 1 n.V] [tV 0 (.tup [.agg [.d (.i ((mZ k n).1).id),.d (.i ((mZ k n).1).time),.d (.i ((mZ k n).1).next),.d (.sl (aE ((mZ k n).1).held)),.d (.sl (aP ((mZ k n).1).marks)),.d (.sl (aE ((mZ k n).1).inbox))],.c (.d (.b (mZ k n).2))])]:=by
 refine sb Tryz.func192 rfl (sq (rT [2,3,4] (s4 (sq (sq (rT [2,3,4,9] (s2 (xp (tq k n hb hn) (ai rfl ?_)))))))))
 refine s1 (cd rfl (fun c9=> ?_) fun c9=> ?_)
 · refine sq (rT [4,5] (s3 (rt ?_)))
   have hr:mZ k n=_:=aPb c9
   refine bG rfl rfl ?_
   rw[hr]<;>rfl
 refine sk (sq (sq (rT [2,3,4,15] (s5 (cd rfl (fun c15=> ?_) fun c15=> ?_)))))
 · refine sq (rT [2,4] (s3 (xp (nN k.held n hb.1) (ai rfl ?_))))
   refine s2 (sq (rD [4,5] (s9 (s2 (ai (by kernel_rfl) (rt ?_))))))
   have hr:mZ k n=_:=aPc hb c9 c15
   refine bG rfl rfl ?_
   rw[hr]<;>rfl
 refine sk (sq (rT [2,3,4] (s3 (xp (nN k.inbox n hb.2.2) (ai rfl ?_)))))
 refine s2 (sq (rT [2,4] (s9 (xp (rH k.marks ⟨n.frm,n.num,n.til⟩ hb.2.1) (ai rfl ?_)))))
 refine s2 (sq (rD [4,5] (s9 (s2 (ai (by kernel_rfl) (rt ?_))))))
 have hr:mZ k n=_:=aPd hb c9 c15
 refine bG rfl rfl ?_
 rw[hr]<;>rfl
set_option maxHeartbeats 1600000 in
theorem aAy (k:bC) (a b:Int) (hb:k.held.length≤100000∧k.marks.length≤100000∧k.inbox.length≤100000):Sp 195 3 [tV 0 k.V,tI 1 a,tI 2 b] [tV 0 (.tup [.agg [.d (.i ((lf k a b).1).id),.d (.i ((lf k a b).1).time),.d (.i ((lf k a b).1).next),.d (.sl (aE ((lf k a b).1).held)),.d (.sl (aP ((lf k a b).1).marks)),.d (.sl (aE ((lf k a b).1).inbox))],.c (.d (.b (lf k a b).2))])]:=by
 refine sb Tryz.func195 rfl (sq (rT [1,2,3,6] (s3 (sq (rT [1,2,3,6,8] (s4 (xp (gB k.held a b (by omega)) (ai rfl ?_))))))))
 refine s1 (sq (sq (rT [1,2,3,6,8,16] (s2 (cd rfl (fun c16=> ?_) fun c16=> ?_)))))
 · have hr:lf k a b=(k,false):=if_neg (by simpa using c16)
   refine sq (rT [6,7] (s3 (rt ?_)))
   rw[hr]
   exact rq [] [] rfl qz
 have hp:0≤aS k.held a b:=by simpa using c16
 have hr0:=fT k.held a b
 obtain⟨i,hi⟩:=Int.eq_ofNat_of_zero_le hp
 rw[hi] at hr0
 have hw:wrap64 ((i:Int)+1)=((i+1:Nat):Int):=by rw[aB (by omega)];omega
 have hr:lf k a b=_:=if_pos hp
 have hg:=aQ (l:=k.held) (i:=i) (by omega)
 have et:zy (((aE k.held).getD (aS k.held a b).toNat []).getD 3 (.i 0))=(k.held.getD i .zero).til:=by rw[hi,aW6,hg];rfl
 refine sk (sq (rT [1,2,3,6,8,9] (s3 (ai (by rw[hi,aW6,hg];exact⟨⟨by omega,by rw[aC];omega⟩,rfl⟩) (ai (by rw[hi,aW6,hg];exact⟨aW8 rfl,rfl⟩) (s2 (sq (rD [1,2,3,6,9] (ai (by simp) (s3 (ai (by rw[hi];(try rw[hw]);exact⟨by rw[aC];exact⟨by first|(simp;done)|(simp;omega),by first|(simp;done)|(simp;omega),by first|(simp;done)|(simp;omega)⟩,gD _⟩) (ai (by rw[hi];(try rw[hw]);exact⟨by first|trivial|rfl|(simp;done),by first|rfl|(simp[aC];done),by first|exact kF _ _ _|(simp;done),by(try simp only[aW7,aW9,aXa,aXc,aXf,aC,jT,jU,jV,jW]);show _*48≤_;omega⟩) (s4 (ai (by rw[hi];(try rw[hw]);exact⟨by rw[aC];exact⟨by first|(simp;done)|(simp;omega),by first|(simp;done)|(simp;omega),by first|(simp;done)|(simp;omega)⟩,gD _⟩) (ai (by rw[hi];(try rw[hw]);exact⟨by first|trivial|rfl|(simp;done),by first|rfl|(simp[aC];done),by first|exact kF _ _ _|(simp;done),by(try simp only[aW7,aW9,aXa,aXc,aXf,aC,jT,jU,jV,jW]);show _*48≤_;omega⟩) (s2 (ai (by kernel_rfl) (sq (rT [3,6] (s7 (xp (rH k.marks ⟨a,b,(k.held.getD i .zero).til⟩ hb.2.1) (ai (by exact aPa rfl rfl et) ?_))))))))))))))))))))))
 refine s2 (sq (rT [6,7] (s3 (rt ?_))))
 rw[hr]
 refine rq [] [23] rfl ?_
 repeat' apply ai
 all_goals try exact qx
 all_goals(first|with_reducible rfl|(rw[hi,hw,vN,zP,aW6];simp[aE,gK,List.map_take,List.map_drop];done)|(rw[hi];rfl)|rfl)
set_option maxHeartbeats 1600000 in
theorem aAz (k:bC) (a b:Int) (hb:k.held.length≤100000∧k.marks.length≤100000∧k.inbox.length≤100000):Sp 196 3 [tV 0 k.V,tI 1 a,tI 2 b] [tV 0 (.tup [.agg [.d (.i ((li k a b).1).id),.d (.i ((li k a b).1).time),.d (.i ((li k a b).1).next),.d (.sl (aE ((li k a b).1).held)),.d (.sl (aP ((li k a b).1).marks)),.d (.sl (aE ((li k a b).1).inbox))],.c (.d (.b (li k a b).2))])]:=by
 refine sb Tryz.func196 rfl (sq (rT [1,2,3,6] (s3 (sq (rT [3,6,8] (s4 (xp (gB k.inbox a b (by omega)) (ai rfl ?_))))))))
 refine s1 (sq (sq (rT [3,6,8,15] (s2 (cd rfl (fun c15=> ?_) fun c15=> ?_)))))
 · have hr:li k a b=(k,false):=if_neg (by simpa using c15)
   refine sq (rT [6,7] (s3 (rt ?_)))
   rw[hr]
   exact rq [] [] rfl qz
 have hp:0≤aS k.inbox a b:=by simpa using c15
 have hr0:=fT k.inbox a b
 obtain⟨i,hi⟩:=Int.eq_ofNat_of_zero_le hp
 rw[hi] at hr0
 have hw:wrap64 ((i:Int)+1)=((i+1:Nat):Int):=by rw[aB (by omega)];omega
 have hr:li k a b=_:=if_pos hp
 refine sk (sq (rD [3,6] (ai (by simp) (s3 (ai (by rw[hi];(try rw[hw]);exact⟨by rw[aC];exact⟨by first|(simp;done)|(simp;omega),by first|(simp;done)|(simp;omega),by first|(simp;done)|(simp;omega)⟩,gD _⟩) (ai (by rw[hi];(try rw[hw]);exact⟨by first|trivial|rfl|(simp;done),by first|rfl|(simp[aC];done),by first|exact kF _ _ _|(simp;done),by(try simp only[aW7,aW9,aXa,aXc,aXf,aC,jT,jU,jV,jW]);show _*48≤_;omega⟩) (s4 (ai (by rw[hi];(try rw[hw]);exact⟨by rw[aC];exact⟨by first|(simp;done)|(simp;omega),by first|(simp;done)|(simp;omega),by first|(simp;done)|(simp;omega)⟩,gD _⟩) (ai (by rw[hi];(try rw[hw]);exact⟨by first|trivial|rfl|(simp;done),by first|rfl|(simp[aC];done),by first|exact kF _ _ _|(simp;done),by(try simp only[aW7,aW9,aXa,aXc,aXf,aC,jT,jU,jV,jW]);show _*48≤_;omega⟩) (s2 (ai (by kernel_rfl) (sq (rT [6,7] (s3 (rt ?_)))))))))))))))
 rw[hr]
 refine rq [] [17] rfl ?_
 repeat' apply ai
 all_goals try exact qx
 all_goals(first|with_reducible rfl|(rw[hi,hw,vN,zP,aW6];simp[aE,gK,List.map_take,List.map_drop];done)|rfl)
theorem aJj (m:Nat) (hm:1≤m∧m≤1000000):Sp 97 1 [tI 0 (-(m:Int))] [tD 0 (.s (45::jZ m))]:=by
 refine sb Tryz.func97 rfl (sq (rT [0] (s1 (sq (sq (rT [0,4] (s2 (cd rfl (fun c4=> ?_) fun c4=> ?_))))))))
 · simp at c4
   omega
 refine sk (sq (sq (rT [0,6] (s2 (cd rfl (fun c6=> ?_) fun c6=> ?_)))))
 · refine sq (rT [2] (s2 (xp (uP m (by omega)) (ai (by exact aKn (show wrap64 (0 - -(m:Int))=m by rw[aB (by omega)];omega)) ?_))))
   refine ai (by have:=aKi m;show _≤9223372036854775807;simp only[aW9,aXa];omega) (s1 (rt (bN rfl (congrArg D.s ?_))))
   rfl
 simp at c6
 omega
theorem yK (n:Int) (h: -1≤n∧n≤9999):Sp 97 1 [tI 0 n] [tD 0 (.s (pa n))]:=by
 unfold pa
 by_cases h0:n<0
 · obtain rfl:n= -1:=by omega
   exact aJj 1 (by omega)
 rw[if_neg h0]
 exact kP n (by omega)
set_option maxHeartbeats 6400000 in
theorem aA0 (k:bC) (rec:List UInt8) (hb:k.held.length≤100000∧k.marks.length≤100000∧k.inbox.length≤100000) (hr:rec.length≤900000):Sp 160 2 [tV 0 k.V,tD 1 (.s rec)] [tV 0 (.tup [.agg [.d (.i ((gO k rec).1).id),.d (.i ((gO k rec).1).time),.d (.i ((gO k rec).1).next),.d (.sl (aE ((gO k rec).1).held)),.d (.sl (aP ((gO k rec).1).marks)),.d (.sl (aE ((gO k rec).1).inbox))],.c (.d (.b (gO k rec).2))])]:=by
 have hl1:=uX rec
 have hl2:=eu rec
 have hl3:=zQ (aO rec)
 have e0:zy (((cZ (fD 3 (aO rec))).getD 0 []).getD 0 (.i 0))=dO (aO rec) 0:=ww (by omega)
 have e1:zy (((cZ (fD 3 (aO rec))).getD 1 []).getD 0 (.i 0))=dO (aO rec) 1:=ww (by omega)
 have e2:zy (((cZ (fD 3 (aO rec))).getD 2 []).getD 0 (.i 0))=dO (aO rec) 2:=ww (by omega)
 refine sb Tryz.func160 rfl (sq (rT [1,2,4] (s3 (sq (rT [2,4,6,7] (s1 (xp (gn rec (by omega)) (ai rfl ?_))))))))
 refine s5 (sq (sq (rT [2,4,6,7,25] (s1 (bk (sq (rT [2,4,6,7,25,26] (s2 (cd rfl (fun c26=> ?_) fun c26=> ?_)))))))))
 · refine sq (rT [2,4,8] (s1 (xp (uQ (aO rec) (by omega)) (ai rfl ?_))))
   refine s1 (sq (sq (rT [2,4,8,33] (s4 (cd rfl (fun c33=> ?_) fun c33=> ?_)))))
   · refine sq (rT [4,5] (s3 (rt ?_)))
     have hr:gO k rec=(k,false):=(if_pos c26).trans (if_pos (by simpa using c33))
     refine bG rfl rfl ?_
     rw[hr]<;>rfl
   refine sk (sq (rT [4,5] (s2 (xp (yz k (gW (aO rec)) hb) (ai rfl ?_)))))
   refine s2 (rt ?_)
   have hr:gO k rec=_:=(if_pos c26).trans (if_neg (by simpa using c33))
   refine bG rfl rfl ?_
   rw[hr]<;>rfl
 refine sq (rT [2,4,6,7,25,38] (s2 (cd rfl (fun c38=> ?_) fun c38=> ?_)))
 · refine sq (rT [2,4,9,10] (s1 (xp (tU (aO rec) (by omega)) (ai rfl ?_))))
   refine s6 (sq (sq (rT [2,4,9,60] (s3 (y4 (y1 (ai pk (s1 (y4 (y1 (ai pk (cd rfl (fun c60=> ?_) fun c60=> ?_))))))))))))
   · refine sq (rT [4,5] (s3 (rt ?_)))
     have hr:gO k rec=(k,false):=(if_neg (bn c26)).trans ((if_pos c38).trans (if_pos c60))
     refine bG rfl rfl ?_
     rw[hr]<;>rfl
   refine sk (sq (rT [2,4,9] (s5 (sq (rT [4,5] (s2 (xp (dt {k with next:=wrap64 (k.next+1)} (eB (aO rec)).1 hb (by omega)) (ai rfl ?_))))))))
   refine s4 (rt ?_)
   have hr:gO k rec=_:=(if_neg (bn c26)).trans ((if_pos c38).trans (if_neg (bn c60)))
   refine bG rfl rfl ?_
   rw[hr]<;>rfl
 refine sq (rT [2,4,6,7,25,71] (s2 (cd rfl (fun c71=> ?_) fun c71=> ?_)))
 · refine sq (rT [2,4,11,12] (s1 (xp (tU (aO rec) (by omega)) (ai rfl ?_))))
   refine s6 (sq (sq (rT [2,4,11,86] (s3 (y4 (y1 (ai pk (cd rfl (fun c86=> ?_) fun c86=> ?_))))))))
   · refine sq (rT [4,5] (s3 (rt ?_)))
     have hr:gO k rec=(k,false):=(if_neg (bn c26)).trans ((if_neg (bn c38)).trans ((if_pos c71).trans (if_pos c86)))
     refine bG rfl rfl ?_
     rw[hr]<;>rfl
   refine sk (sq (rT [4,5] (s2 (xp (dt k (eB (aO rec)).1 hb (by omega)) (ai rfl ?_)))))
   refine s4 (rt ?_)
   have hr:gO k rec=_:=(if_neg (bn c26)).trans ((if_neg (bn c38)).trans ((if_pos c71).trans (if_neg (bn c86))))
   refine bG rfl rfl ?_
   rw[hr]<;>rfl
 refine sq (rT [2,4,6,7,25,93] (s2 (cd rfl (fun c93=> ?_) fun c93=> ?_)))
 · refine sq (rT [2,4,13] (s1 (xp (uQ (aO rec) (by omega)) (ai rfl ?_))))
   refine s1 (sq (sq (rT [2,4,13,100] (s4 (cd rfl (fun c100=> ?_) fun c100=> ?_)))))
   · refine sq (rT [4,5] (s3 (rt ?_)))
     have hr:gO k rec=(k,false):=(if_neg (bn c26)).trans ((if_neg (bn c38)).trans ((if_neg (bn c71)).trans ((if_pos c93).trans (if_pos (by simpa using c100)))))
     refine bG rfl rfl ?_
     rw[hr]<;>rfl
   refine sk (sq (rT [2,4] (s3 (sq (rT [4,5] (s3 (rt ?_)))))))
   have hr:gO k rec=_:=(if_neg (bn c26)).trans ((if_neg (bn c38)).trans ((if_neg (bn c71)).trans ((if_pos c93).trans (if_neg (by simpa using c100)))))
   refine bG rfl rfl ?_
   rw[hr]<;>rfl
 refine SW.midW (fun q=>q=[tP 2 2,tP 4 4,tD 6 (.s (bH rec)),tD 7 (.s (aO rec)),tB 105 (bH rec==hG||bH rec==fP),oB 2 32 [.d (.i k.id),.d (.i k.time),.d (.i k.next),.d (.sl (aE k.held)),.d (.sl (aP k.marks)),.d (.sl (aE k.inbox))],oB 4 32 [.d (.i 0),.d (.i 0),.d (.i 0),.nil,.nil,.nil]]) ?_ ?_
 · refine sq (rT [2,4,6,7,25,105] (s2 (cd rfl (fun c105=> ?_) fun c105=> ?_)))
   · refine sk (wq [] [] (rfl) ?_)
     repeat' apply ai
     all_goals first|exact qx|(refine congrArg D.b ?_;simp_all[hG,fP])|exact qz
   refine rT [2,4,6,7,105] (s2 (wq [] [] (rfl) ?_))
   repeat' apply ai
   all_goals first|exact qx|(refine congrArg D.b ?_;simp_all[hG,fP])|exact qz
 rintro s rfl
 refine cd rfl (fun c105=> ?_) fun c105=> ?_
 · refine sq (rT [2,4,6,14,15] (s1 (xp (tU (aO rec) (by omega)) (ai rfl ?_))))
   refine s6 (sq (sq (rT [2,4,6,14,134] (s3 (y4 (y2 (xc (fun h=>(gB k.held _ _ (by omega))) (ai rfl (ai rk ?_)))))))))
   refine y1 (ai pk (s1 (y4 (y2 (xc (fun h=>(gB k.inbox _ _ (by omega))) (ai rfl (ai rk ?_)))))))
   refine y1 (ai pk (cd rfl (fun c134=> ?_) fun c134=> ?_))
   · refine sq (rT [4,5] (s3 (rt ?_)))
     have hr:gO k rec=(k,false):=(if_neg (bn c26)).trans ((if_neg (bn c38)).trans ((if_neg (bn c71)).trans ((if_neg (bn c93)).trans ((if_pos c105).trans (if_pos c134)))))
     refine bG rfl rfl ?_
     rw[hr]<;>rfl
   refine sk (sq (sq (rT [2,4,14,137] (s2 (cd rfl (fun c137=> ?_) fun c137=> ?_)))))
   · refine rT [2,4] (s3 (xp (nN k.held (eB (aO rec)).1 hb.1) (ai rfl ?_)))
     refine s2 (sq (rT [4,5] (s3 (rt ?_))))
     first|have hr:gO k rec=_:=(if_neg (bn c26)).trans ((if_neg (bn c38)).trans ((if_neg (bn c71)).trans ((if_neg (bn c93)).trans ((if_pos c105).trans ((if_neg (bn c134)).trans (if_pos c137))))))|have hr:gO k rec=_:=(if_neg (bn c26)).trans ((if_neg (bn c38)).trans ((if_neg (bn c71)).trans ((if_neg (bn c93)).trans ((if_pos c105).trans ((if_neg (bn c134)).trans (if_neg (bn c137)))))))
     refine bG rfl rfl ?_
     rw[hr]<;>rfl
   refine rT [2,4] (s3 (xp (nN k.inbox (eB (aO rec)).1 hb.2.2) (ai rfl ?_)))
   refine s2 (sq (rT [4,5] (s3 (rt ?_))))
   first|have hr:gO k rec=_:=(if_neg (bn c26)).trans ((if_neg (bn c38)).trans ((if_neg (bn c71)).trans ((if_neg (bn c93)).trans ((if_pos c105).trans ((if_neg (bn c134)).trans (if_pos c137))))))|have hr:gO k rec=_:=(if_neg (bn c26)).trans ((if_neg (bn c38)).trans ((if_neg (bn c71)).trans ((if_neg (bn c93)).trans ((if_pos c105).trans ((if_neg (bn c134)).trans (if_neg (bn c137)))))))
   refine bG rfl rfl ?_
   rw[hr]<;>rfl
 refine sk (sq (rT [2,4,6,7,16,17] (s1 (xp (go (aO rec) 3 (by omega) (by omega)) (ai rfl ?_)))))
 refine s5 (sq (sq (rD [2,4,6,16,175] (s3 (y2 (ai (fun h=>(by exact kw (l:=fD 3 (aO rec)) (by omega) (by rw[bP];omega))) (ai rk (ai (fun h=>(by have:=iR (l:=fD 3 (aO rec)) (i:=0) (by rw[bP];omega);rw[show((0:Int)).toNat=((0:Nat):Int).toNat from rfl,this];exact⟨aW8 rfl,rfl⟩)) (ai rk (xc (fun h=>yK (dO (aO rec) 0) (gP _ _)) (ai (by exact aKn e0) (ai rk ?_))))))))))))
 refine ai (fun h=>(by have q0:=nA (gP (aO rec) 0);have q1:=nA (gP (aO rec) 1);have q2:=nA (gP (aO rec) 2);show _≤9223372036854775807;simp only[aW7,aW9,aXa];omega)) (ai rk (y1 (ai (fun h=>(by exact kw (l:=fD 3 (aO rec)) (by omega) (by rw[bP];omega))) (ai rk (ai (fun h=>(by have:=iR (l:=fD 3 (aO rec)) (i:=1) (by rw[bP];omega);rw[show((1:Int)).toNat=((1:Nat):Int).toNat from rfl,this];exact⟨aW8 rfl,rfl⟩)) (ai rk (xc (fun h=>yK (dO (aO rec) 1) (gP _ _)) (ai (by exact aKn e1) (ai rk ?_)))))))))
 refine ai (fun h=>(by have q0:=nA (gP (aO rec) 0);have q1:=nA (gP (aO rec) 1);have q2:=nA (gP (aO rec) 2);show _≤9223372036854775807;simp only[aW7,aW9,aXa];omega)) (ai rk (ai (fun h=>(by have q0:=nA (gP (aO rec) 0);have q1:=nA (gP (aO rec) 1);have q2:=nA (gP (aO rec) 2);show _≤9223372036854775807;simp only[aW7,aW9,aXa];omega)) (ai rk (y1 (ai (fun h=>(by exact kw (l:=fD 3 (aO rec)) (by omega) (by rw[bP];omega))) (ai rk (ai (fun h=>(by have:=iR (l:=fD 3 (aO rec)) (i:=2) (by rw[bP];omega);rw[show((2:Int)).toNat=((2:Nat):Int).toNat from rfl,this];exact⟨aW8 rfl,rfl⟩)) (ai rk (xc (fun h=>yK (dO (aO rec) 2) (gP _ _)) (ai (by exact aKn e2) (ai rk ?_)))))))))))
 refine ai (fun h=>(by have q0:=nA (gP (aO rec) 0);have q1:=nA (gP (aO rec) 1);have q2:=nA (gP (aO rec) 2);show _≤9223372036854775807;simp only[aW7,aW9,aXa];omega)) (ai rk (y1 (ai pk (ai (by kernel_rfl) (cd rfl (fun c175=> ?_) fun c175=> ?_)))))
 · refine sq (rT [4,5] (s3 (rt ?_)))
   have hr:gO k rec=(k,false):=(if_neg (bn c26)).trans ((if_neg (bn c38)).trans ((if_neg (bn c71)).trans ((if_neg (bn c93)).trans ((if_neg (bn c105)).trans (if_pos c175)))))
   refine bG rfl rfl ?_
   rw[hr]<;>rfl
 refine sk (sq (sq (rT [2,4,16,177] (s1 (bk (sq (rT [2,4,16,177,178] (s2 (cd rfl (fun c178=> ?_) fun c178=> ?_)))))))))
 · refine sq (rD [2,4,16,18] (s3 (ai (by exact kw (l:=fD 3 (aO rec)) (by omega) (by rw[bP];omega)) (ai (by have:=iR (l:=fD 3 (aO rec)) (i:=0) (by rw[bP];omega);rw[show((0:Int)).toNat=((0:Nat):Int).toNat from rfl,this];exact⟨aW8 rfl,rfl⟩) (s1 (ai (by exact kw (l:=fD 3 (aO rec)) (by omega) (by rw[bP];omega)) (ai (by have:=iR (l:=fD 3 (aO rec)) (i:=1) (by rw[bP];omega);rw[show((1:Int)).toNat=((1:Nat):Int).toNat from rfl,this];exact⟨aW8 rfl,rfl⟩) (xp (gB k.held (dO (aO rec) 0) (dO (aO rec) 1) (by omega)) (ai (by exact wv e0 e1) ?_)))))))))
   refine s1 (ai (by kernel_rfl) (sq (sq (rD [2,4,16,202] (s3 (y3 (ai (fun h=>(by have hp:0≤aS k.held (dO (aO rec) 0) (dO (aO rec) 1):=(by have h8:=h;simp[gb] at h8;omega);have hr:=fT k.held (dO (aO rec) 0) (dO (aO rec) 1);rw[aQ (by omega)];exact⟨⟨hp,by rw[aC];omega⟩,rfl⟩)) (ai rk (y1 (ai (fun h=>(by have hp:0≤aS k.held (dO (aO rec) 0) (dO (aO rec) 1):=(by have h8:=h;simp[gb] at h8;omega);have hr:=fT k.held (dO (aO rec) 0) (dO (aO rec) 1);rw[aQ (by omega)];exact⟨aW8 rfl,rfl⟩)) (ai rk (y1 (ai (fun h=>(by exact kw (l:=fD 3 (aO rec)) (by omega) (by rw[bP];omega))) (ai rk (ai (fun h=>(by have:=iR (l:=fD 3 (aO rec)) (i:=2) (by rw[bP];omega);rw[show((2:Int)).toNat=((2:Nat):Int).toNat from rfl,this];exact⟨aW8 rfl,rfl⟩)) (ai rk (y1 (ai pk (ai (by kernel_rfl) (cd rfl (fun c202=> ?_) fun c202=> ?_))))))))))))))))))))
   · have hq:=fb (y:=(k.held.getD (aS k.held (dO (aO rec) 0) (dO (aO rec) 1)).toNat .zero).til != (dO (aO rec) 2)) c202 (fun hp=>by have hr:=fT k.held (dO (aO rec) 0) (dO (aO rec) 1);rw[aQ (by omega)];exact congrArg (fun z=>((k.held.getD (aS k.held (dO (aO rec) 0) (dO (aO rec) 1)).toNat .zero).til != z)) e2)
     refine sq (rT [4,5] (s3 (rt ?_)))
     have hr:gO k rec=(k,false):=(if_neg (bn c26)).trans ((if_neg (bn c38)).trans ((if_neg (bn c71)).trans ((if_neg (bn c93)).trans ((if_neg (bn c105)).trans ((if_neg (bn c175)).trans ((if_pos c178).trans (if_pos hq)))))))
     refine bG rfl rfl ?_
     rw[hr]<;>rfl
   have hq:=fb (y:=(k.held.getD (aS k.held (dO (aO rec) 0) (dO (aO rec) 1)).toNat .zero).til != (dO (aO rec) 2)) c202 (fun hp=>by have hr:=fT k.held (dO (aO rec) 0) (dO (aO rec) 1);rw[aQ (by omega)];exact congrArg (fun z=>((k.held.getD (aS k.held (dO (aO rec) 0) (dO (aO rec) 1)).toNat .zero).til != z)) e2)
   refine sk (sq (rD [4,5] (s2 (ai (by exact kw (l:=fD 3 (aO rec)) (by omega) (by rw[bP];omega)) (ai (by have:=iR (l:=fD 3 (aO rec)) (i:=0) (by rw[bP];omega);rw[show((0:Int)).toNat=((0:Nat):Int).toNat from rfl,this];exact⟨aW8 rfl,rfl⟩) (s1 (ai (by exact kw (l:=fD 3 (aO rec)) (by omega) (by rw[bP];omega)) (ai (by have:=iR (l:=fD 3 (aO rec)) (i:=1) (by rw[bP];omega);rw[show((1:Int)).toNat=((1:Nat):Int).toNat from rfl,this];exact⟨aW8 rfl,rfl⟩) (xp (aAy k (dO (aO rec) 0) (dO (aO rec) 1) hb) (ai (by exact wv e0 e1) ?_))))))))))
   refine s4 (ai (by kernel_rfl) (rt ?_))
   have hr:gO k rec=_:=(if_neg (bn c26)).trans ((if_neg (bn c38)).trans ((if_neg (bn c71)).trans ((if_neg (bn c93)).trans ((if_neg (bn c105)).trans ((if_neg (bn c175)).trans ((if_pos c178).trans (if_neg (bn hq))))))))
   refine bG rfl rfl ?_
   rw[hr]<;>rfl
 refine sq (rT [2,4,16,177,214] (s2 (cd rfl (fun c214=> ?_) fun c214=> ?_)))
 · refine sq (rD [2,4,16,19] (s3 (ai (by exact kw (l:=fD 3 (aO rec)) (by omega) (by rw[bP];omega)) (ai (by have:=iR (l:=fD 3 (aO rec)) (i:=0) (by rw[bP];omega);rw[show((0:Int)).toNat=((0:Nat):Int).toNat from rfl,this];exact⟨aW8 rfl,rfl⟩) (s1 (ai (by exact kw (l:=fD 3 (aO rec)) (by omega) (by rw[bP];omega)) (ai (by have:=iR (l:=fD 3 (aO rec)) (i:=1) (by rw[bP];omega);rw[show((1:Int)).toNat=((1:Nat):Int).toNat from rfl,this];exact⟨aW8 rfl,rfl⟩) (xp (gB k.inbox (dO (aO rec) 0) (dO (aO rec) 1) (by omega)) (ai (by exact wv e0 e1) ?_)))))))))
   refine s1 (ai (by kernel_rfl) (sq (sq (rD [2,4,16,238] (s3 (y3 (ai (fun h=>(by have hp:0≤aS k.inbox (dO (aO rec) 0) (dO (aO rec) 1):=(by have h8:=h;simp[gb] at h8;omega);have hr:=fT k.inbox (dO (aO rec) 0) (dO (aO rec) 1);rw[aQ (by omega)];exact⟨⟨hp,by rw[aC];omega⟩,rfl⟩)) (ai rk (y1 (ai (fun h=>(by have hp:0≤aS k.inbox (dO (aO rec) 0) (dO (aO rec) 1):=(by have h8:=h;simp[gb] at h8;omega);have hr:=fT k.inbox (dO (aO rec) 0) (dO (aO rec) 1);rw[aQ (by omega)];exact⟨aW8 rfl,rfl⟩)) (ai rk (y1 (ai (fun h=>(by exact kw (l:=fD 3 (aO rec)) (by omega) (by rw[bP];omega))) (ai rk (ai (fun h=>(by have:=iR (l:=fD 3 (aO rec)) (i:=2) (by rw[bP];omega);rw[show((2:Int)).toNat=((2:Nat):Int).toNat from rfl,this];exact⟨aW8 rfl,rfl⟩)) (ai rk (y1 (ai pk (ai (by kernel_rfl) (cd rfl (fun c238=> ?_) fun c238=> ?_))))))))))))))))))))
   · have hq:=fb (y:=(k.inbox.getD (aS k.inbox (dO (aO rec) 0) (dO (aO rec) 1)).toNat .zero).til != (dO (aO rec) 2)) c238 (fun hp=>by have hr:=fT k.inbox (dO (aO rec) 0) (dO (aO rec) 1);rw[aQ (by omega)];exact congrArg (fun z=>((k.inbox.getD (aS k.inbox (dO (aO rec) 0) (dO (aO rec) 1)).toNat .zero).til != z)) e2)
     refine sq (rT [4,5] (s3 (rt ?_)))
     have hr:gO k rec=(k,false):=(if_neg (bn c26)).trans ((if_neg (bn c38)).trans ((if_neg (bn c71)).trans ((if_neg (bn c93)).trans ((if_neg (bn c105)).trans ((if_neg (bn c175)).trans ((if_neg (bn c178)).trans ((if_pos c214).trans (if_pos hq))))))))
     refine bG rfl rfl ?_
     rw[hr]<;>rfl
   have hq:=fb (y:=(k.inbox.getD (aS k.inbox (dO (aO rec) 0) (dO (aO rec) 1)).toNat .zero).til != (dO (aO rec) 2)) c238 (fun hp=>by have hr:=fT k.inbox (dO (aO rec) 0) (dO (aO rec) 1);rw[aQ (by omega)];exact congrArg (fun z=>((k.inbox.getD (aS k.inbox (dO (aO rec) 0) (dO (aO rec) 1)).toNat .zero).til != z)) e2)
   refine sk (sq (rD [4,5] (s2 (ai (by exact kw (l:=fD 3 (aO rec)) (by omega) (by rw[bP];omega)) (ai (by have:=iR (l:=fD 3 (aO rec)) (i:=0) (by rw[bP];omega);rw[show((0:Int)).toNat=((0:Nat):Int).toNat from rfl,this];exact⟨aW8 rfl,rfl⟩) (s1 (ai (by exact kw (l:=fD 3 (aO rec)) (by omega) (by rw[bP];omega)) (ai (by have:=iR (l:=fD 3 (aO rec)) (i:=1) (by rw[bP];omega);rw[show((1:Int)).toNat=((1:Nat):Int).toNat from rfl,this];exact⟨aW8 rfl,rfl⟩) (xp (aAz k (dO (aO rec) 0) (dO (aO rec) 1) hb) (ai (by exact wv e0 e1) ?_))))))))))
   refine s4 (ai (by kernel_rfl) (rt ?_))
   have hr:gO k rec=_:=(if_neg (bn c26)).trans ((if_neg (bn c38)).trans ((if_neg (bn c71)).trans ((if_neg (bn c93)).trans ((if_neg (bn c105)).trans ((if_neg (bn c175)).trans ((if_neg (bn c178)).trans ((if_pos c214).trans (if_neg (bn hq)))))))))
   refine bG rfl rfl ?_
   rw[hr]<;>rfl
 refine sq (rT [2,4,16,250] (s2 (cd rfl (fun c250=> ?_) fun c250=> ?_)))
 · refine sq (sq (rD [2,4,16,261] (s3 (ai (by exact kw (l:=fD 3 (aO rec)) (by omega) (by rw[bP];omega)) (ai (by have:=iR (l:=fD 3 (aO rec)) (i:=0) (by rw[bP];omega);rw[show((0:Int)).toNat=((0:Nat):Int).toNat from rfl,this];exact⟨aW8 rfl,rfl⟩) (s1 (ai (by exact kw (l:=fD 3 (aO rec)) (by omega) (by rw[bP];omega)) (ai (by have:=iR (l:=fD 3 (aO rec)) (i:=1) (by rw[bP];omega);rw[show((1:Int)).toNat=((1:Nat):Int).toNat from rfl,this];exact⟨aW8 rfl,rfl⟩) (xp (oD k.marks (dO (aO rec) 0) (dO (aO rec) 1) (by omega)) (ai (by exact wv e0 e1) ?_))))))))))
   refine s1 (ai (by kernel_rfl) (cd rfl (fun c261=> ?_) fun c261=> ?_))
   · refine sq (rT [4,5] (s3 (rt ?_)))
     have hr:gO k rec=(k,false):=(if_neg (bn c26)).trans ((if_neg (bn c38)).trans ((if_neg (bn c71)).trans ((if_neg (bn c93)).trans ((if_neg (bn c105)).trans ((if_neg (bn c175)).trans ((if_neg (bn c178)).trans ((if_neg (bn c214)).trans ((if_pos c250).trans (if_pos (of_decide_eq_true c261))))))))))
     refine bG rfl rfl ?_
     rw[hr]<;>rfl
   refine sk (sq (rD [2,4] (s3 (ai (by exact kw (l:=fD 3 (aO rec)) (by omega) (by rw[bP];omega)) (ai (by have:=iR (l:=fD 3 (aO rec)) (i:=0) (by rw[bP];omega);rw[show((0:Int)).toNat=((0:Nat):Int).toNat from rfl,this];exact⟨aW8 rfl,rfl⟩) (s1 (ai (by exact kw (l:=fD 3 (aO rec)) (by omega) (by rw[bP];omega)) (ai (by have:=iR (l:=fD 3 (aO rec)) (i:=1) (by rw[bP];omega);rw[show((1:Int)).toNat=((1:Nat):Int).toNat from rfl,this];exact⟨aW8 rfl,rfl⟩) (s1 (ai (by exact kw (l:=fD 3 (aO rec)) (by omega) (by rw[bP];omega)) (ai (by have:=iR (l:=fD 3 (aO rec)) (i:=2) (by rw[bP];omega);rw[show((2:Int)).toNat=((2:Nat):Int).toNat from rfl,this];exact⟨aW8 rfl,rfl⟩) (s1 (xp (rH k.marks ⟨(dO (aO rec) 0),(dO (aO rec) 1),(dO (aO rec) 2)⟩ hb.2.1) (ai (by exact aPa e0 e1 e2) ?_))))))))))))))
   refine s2 (ai (by kernel_rfl) (sq (rT [4,5] (s3 (rt ?_)))))
   have hr:gO k rec=_:=(if_neg (bn c26)).trans ((if_neg (bn c38)).trans ((if_neg (bn c71)).trans ((if_neg (bn c93)).trans ((if_neg (bn c105)).trans ((if_neg (bn c175)).trans ((if_neg (bn c178)).trans ((if_neg (bn c214)).trans ((if_pos c250).trans (if_neg (of_decide_eq_false c261))))))))))
   refine bG rfl rfl ?_
   rw[hr]<;>rfl
 refine sk (sq (rT [4,5] (s3 (rt ?_))))
 have hr:gO k rec=(k,false):=(if_neg (bn c26)).trans ((if_neg (bn c38)).trans ((if_neg (bn c71)).trans ((if_neg (bn c93)).trans ((if_neg (bn c105)).trans ((if_neg (bn c175)).trans ((if_neg (bn c178)).trans ((if_neg (bn c214)).trans (if_neg (bn c250)))))))))
 refine bG rfl rfl ?_
 rw[hr]<;>rfl
theorem qe (id:Int):Sp 115 1 [tI 0 id] [tV 0 ((dU id).V)]:=by
 refine sb Tryz.func115 rfl (sq (rT [0,2] (s1 (sq (sq (rT [0,2,5] (s1 (xp (dS _) (ai rfl ?_)))))))))
 refine s1 (cd rfl (fun c5=> ?_) fun c5=> ?_)
 · have hr:dU id= .zero:=if_neg (by simpa using c5)
   refine sq (rT [2] (s2 (rt ?_)))
   rw[hr]
   exact rq [] [] rfl qz
 have hr:dU id=⟨id,0,1,[],[],[]⟩:=if_pos (by simpa using c5)
 refine sk (sq (rT [2] (s3 (rt ?_))))
 rw[hr]
 exact rq [] [] rfl qz
set_option maxHeartbeats 1600000 in
theorem gq (k:bC) (rec:List UInt8) (hk:KB k) (hr:rec.length≤900000):Sp 116 2 [tV 0 k.V,tD 1 (.s rec)] [tV 0 (.tup [.agg [.d (.i ((pI k rec).1).id),.d (.i ((pI k rec).1).time),.d (.i ((pI k rec).1).next),.d (.sl (aE ((pI k rec).1).held)),.d (.sl (aP ((pI k rec).1).marks)),.d (.sl (aE ((pI k rec).1).inbox))],.c (.d (.b (pI k rec).2))])]:=by
 refine sb Tryz.func116 rfl (sq (rT [1,2,4] (s3 (sq (sq (rT [1,2,4,10] (s1 (xp (xM k hk.1 hk.2.1 hk.2.2) (ai rfl ?_)))))))))
 refine s1 (cd rfl (fun c10=> ?_) fun c10=> ?_)
 · refine sq (rT [4,5] (s3 (rt ?_)))
   have hr:pI k rec=(.zero,false):=if_neg (by simpa using c10)
   rw[hr]
   exact rq [] [] rfl qz
 have hok:dC k=true:=by simpa using c10
 refine sk (sq (rT [2,4,6,7] (s1 (xp (vT k (by have:=hk.1;omega)) (ai rfl ?_)))))
 refine s1 (xp (aA0 k rec hk.1 hr) (ai rfl ?_))
 refine s6 (sq (sq (rT [2,4,6,25] (s3 (y1 (xc (fun h=>xM (gO k rec).1 (fd (eZ hok) (by omega)).big.1 (fd (eZ hok) (by omega)).2.1 (fd (eZ hok) (by omega)).2.2) (ai rfl (ai rk ?_))))))))
 refine y1 (ai pk (cd rfl (fun c25=> ?_) fun c25=> ?_))
 · refine sq (rT [4,5] (s1 (xp (vT k (by have:=hk.1;omega)) (ai rfl ?_))))
   refine s2 (rt ?_)
   have hr:pI k rec=(k,false):=(if_pos hok).trans (if_neg (by intro h;rw[aXb] at h;rw[h.1,h.2] at c25;cases c25))
   rw[hr]
   exact rq [] [] rfl qz
 refine sk (sq (rT [4,5] (s1 (xp (vT (gO k rec).1 (by have:=(fd (eZ hok) (show rec.length≤1000000 by omega)).1;omega)) (ai rfl ?_)))))
 refine s2 (rt ?_)
 have hr:pI k rec=((gO k rec).1,true):=(if_pos hok).trans (if_pos (by simpa using c25))
 rw[hr]
 exact rq [] [] rfl qz
theorem aPs (k:bC) (rec:List UInt8) (hk:KB k) (hr:rec.length≤900000):Ab.Spec Tryz.prog 116 2 [(.t 0,.v (k.V)),(.t 1,.v (Dv (.s rec)))] [(.t 0,.v (.tup [.agg [.d (.i ((cL k rec).1).id),.d (.i ((cL k rec).1).time),.d (.i ((cL k rec).1).next),.d (.sl (aE ((cL k rec).1).held)),.d (.sl (aP ((cL k rec).1).marks)),.d (.sl (aE ((cL k rec).1).inbox))],.c (.d (.b (cL k rec).2))]))]:=pc k rec▸gq k rec hk hr
set_option maxHeartbeats 1600000 in
theorem xP (id:Int) (l:List (List UInt8)) (hl:l.length≤900000) (hx: ∀x∈l,x.length≤900000):Sp 70 2 [tI 0 id,tD 1 (.sl (bB l))] [tV 0 (.tup [.agg [.d (.i ((eU id l).1).id),.d (.i ((eU id l).1).time),.d (.i ((eU id l).1).next),.d (.sl (aE ((eU id l).1).held)),.d (.sl (aP ((eU id l).1).marks)),.d (.sl (aE ((eU id l).1).inbox))],.c (.d (.b (eU id l).2))])]:=by
 refine sb Tryz.func70 rfl (sq (rT [0,1,4] (s2 (sq (rT [0,1,4,6] (s1 (xp (qe id) (ai rfl ?_))))))))
 refine s2 (sq (sq (rT [1,4,6,14] (s1 (xp (dS _) (ai rfl ?_))))))
 refine s1 (cd rfl (fun c14=> ?_) fun c14=> ?_)
 · refine sq (rT [4,5] (s3 (rt ?_)))
   have hr:eU id l=(.zero,false):=if_neg (by simpa using c14)
   have hz:dU id= .zero:=if_neg (by simpa using c14)
   rw[hr,hz]
   exact rq [] [] rfl qz
 have hnode:eR id=true:=by simpa using c14
 refine sk (sq (sq (rT [1,4,6,7] (s1 (bk (SW.loopW (n:=l.length) (fun m s=> ∃(i:Nat) (q:bC),m=l.length - i∧i≤l.length∧K6 q∧gX (dU id) l=gX q (l.drop i)∧s=[tD 1 (.sl (bB l)),tP 4 4,tP 6 6,tI 7 (i:Nat),oB 4 32 [.d (.i 0),.d (.i 0),.d (.i 0),.nil,.nil,.nil],oB 6 32 [.d (.i (q).id),.d (.i (q).time),.d (.i (q).next),.d (.sl (aE (q).held)),.d (.sl (aP (q).marks)),.d (.sl (aE (q).inbox))]]) ?_ ?_))))))
 · refine wq (σ':=[tD 1 (.sl (bB l)),tP 4 4,tP 6 6,tI 7 (0:Nat),oB 4 32 [.d (.i 0),.d (.i 0),.d (.i 0),.nil,.nil,.nil],oB 6 32 [.d (.i (dU id).id),.d (.i (dU id).time),.d (.i (dU id).next),.d (.sl (aE (dU id).held)),.d (.sl (aP (dU id).marks)),.d (.sl (aE (dU id).inbox))]]) [] [] (⟨0,dU id,rfl,aXd _,lm id,rfl,rfl⟩) ?_
   repeat' apply ai
   all_goals first|exact qx|rfl|(rw[aL];done)|exact qz
 rintro n s ⟨i,q,rfl,hi,hq,hgo,rfl⟩
 refine sq (sq (rT [1,4,6,7,19] (s4 (cd rfl (fun c19=> ?_) fun c19=> ?_))))
 · have hi2:i<l.length:=by simpa[aL] using c19
   have hg:=fV (l:=l) hi2
   have hmem:l.getD i []∈l:=dB hi2
   have es:toS (((bB l).getD (i:Int).toNat []).getD 0 (.i 0))=l.getD i []:=by rw[aW6,hg];rfl
   refine sk (sq (bk (sq (rD [1,4,6,7,8,9] (s3 (ai (by rw[aW6,hg];exact⟨⟨by omega,by rw[aL];omega⟩,rfl⟩) (ai (by rw[aW6,hg];exact⟨aW8 rfl,rfl⟩) (xp (aPs q (l.getD i []) hq.seven.big (hx _ hmem)) (ai (by exact aW1 es) ?_)))))))))
   refine s6 (ai (by kernel_rfl) (sq (sq (rT [1,4,6,7,8,32] (s2 (cd rfl (fun c32=> ?_) fun c32=> ?_))))))
   · have hno: (cL q (l.getD i [])).2=false:=by simpa using c32
     rw[List.drop_eq_getElem_cons hi2,gX,show l[i]=l.getD i [] by rw[aXe,aXg hi2];rfl,hno] at hgo
     refine sq (rT [4,5] (s3 (rt ?_)))
     have hr:eU id l=(.zero,false):=(if_pos hnode).trans (hgo.trans (if_neg (by simp)))
     rw[hr]
     exact rq [] [] rfl qz
   have hno: (cL q (l.getD i [])).2=true:=by simpa using c32
   rw[List.drop_eq_getElem_cons hi2,gX,show l[i]=l.getD i [] by rw[aXe,aXg hi2];rfl,if_pos hno] at hgo
   refine sk (rT [1,4,6,7] (s2 (rT [1,4,6,7] (s3 (wq [] [] (⟨l.length - (i+1),by omega,i+1,(cL q (l.getD i [])).1,rfl,by omega,aCd,hgo,rfl⟩) ?_)))))
   repeat' apply ai
   all_goals first|exact qx|exact congrArg D.i (aB (by omega))|exact qz
 have hi3:i=l.length:=by simp[aL] at c19;omega
 subst hi3
 refine xt (sq (rT [4,5] (s3 (rt ?_))))
 have hr:eU id l=(q,true):=(if_pos hnode).trans (hgo.trans (by rw[List.drop_length];rfl))
 rw[hr]
 exact rq [] [] rfl qz
theorem nO (s:List UInt8) (hl:s.length≤1000000):Sp 20 1 [tD 0 (.s s)] [tV 0 (.tup [.c (.d (.sl (bB (bM s).1))),.c (.d (.i ((bM s).2:Nat)))])]:=by
 refine Spec.told (rl:=[]) (bor:=[0]) (qb s hl) ?_ rfl rfl
 refine qs ?_
 repeat' first|exact qx|apply ai
 all_goals first|rfl|exact aL _
theorem gF (s:List UInt8) (hl:s.length≤1000000):Sp 69 1 [tD 0 (.s s)] [tV 0 (.tup [.c (.d (.sl (bB (bM s).1))),.c (.d (.i ((bM s).2:Nat)))])]:=by
 refine Spec.told (rl:=[]) (bor:=[0]) (qa s hl) ?_ rfl rfl
 refine qs ?_
 repeat' first|exact qx|apply ai
 all_goals first|rfl|exact aL _
theorem oE (l:List UInt8) (f:Int) (hl:l.length≤140737488355328):Sp 64 1 [tV 0 (.e (.agg [.d (.s l),.d (.i f)]))] [tB 0 (dA l f)]:=by
 refine sb Tryz.func64 rfl (sq (rT [1] (s2 (sq (sq (rT [1,19] (s5 (y4 (y1 (xc (fun h=>(gL _ _ _)) (ai rfl (ai rk ?_))))))))))))
 refine y1 (ai pk (cd rfl (fun c19=> ?_) fun c19=> ?_))
 · refine sq (rT [2] (s1 (rt (bN rfl (congrArg D.b ?_)))))
   exact(xe c19).symm
 obtain⟨⟨h1,h2,h3⟩,hs⟩:=sg c19
 refine sk (sq (rT [1,4] (s2 (xp (nO l (by omega)) (ai rfl ?_)))))
 refine s5 (sq (rT [1,4,6] (s4 (ai (by exact⟨by simp,by simpa using h2,by simpa using h3⟩) (xp (nO (l.take f.toNat) (by rw[aXc];omega)) (ai rfl ?_))))))
 refine s5 (sq (rT [2] (s6 (y4 (ai pk (s1 (rt (bN rfl (congrArg D.b ?_)))))))))
 exact hs.symm
theorem oF (l:List UInt8) (f:Int) (hl:l.length≤140737488355328):Sp 68 1 [tV 0 (.e (.agg [.d (.s l),.d (.i f)]))] [tB 0 (dA l f)]:=by
 refine sb Tryz.func68 rfl (sq (rT [1] (s2 (sq (sq (rT [1,19] (s5 (y4 (y1 (xc (fun h=>(dL _ _ _)) (ai rfl (ai rk ?_))))))))))))
 refine y1 (ai pk (cd rfl (fun c19=> ?_) fun c19=> ?_))
 · refine sq (rT [2] (s1 (rt (bN rfl (congrArg D.b ?_)))))
   exact(xe c19).symm
 obtain⟨⟨h1,h2,h3⟩,hs⟩:=sg c19
 refine sk (sq (rT [1,4] (s2 (xp (gF l (by omega)) (ai rfl ?_)))))
 refine s5 (sq (rT [1,4,6] (s4 (ai (by exact⟨by simp,by simpa using h2,by simpa using h3⟩) (xp (gF (l.take f.toNat) (by rw[aXc];omega)) (ai rfl ?_))))))
 refine s5 (sq (rT [2] (s6 (y4 (ai pk (s1 (rt (bN rfl (congrArg D.b ?_)))))))))
 exact hs.symm
set_option maxHeartbeats 800000 in
theorem rI (id:Int) (s:List UInt8) (hl:s.length≤900000):Sp 60 2 [tI 0 id,tD 1 (.s s)] [tV 0 (.tup [.agg [.d (.i ((eU id (bM s).1).1).id),.d (.i ((eU id (bM s).1).1).time),.d (.i ((eU id (bM s).1).1).next),.d (.sl (aE ((eU id (bM s).1).1).held)),.d (.sl (aP ((eU id (bM s).1).1).marks)),.d (.sl (aE ((eU id (bM s).1).1).inbox))],.c (.d (.b (eU id (bM s).1).2))])]:=by
 refine sb Tryz.func60 rfl (sq (rT [0,1,4] (s2 (sq (rT [0,4,6] (s1 (xp (nO s (by omega)) (ai rfl ?_))))))))
 refine s5 (sq (rT [4,5] (s2 (xp (aAx id (bM s).1 (nY s hl).1 (nY s hl).2) (ai rfl ?_)))))
 exact s4 (rt (bG rfl rfl rfl))
set_option maxHeartbeats 800000 in
theorem gS (k:aH) (hl:k.log.length≤900000):Sp 59 1 [tV 0 k.V] [tV 0 (.tup [.agg [.d (.i ((aZ k).1).id),.d (.i ((aZ k).1).time),.d (.i ((aZ k).1).next),.d (.sl (aE ((aZ k).1).held)),.d (.sl (aP ((aZ k).1).marks)),.d (.sl (aE ((aZ k).1).inbox))],.c (.d (.b (aZ k).2))])]:=by
 refine sb Tryz.func59 rfl (sq (rT [1,2] (s3 (sq (rT [1,2,4] (s3 (xp (gF k.log (by omega)) (ai rfl ?_))))))))
 refine s5 (sq (rT [2,3] (s3 (xp (xP k.id (bM k.log).1 (nY k.log hl).1 (nY k.log hl).2) (ai rfl ?_)))))
 exact s4 (rt (bG rfl rfl rfl))
theorem wP (b n:Int):Sp 162 2 [tI 0 b,tI 1 n] [tB 0 (tQ b n)]:=by
 refine sb Tryz.func162 rfl (sq (rT [0,1] (s1 (sq (rT [4] (s1 (xp (dL _ _ _) (ai rfl ?_))))))))
 refine s1 (y1 (xc (fun h=>(dL _ _ _)) (ai rfl (ai rk ?_))))
 refine ai pk (s1 (rt (bN rfl ?_)))
 rfl
theorem pK (n:Int) (hn:0≤n∧n≤140737488355328):Sp 118 1 [tI 0 n] [tI 0 ((n+3) / 4)]:=by
 refine sb Tryz.func118 rfl (sq (rT [0] (s1 (sq (rT [2] (s3 (ai (by decide) (s1 (rt (bN rfl (congrArg D.i ?_)))))))))))
 rw[aB (n:=n+4) (by omega),aB (n:=n+4 - 1) (by omega),Int.tdiv_eq_ediv_of_nonneg (by omega),aB (by omega)]
 omega
theorem du (b:Int) (m:iB):Sp 117 2 [tI 0 b,tV 1 m.V] [tB 0 (tQ b m.num&&decide ((m.data.length:Int)=4))]:=by
 refine sb Tryz.func117 rfl (sq (rT [0,3] (s2 (sq (rT [4] (s3 (xp (wP _ _) (ai rfl ?_))))))))
 refine s1 (y4 (ai pk (s1 (rt (bN rfl (congrArg D.b ?_))))))
 show(_&&_)=_
 congr 1
set_option maxHeartbeats 1600000 in
theorem aA1 (h:dR):Sp 65 1 [tV 0 h.V] [tB 0 (mJ h)]:=by
 refine sb Tryz.func65 rfl (sq (rT [1] (s2 (sq (sq (rT [1,40] (s2 (xp (jK _) (ai rfl ?_)))))))))
 refine s2 (y2 (xc (fun h=>(jK _)) (ai rfl (ai rk ?_))))
 refine y1 (ai pk (s1 (y2 (xc (fun h=>(gL _ _ _)) (ai rfl (ai rk ?_))))))
 refine y1 (ai pk (s1 (y2 (xc (fun h=>(gL _ _ _)) (ai rfl (ai rk ?_))))))
 refine y1 (ai pk (s1 (y2 (xc (fun h=>(gL _ _ _)) (ai rfl (ai rk ?_))))))
 refine y1 (ai pk (s1 (y4 (ai pk (cd rfl (fun c40=> ?_) fun c40=> ?_)))))
 · have hh:=lx c40
   refine sq (rT [2] (s1 (rt (bN rfl (congrArg D.b ?_)))))
   rw[mJ,hh];rfl
 have hh:=lx c40
 obtain⟨p1,p2,p3,p4,p5,p6⟩:=lV hh
 refine sk (sq (sq (rT [1,42,43,44] (s4 (bk (SW.loopW (n:=h.got.length) (fun m q=> ∃i:Nat,m=h.got.length - i∧i≤h.got.length∧(∀k,k<i→oN h.got k=true)∧q=[tP 1 1,tD 42 (.sl (cM h.got)),tI 43 (h.got.length:Nat),tI 44 (i:Nat),oB 1 85 [.d (.i (h).frm),.d (.i (h).num),.d (.i (h).to),.d (.i (h).til),.d (.i (h).size),.d (.sl (cM (h).got))]]) ?_ ?_))))))
 · refine wq (σ':=[tP 1 1,tD 42 (.sl (cM h.got)),tI 43 (h.got.length:Nat),tI 44 (0:Nat),oB 1 85 [.d (.i (h).frm),.d (.i (h).num),.d (.i (h).to),.d (.i (h).til),.d (.i (h).size),.d (.sl (cM (h).got))]]) [] [] (⟨0,rfl,aXd _,fun k h=>absurd h (by omega),rfl⟩) ?_
   repeat' apply ai
   all_goals first|exact qx|rfl|(rw[bI];done)|exact qz
 rintro n s ⟨i,rfl,hi,hk,rfl⟩
 refine sq (rT [1,42,43,44,45] (s1 (sq (cd rfl (fun c45=> ?_) fun c45=> ?_))))
 · have hi2:i<h.got.length:=by simpa using c45
   have hg:=mI (l:=h.got) hi2
   refine sk (sq (bk (sq (rT [1,3,4,42,43,44] (s1 (ai (by rw[aW6,hg];exact⟨⟨by omega,by rw[bI];omega⟩,rfl⟩) (ai (by rw[aW6,hg];exact⟨aW8 rfl,rfl⟩) (s3 (sq (sq (wa [tP 1 1,tI 3 (i:Nat),tP 4 4,tD 42 (.sl (cM h.got)),tI 43 (h.got.length:Nat),tI 44 (i:Nat),oB 1 85 [.d (.i (h).frm),.d (.i (h).num),.d (.i (h).to),.d (.i (h).til),.d (.i (h).size),.d (.sl (cM (h).got))],oB 4 68 [.d (.i (h.got.getD i .zero).num),.d (.s (h.got.getD i .zero).data)]] [] [] ?_ ?_)))))))))))
   · repeat' apply ai
     all_goals first|exact qx|(rw[aW6,hg];rfl)|exact qz
   refine rT [1,3,4,42,43,44,58] (s2 (xp (gL _ _ _) (ai rfl ?_)))
   refine s2 (y4 (ai pk (cd rfl (fun c58=> ?_) fun c58=> ?_)))
   · have hm:wG (h.got.getD i .zero)=false:=by
      unfold wG
      rw[← Bool.not_eq_true',Bool.not_and]
      exact mixC c58
     have hs:=se hm
     refine sq (rT [2] (s1 (rt (bN rfl (congrArg D.b ?_)))))
     rw[mJ,hh,Bool.not_false,Bool.true_and,fS hi2 hs]
   have hm:wG (h.got.getD i .zero)=true:=aW2 c58
   refine sk (sq (rT [1,4,42,43,44,62,63,64] (s3 (ai (by exact⟨by rw[bI];exact⟨by first|(simp;done)|(simp;omega),by first|(simp;done)|(simp;omega),by first|(simp;done)|(simp;omega)⟩,qU _⟩) (s2 (bk (SW.loopW (n:=i) (fun m q=> ∃j:Nat,m=i - j∧j≤i∧(∀k,k<j→((h.got.getD k .zero).num==(h.got.getD i .zero).num)=false)∧q=[tP 1 1,tP 4 4,tD 42 (.sl (cM h.got)),tI 43 (h.got.length:Nat),tI 44 (i:Nat),tD 62 (.sl ((cM h.got).take i)),tI 63 (i:Nat),tI 64 (j:Nat),oB 1 85 [.d (.i (h).frm),.d (.i (h).num),.d (.i (h).to),.d (.i (h).til),.d (.i (h).size),.d (.sl (cM (h).got))],oB 4 68 [.d (.i (h.got.getD i .zero).num),.d (.s (h.got.getD i .zero).data)]]) ?_ ?_)))))))
   · refine wq (σ':=[tP 1 1,tP 4 4,tD 42 (.sl (cM h.got)),tI 43 (h.got.length:Nat),tI 44 (i:Nat),tD 62 (.sl ((cM h.got).take i)),tI 63 (i:Nat),tI 64 (0:Nat),oB 1 85 [.d (.i (h).frm),.d (.i (h).num),.d (.i (h).to),.d (.i (h).til),.d (.i (h).size),.d (.sl (cM (h).got))],oB 4 68 [.d (.i (h.got.getD i .zero).num),.d (.s (h.got.getD i .zero).data)]]) [] [] (⟨0,rfl,aXd _,fun k h=>absurd h (by omega),rfl⟩) ?_
     repeat' apply ai
     all_goals first|exact qx|rfl|(rw[zP];done)|(rw[zP,aXc,bI];refine congrArg D.i ?_;omega)|exact qz
   rintro n s ⟨j,rfl,hj,hkj,rfl⟩
   refine sq (rT [1,4,42,43,44,62,63,64,65] (s1 (sq (cd rfl (fun c65=> ?_) fun c65=> ?_))))
   · have hj2:j<i:=by simpa using c65
     have hg2: ((cM h.got).take i).getD j []=(h.got.getD j .zero).row:=by rw[yD hj2,mI (by omega)]
     refine sk (sq (bk (sq (rT [1,4,6,42,43,44,62,63,64] (ai (by rw[aW6,hg2];exact⟨⟨by omega,by rw[aXc,bI];omega⟩,rfl⟩) (ai (by rw[aW6,hg2];exact⟨aW8 rfl,rfl⟩) (s2 (sq (rT [1,4,42,43,44,62,63,64,72] (s5 (cd rfl (fun c72=> ?_) fun c72=> ?_)))))))))))
     · have hq: ((h.got.getD j .zero).num==(h.got.getD i .zero).num)=true:=by
        have h9:=c72
        rw[aW6,hg2] at h9
        exact h9
       have hs:=xd hj2 hq
       refine sq (rT [2] (s1 (rt (bN rfl (congrArg D.b ?_)))))
       rw[mJ,hh,Bool.not_false,Bool.true_and,fS hi2 hs]
     refine sk (rT [1,4,42,43,44,62,63,64] (s2 ?_))
     have hq: ((h.got.getD j .zero).num==(h.got.getD i .zero).num)=false:=by
      have h9:=c72
      rw[aW6,hg2] at h9
      exact h9
     refine wq [] [] (⟨i - (j+1),by omega,j+1,rfl,by omega,fun k h=>by by_cases e:k=j;exact e▸hq;exact hkj k (by omega),rfl⟩) ?_
     repeat' apply ai
     all_goals first|exact qx|exact congrArg D.i (aB (by omega))|exact qz
   have hj3:j=i:=by simp at c65;omega
   subst hj3
   have hs:=sd hm hkj
   refine xt (rT [1,42,43,44] (s2 (wq [] [] (⟨h.got.length - (j+1),by omega,j+1,rfl,by omega,fun k h=>by by_cases e:k=j;exact e▸hs;exact hk k (by omega),rfl⟩) ?_)))
   repeat' apply ai
   all_goals first|exact qx|exact congrArg D.i (aB (by omega))|exact qz
 have hi3:i=h.got.length:=by simp at c45;omega
 refine xt (sq (rT [2] (s1 (rt (bN rfl (congrArg D.b ?_))))))
 rw[mJ,hh,Bool.not_false,Bool.true_and]
 subst hi3
 exact(iP hk).symm
set_option maxHeartbeats 1600000 in
theorem qf (h:dR):Sp 71 1 [tV 0 h.V] [tB 0 (mJ h)]:=by
 refine sb Tryz.func71 rfl (sq (rT [1] (s2 (sq (sq (rT [1,38] (s2 (xp (dS _) (ai rfl ?_)))))))))
 refine s2 (y2 (xc (fun h=>(dS _)) (ai rfl (ai rk ?_))))
 refine y1 (ai pk (s1 (y2 (xc (fun h=>(dL _ _ _)) (ai rfl (ai rk ?_))))))
 refine y1 (ai pk (s1 (y2 (xc (fun h=>(dL _ _ _)) (ai rfl (ai rk ?_))))))
 refine y1 (ai pk (s1 (y2 (xc (fun h=>(dL _ _ _)) (ai rfl (ai rk ?_))))))
 refine y1 (ai pk (s1 (y4 (ai pk (cd rfl (fun c38=> ?_) fun c38=> ?_)))))
 · have hh:=lx c38
   refine sq (rT [2] (s1 (rt (bN rfl (congrArg D.b ?_)))))
   rw[mJ,hh];rfl
 have hh:=lx c38
 obtain⟨p1,p2,p3,p4,p5,p6⟩:=lV hh
 have hb1:iK ((h.size+3) / 4) 1 6=true:=by simp only[iK,aXb,decide_eq_true_eq];omega
 refine sk (sq (sq (rT [1,3] (s1 (bk (SW.loopW (n:=h.got.length) (fun m q=> ∃i:Nat,m=h.got.length - i∧i≤h.got.length∧(∀k,k<i→oN h.got k=true)∧q=[tP 1 1,tI 3 (i:Nat),oB 1 85 [.d (.i (h).frm),.d (.i (h).num),.d (.i (h).to),.d (.i (h).til),.d (.i (h).size),.d (.sl (cM (h).got))]]) ?_ ?_))))))
 · exact wq (σ':=[tP 1 1,tI 3 (0:Nat),oB 1 85 [.d (.i (h).frm),.d (.i (h).num),.d (.i (h).to),.d (.i (h).til),.d (.i (h).size),.d (.sl (cM (h).got))]]) [] [] (⟨0,rfl,aXd _,fun k h=>absurd h (by omega),rfl⟩) qz
 rintro n s ⟨i,rfl,hi,hk,rfl⟩
 refine sq (sq (rT [1,3,43] (s5 (cd rfl (fun c43=> ?_) fun c43=> ?_))))
 · have hi2:i<h.got.length:=by simpa[bI] using c43
   have hg:=mI (l:=h.got) hi2
   refine sk (sq (bk (sq (sq (rD [1,3,55] (s2 (xp (pK h.size (by omega)) (ai rfl ?_))))))))
   refine s3 (ai (by rw[aW6,hg];exact⟨⟨by omega,by rw[bI];omega⟩,rfl⟩) (ai (by rw[aW6,hg];exact⟨aW8 rfl,rfl⟩) (xp (du ((h.size+3) / 4) (h.got.getD i .zero)) (ai (by rw[aW6,hg];rfl) ?_))))
   refine s1 (ai (by kernel_rfl) (cd rfl (fun c55=> ?_) fun c55=> ?_))
   · have hm:wG (h.got.getD i .zero)=false:=by
      have h9:=c55
      rw[tQ,hb1,Bool.true_and] at h9
      simpa only[wG,Bool.not_eq_true'] using h9
     have hs:=se hm
     refine sq (rT [2] (s1 (rt (bN rfl (congrArg D.b ?_)))))
     rw[mJ,hh,Bool.not_false,Bool.true_and,fS hi2 hs]
   have hm:wG (h.got.getD i .zero)=true:=by
    have h9:=c55
    rw[tQ,hb1,Bool.true_and] at h9
    simpa only[wG,Bool.not_eq_false'] using h9
   refine sk (sq (rT [1,3,4] (s1 (bk (SW.loopW (n:=i) (fun m q=> ∃j:Nat,m=i - j∧j≤i∧(∀k,k<j→((h.got.getD k .zero).num==(h.got.getD i .zero).num)=false)∧q=[tP 1 1,tI 3 (i:Nat),tI 4 (j:Nat),oB 1 85 [.d (.i (h).frm),.d (.i (h).num),.d (.i (h).to),.d (.i (h).til),.d (.i (h).size),.d (.sl (cM (h).got))]]) ?_ ?_)))))
   · exact wq (σ':=[tP 1 1,tI 3 (i:Nat),tI 4 (0:Nat),oB 1 85 [.d (.i (h).frm),.d (.i (h).num),.d (.i (h).to),.d (.i (h).til),.d (.i (h).size),.d (.sl (cM (h).got))]]) [] [] (⟨0,rfl,aXd _,fun k h=>absurd h (by omega),rfl⟩) qz
   rintro n s ⟨j,rfl,hj,hkj,rfl⟩
   refine sq (sq (rT [1,3,4,58] (s3 (cd rfl (fun c58=> ?_) fun c58=> ?_))))
   · have hj2:j<i:=by simpa using c58
     have hg2:=mI (l:=h.got) (i:=j) (by omega)
     refine sk (sq (bk (sq (rD [1,3,4,73] (s3 (ai (by rw[aW6,hg2];exact⟨⟨by omega,by rw[bI];omega⟩,rfl⟩) (s1 (ai (by rw[aW6,hg2];exact⟨aW8 rfl,rfl⟩) (s3 (ai (by rw[aW6,hg];exact⟨⟨by omega,by rw[bI];omega⟩,rfl⟩) (s1 (ai (by rw[aW6,hg];exact⟨aW8 rfl,rfl⟩) (s1 (ai (by kernel_rfl) (cd rfl (fun c73=> ?_) fun c73=> ?_)))))))))))))))
     · have hq: ((h.got.getD j .zero).num==(h.got.getD i .zero).num)=true:=by
        have h9:=c73
        rw[aW6,aW6,hg2,hg] at h9
        exact h9
       have hs:=xd hj2 hq
       refine sq (rT [2] (s1 (rt (bN rfl (congrArg D.b ?_)))))
       rw[mJ,hh,Bool.not_false,Bool.true_and,fS hi2 hs]
     refine sk (rT [1,3,4] (s3 ?_))
     have hq: ((h.got.getD j .zero).num==(h.got.getD i .zero).num)=false:=by
      have h9:=c73
      rw[aW6,aW6,hg2,hg] at h9
      exact h9
     refine wq [] [] (⟨i - (j+1),by omega,j+1,rfl,by omega,fun k h=>by by_cases e:k=j;exact e▸hq;exact hkj k (by omega),rfl⟩) ?_
     repeat' apply ai
     all_goals first|exact qx|exact congrArg D.i (aB (by omega))|exact qz
   have hj3:j=i:=by simp at c58;omega
   subst hj3
   have hs:=sd hm hkj
   refine xt (rT [1,3] (s3 (wq [] [] (⟨h.got.length - (j+1),by omega,j+1,rfl,by omega,fun k h=>by by_cases e:k=j;exact e▸hs;exact hk k (by omega),rfl⟩) ?_)))
   repeat' apply ai
   all_goals first|exact qx|exact congrArg D.i (aB (by omega))|exact qz
 have hi3:i=h.got.length:=by simp[bI] at c43;omega
 refine xt (sq (rT [2] (s1 (rt (bN rfl (congrArg D.b ?_))))))
 rw[mJ,hh,Bool.not_false,Bool.true_and]
 subst hi3
 exact(iP hk).symm
theorem aA2 (l:List dR) (f m:Int) (hl:l.length≤1000000):Sp 66 3 [tD 0 (.sl (aY l)),tI 1 f,tI 2 m] [tI 0 (gZ l f m)]:=by
 refine sb Tryz.func66 rfl (sq (rT [0,1,2] (s1 (sq (sq (rT [1,2,9,10,11] (s3 (bk (SW.loopW (n:=l.length) (fun n q=> ∃i:Nat,n=l.length - i∧i≤l.length∧(∀k,k<i→iM l f m k=false)∧q=[tI 1 f,tI 2 m,tD 9 (.sl (aY l)),tI 10 (l.length:Nat),tI 11 (i:Nat)]) ?_ ?_)))))))))
 · refine wq (σ':=[tI 1 f,tI 2 m,tD 9 (.sl (aY l)),tI 10 (l.length:Nat),tI 11 (0:Nat)]) [] [] (⟨0,rfl,aXd _,fun k h=>absurd h (by omega),rfl⟩) ?_
   repeat' apply ai
   all_goals first|exact qx|(rw[aF];done)|rfl|exact qz
 rintro n s ⟨i,rfl,hi,hk,rfl⟩
 refine sq (rT [1,2,9,10,11,12] (s1 (sq (cd rfl (fun c12=> ?_) fun c12=> ?_))))
 · have hi2:i<l.length:=by simpa using c12
   have hg:=gE (l:=l) hi2
   refine sk (sq (bk (sq (rT [1,2,7,8,9,10,11] (s1 (ai (by rw[aW6,hg];exact⟨⟨by omega,by rw[aF];omega⟩,rfl⟩) (ai (by rw[aW6,hg];exact⟨aW8 rfl,rfl⟩) (s3 (sq (rT [1,2,7,9,10,11,25] (s5 (y4 (ai pk (cd rfl (fun c25=> ?_) fun c25=> ?_))))))))))))))
   · refine sq (rT [6] (s2 (rt (bN rfl (congrArg D.i ?_)))))
     have hs:iM l f m i=true:=by
      have h9:=c25
      rw[aW6,hg] at h9
      exact h9
     exact(mB (aXd _) (by omega) (fun j _ h=>hk j h) hs).symm
   refine sk (rT [1,2,9,10,11] (s2 ?_))
   have hs:iM l f m i=false:=by
    have h9:=c25
    rw[aW6,hg] at h9
    exact h9
   refine wq [] [] (⟨l.length - (i+1),by omega,i+1,rfl,by omega,fun k h=>by by_cases e:k=i;exact e▸hs;exact hk k (by omega),rfl⟩) ?_
   repeat' apply ai
   all_goals first|exact qx|exact congrArg D.i (aB (by omega))|exact qz
 have hi3:i=l.length:=by simp at c12;omega
 refine xt (sq (rT [6] (s1 (rt (bN rfl (congrArg D.i ?_))))))
 exact(mG (fun j _ h=>hk j (by omega))).symm
set_option maxHeartbeats 3200000 in
theorem lA (k:aH) (hl:k.log.length≤140737488355328):Sp 18 1 [tV 0 k.V] [tB 0 (aR k)]:=by
 refine sb Tryz.func18 rfl (sq (rT [1] (s2 (sq (sq (rT [1,35] (s2 (xp (jK _) (ai rfl ?_)))))))))
 refine s2 (y2 (xc (fun h=>(oE k.log k.forced hl)) (ai rfl (ai rk ?_))))
 refine y1 (ai pk (s1 (y4 (ai pk (s1 (y4 (y4 (ai (fun h=>pk) (ai rk (ai pk (cd rfl (fun c35=> ?_) fun c35=> ?_)))))))))))
 · have hh:=zV c35
   refine sq (rT [2] (s1 (rt (bN rfl (congrArg D.b ?_)))))
   exact(xF hh).symm
 have hh:=zV c35
 obtain⟨p1,p2,p3,p4⟩:=eJ hh
 obtain⟨q1,q2,q3,q4⟩:=iC p2
 refine sk (sq (rT [1,4] (s5 (xp (rI k.id k.log (by omega)) (ai rfl ?_)))))
 refine s6 (sq (rD [1,4,6] (s8 (ai (by exact⟨by simp,by simpa using q2.1,by simpa using q2.2⟩) (xp (rI k.id (k.log.take k.forced.toNat) (by rw[aXc];omega)) (ai rfl ?_))))))
 refine s6 (ai (by kernel_rfl) (sq (sq (rT [1,63] (s3 (y2 (ai pk (cd rfl (fun c63=> ?_) fun c63=> ?_))))))))
 · have hn:=sf (k:=k) c63 (.inl ⟨rfl,rfl⟩)
   refine sq (rT [2] (s1 (rt (bN rfl (congrArg D.b ?_)))))
   exact hn.symm
 have hy:=lw (k:=k) hh c63 (.inl ⟨rfl,rfl⟩)
 refine sk (sq (sq (rT [1,65,66,67] (s4 (bk (SW.loopW (n:=k.halves.length) (fun m q=> ∃i:Nat,m=k.halves.length - i∧i≤k.halves.length∧(∀j,j<i→iI k.halves j=true)∧q=[tP 1 1,tD 65 (.sl (aY k.halves)),tI 66 (k.halves.length:Nat),tI 67 (i:Nat),oB 1 27 [.d (.i (k).id),.d (.b (k).up),.d (.s (k).log),.d (.i (k).forced),.d (.sl (aY (k).halves))]]) ?_ ?_))))))
 · refine wq (σ':=[tP 1 1,tD 65 (.sl (aY k.halves)),tI 66 (k.halves.length:Nat),tI 67 (0:Nat),oB 1 27 [.d (.i (k).id),.d (.b (k).up),.d (.s (k).log),.d (.i (k).forced),.d (.sl (aY (k).halves))]]) [] [] (⟨0,rfl,aXd _,fun j h=>absurd h (by omega),rfl⟩) ?_
   repeat' apply ai
   all_goals first|exact qx|rfl|(rw[aF];done)|exact qz
 rintro n s ⟨i,rfl,hi,hk,rfl⟩
 refine sq (rT [1,65,66,67,68] (s1 (sq (cd rfl (fun c68=> ?_) fun c68=> ?_))))
 · have hi2:i<k.halves.length:=by simpa using c68
   have hg:=gE (l:=k.halves) hi2
   refine sk (sq (bk (sq (rT [1,7,8,65,66,67] (s1 (ai (by rw[aW6,hg];exact⟨⟨by omega,by rw[aF];omega⟩,rfl⟩) (ai (by rw[aW6,hg];exact⟨aW8 rfl,rfl⟩) (s3 (sq (wa [tP 1 1,tI 7 (i:Nat),tP 8 8,tD 65 (.sl (aY k.halves)),tI 66 (k.halves.length:Nat),tI 67 (i:Nat),oB 1 27 [.d (.i (k).id),.d (.b (k).up),.d (.s (k).log),.d (.i (k).forced),.d (.sl (aY (k).halves))],oB 8 85 [.d (.i (k.halves.getD i .zero).frm),.d (.i (k.halves.getD i .zero).num),.d (.i (k.halves.getD i .zero).to),.d (.i (k.halves.getD i .zero).til),.d (.i (k.halves.getD i .zero).size),.d (.sl (cM (k.halves.getD i .zero).got))]] [] [] ?_ ?_))))))))))
   · repeat' apply ai
     all_goals first|exact qx|(rw[aW6,hg];rfl)|exact qz
   refine rT [1,65,66,67,85] (s1 (xp (aA1 (k.halves.getD i .zero)) (ai rfl ?_)))
   refine s2 (y4 (y2 (xc (fun h=>(aA2 k.halves _ _ (by omega))) (ai rfl (ai rk ?_)))))
   refine y2 (ai pk (cd rfl (fun c85=> ?_) fun c85=> ?_))
   · refine sq (rT [2] (s1 (rt (bN rfl (congrArg D.b ?_)))))
     have hs:iI k.halves i=false:=lv hi2 c85
     rw[hy,fS hi2 hs]
   refine sk (rT [1,65,66,67] (s2 ?_))
   have hs:iI k.halves i=true:=lv hi2 c85
   refine wq [] [] (⟨k.halves.length - (i+1),by omega,i+1,rfl,by omega,fun j h=>by by_cases e:j=i;exact e▸hs;exact hk j (by omega),rfl⟩) ?_
   repeat' apply ai
   all_goals first|exact qx|exact congrArg D.i (aB (by omega))|exact qz
 have hi3:i=k.halves.length:=by simp at c68;omega
 refine xt (sq (rT [2] (s1 (rt (bN rfl (congrArg D.b ?_))))))
 subst hi3
 rw[hy,iP hk]
set_option maxHeartbeats 3200000 in
theorem gT (k:aH) (hl:k.log.length≤140737488355328):Sp 19 1 [tV 0 k.V] [tB 0 (aR k)]:=by
 refine sb Tryz.func19 rfl (sq (rT [1] (s2 (sq (sq (rT [1,37] (s2 (xp (dS _) (ai rfl ?_)))))))))
 refine s2 (y2 (xc (fun h=>(oF k.log k.forced hl)) (ai rfl (ai rk ?_))))
 refine y1 (ai pk (s1 (y4 (ai pk (s1 (y4 (y4 (ai (fun h=>pk) (ai rk (ai pk (cd rfl (fun c37=> ?_) fun c37=> ?_)))))))))))
 · have hh:=zV c37
   refine sq (rT [2] (s1 (rt (bN rfl (congrArg D.b ?_)))))
   exact(xF hh).symm
 have hh:=zV c37
 obtain⟨p1,p2,p3,p4⟩:=eJ hh
 obtain⟨q1,q2,q3,q4⟩:=iC p2
 refine sk (sq (rT [1,3] (s6 (ai (by exact⟨by simp,by simpa using q2.1,by simpa using q2.2⟩) (xp (gF (k.log.take k.forced.toNat) (by rw[aXc];omega)) (ai rfl ?_))))))
 refine s5 (sq (rT [1,6] (s3 (xp (xP k.id (bM (k.log.take k.forced.toNat)).1 (nY _ (by rw[aXc];omega)).1 (nY _ (by rw[aXc];omega)).2) (ai rfl ?_)))))
 refine s6 (sq (rT [1,6,8] (s1 (xp (gS k (by omega)) (ai rfl ?_)))))
 refine s6 (sq (sq (rT [1,66] (s3 (y2 (ai pk (cd rfl (fun c66=> ?_) fun c66=> ?_)))))))
 · have hn:=sf (k:=k) c66 (.inl ⟨rfl,rfl⟩)
   refine sq (rT [2] (s1 (rt (bN rfl (congrArg D.b ?_)))))
   exact hn.symm
 have hy:=lw (k:=k) hh c66 (.inl ⟨rfl,rfl⟩)
 refine sk (sq (sq (rT [1,9] (s1 (bk (SW.loopW (n:=k.halves.length) (fun m q=> ∃i:Nat,m=k.halves.length - i∧i≤k.halves.length∧(∀j,j<i→iI k.halves j=true)∧q=[tP 1 1,tI 9 (i:Nat),oB 1 27 [.d (.i (k).id),.d (.b (k).up),.d (.s (k).log),.d (.i (k).forced),.d (.sl (aY (k).halves))]]) ?_ ?_))))))
 · exact wq (σ':=[tP 1 1,tI 9 (0:Nat),oB 1 27 [.d (.i (k).id),.d (.b (k).up),.d (.s (k).log),.d (.i (k).forced),.d (.sl (aY (k).halves))]]) [] [] (⟨0,rfl,aXd _,fun j h=>absurd h (by omega),rfl⟩) qz
 rintro n s ⟨i,rfl,hi,hk,rfl⟩
 refine sq (sq (rT [1,9,71] (s5 (cd rfl (fun c71=> ?_) fun c71=> ?_))))
 · have hi2:i<k.halves.length:=by simpa[aF] using c71
   have hg:=gE (l:=k.halves) hi2
   refine sk (sq (bk (sq (sq (rT [1,9,80] (s3 (ai (by rw[aW6,hg];exact⟨⟨by omega,by rw[aF];omega⟩,rfl⟩) (ai (by rw[aW6,hg];exact⟨aW8 rfl,rfl⟩) (xp (qf (k.halves.getD i .zero)) (ai (by rw[aW6,hg];rfl) ?_))))))))))
   refine s1 (cd rfl (fun c80=> ?_) fun c80=> ?_)
   · have hs:=aDz (by simpa using c80)
     refine sq (rT [2] (s1 (rt (bN rfl (congrArg D.b ?_)))))
     rw[hy,fS hi2 hs]
   refine sk (sq (rT [1,9,10] (s1 (bk (SW.loopW (n:=i) (fun m q=> ∃j:Nat,m=i - j∧j≤i∧(∀k1,k1<j→iM k.halves (k.halves.getD i .zero).frm (k.halves.getD i .zero).num k1=false)∧q=[tP 1 1,tI 9 (i:Nat),tI 10 (j:Nat),oB 1 27 [.d (.i (k).id),.d (.b (k).up),.d (.s (k).log),.d (.i (k).forced),.d (.sl (aY (k).halves))]]) ?_ ?_)))))
   · exact wq (σ':=[tP 1 1,tI 9 (i:Nat),tI 10 (0:Nat),oB 1 27 [.d (.i (k).id),.d (.b (k).up),.d (.s (k).log),.d (.i (k).forced),.d (.sl (aY (k).halves))]]) [] [] (⟨0,rfl,aXd _,fun j h=>absurd h (by omega),rfl⟩) qz
   rintro n s ⟨j,rfl,hj,hkj,rfl⟩
   refine sq (sq (rT [1,9,10,83] (s3 (cd rfl (fun c83=> ?_) fun c83=> ?_))))
   · have hj2:j<i:=by simpa using c83
     have hg2:=gE (l:=k.halves) (i:=j) (by omega)
     refine sk (sq (bk (sq (rD [1,9,10,113] (s3 (ai (by rw[aW6,hg2];exact⟨⟨by omega,by rw[aF];omega⟩,rfl⟩) (s1 (ai (by rw[aW6,hg2];exact⟨aW8 rfl,rfl⟩) (s3 (ai (by rw[aW6,hg];exact⟨⟨by omega,by rw[aF];omega⟩,rfl⟩) (s1 (ai (by rw[aW6,hg];exact⟨aW8 rfl,rfl⟩) (s2 (y3 (ai (fun h=>(by rw[aW6,hg2];exact⟨⟨by omega,by rw[aF];omega⟩,rfl⟩)) (ai rk (y1 (ai (fun h=>(by rw[aW6,hg2];exact⟨aW8 rfl,rfl⟩)) (ai rk (y3 (ai (fun h=>(by rw[aW6,hg];exact⟨⟨by omega,by rw[aF];omega⟩,rfl⟩)) (ai rk (y1 (ai (fun h=>(by rw[aW6,hg];exact⟨aW8 rfl,rfl⟩)) (ai rk (y1 (ai pk (ai (by kernel_rfl) (cd rfl (fun c113=> ?_) fun c113=> ?_)))))))))))))))))))))))))))))
     · have hq:iM k.halves (k.halves.getD i .zero).frm (k.halves.getD i .zero).num j=true:=by
        have h9:=c113
        rw[aW6,aW6,hg2,hg] at h9
        exact h9
       have hs:=aGh hj2 hq
       refine sq (rT [2] (s1 (rt (bN rfl (congrArg D.b ?_)))))
       rw[hy,fS hi2 hs]
     refine sk (rT [1,9,10] (s3 ?_))
     have hq:iM k.halves (k.halves.getD i .zero).frm (k.halves.getD i .zero).num j=false:=by
      have h9:=c113
      rw[aW6,aW6,hg2,hg] at h9
      exact h9
     refine wq [] [] (⟨i - (j+1),by omega,j+1,rfl,by omega,fun m h=>by by_cases e:m=j;exact e▸hq;exact hkj m (by omega),rfl⟩) ?_
     repeat' apply ai
     all_goals first|exact qx|exact congrArg D.i (aB (by omega))|exact qz
   have hj3:j=i:=by simp at c83;omega
   subst hj3
   have hs:=aDy (by simpa using c80) hkj
   refine xt (rT [1,9] (s3 (wq [] [] (⟨k.halves.length - (j+1),by omega,j+1,rfl,by omega,fun m h=>by by_cases e:m=j;exact e▸hs;exact hk m (by omega),rfl⟩) ?_)))
   repeat' apply ai
   all_goals first|exact qx|exact congrArg D.i (aB (by omega))|exact qz
 have hi3:i=k.halves.length:=by simp[aF] at c71;omega
 refine xt (sq (rT [2] (s1 (rt (bN rfl (congrArg D.b ?_))))))
 subst hi3
 rw[hy,iP hk]
theorem nc (l:List UInt8) (f:Int) (hl:l.length≤140737488355328):Sp 125 1 [tV 0 (.e (.agg [.d (.s l),.d (.i f)]))] [tV 0 (.e (.agg [.d (.s (eT l f).1),.d (.i (eT l f).2)]))]:=by
 refine sb Tryz.func125 rfl (sq (rT [1,2] (s2 (sq (sq (rT [1,2,5] (s1 (xp (oE l f hl) (ai rfl ?_)))))))))
 refine s1 (cd rfl (fun c5=> ?_) fun c5=> ?_)
 · refine sq (rT [2] (s2 (rt ?_)))
   have hr:eT l f=([],0):=if_neg (by simpa using c5)
   refine bG rfl rfl ?_
   rw[hr]<;>rfl
 refine sk (sq (rT [2] (s7 (rt ?_))))
 have hr:eT l f=(l,(l.length:Int)):=if_pos (by simpa using c5)
 refine bG rfl rfl ?_
 rw[hr]<;>rfl
theorem iT (l:List UInt8) (f:Int) (hl:l.length≤140737488355328):Sp 84 1 [tV 0 (.e (.agg [.d (.s l),.d (.i f)]))] [tV 0 (.e (.agg [.d (.s (eT l f).1),.d (.i (eT l f).2)]))]:=by
 refine sb Tryz.func84 rfl (sq (rT [1,2] (s2 (sq (sq (rT [1,2,5] (s1 (xp (oF l f hl) (ai rfl ?_)))))))))
 refine s1 (cd rfl (fun c5=> ?_) fun c5=> ?_)
 · refine sq (rT [2] (s2 (rt ?_)))
   have hr:eT l f=([],0):=if_neg (by simpa using c5)
   refine bG rfl rfl ?_
   rw[hr]<;>rfl
 refine sk (sq (rT [2] (s7 (rt ?_))))
 have hr:eT l f=(l,(l.length:Int)):=if_pos (by simpa using c5)
 refine bG rfl rfl ?_
 rw[hr]<;>rfl
set_option maxHeartbeats 800000 in
theorem qg (l:List UInt8) (f keep:Int) (hl:l.length≤140737488355328):Sp 81 2 [tV 0 (.e (.agg [.d (.s l),.d (.i f)])),tI 1 keep] [tV 0 (.e (.agg [.d (.s (fU l f keep).1),.d (.i (fU l f keep).2)]))]:=by
 refine sb Tryz.func81 rfl (sq (rT [1,2,4] (s2 (sq (sq (rT [1,2,4,10] (s1 (xp (oE l f hl) (ai rfl ?_)))))))))
 refine s1 (cd rfl (fun c10=> ?_) fun c10=> ?_)
 · refine sq (rT [4] (s2 (rt ?_)))
   have hr:fU l f keep=([],0):=if_neg (by simpa using c10)
   refine bG rfl rfl ?_
   rw[hr]<;>rfl
 have hok:dA l f=true:=by simpa using c10
 obtain⟨q1,q2,q3,q4⟩:=iC hok
 have hfa:=ly (keep:=keep) q2
 have hfl: (bM (List.take (gI l f keep).toNat l)).2≤(gI l f keep).toNat:=xf (l:=l) (f:=f) (keep:=keep)
 have hfe:wrap64 (f+(if(if wrap64 ((l.length:Int) - f)<keep then wrap64 ((l.length:Int) - f) else keep)>0 then(if wrap64 ((l.length:Int) - f)<keep then wrap64 ((l.length:Int) - f) else keep) else 0))=gI l f keep:=by
  rw[aB (n:=(l.length:Int) - f) (by omega)]
  unfold gI at hfa ⊢
  have e: (if(l.length:Int) - f<keep then(l.length:Int) - f else keep)=min keep (l.length - f):=by omega
  rw[e]
  exact aB (by split<;>omega)
 refine sk (sq (rT [4,5] (s9 (s5 (ai (by rw[hfe];exact⟨by simp,by simpa using(by omega:0≤gI l f keep),by simpa using hfa.2⟩) (s1 (sq (wa [tD 5 (.s (l.take (gI l f keep).toNat)),tP 4 4,oB 4 24 [.d (.s []),.d (.i 0)]] [] [] ?_ ?_))))))))
 · repeat' apply ai
   all_goals first|exact qx|(rw[hfe];rfl)|exact qz
 refine rT [4,5,7] (s1 (xp (nO (l.take (gI l f keep).toNat) (by rw[aXc];omega)) (ai rfl ?_)))
 refine s5 (sq (rT [4] (s2 (ai (by exact⟨by simp,by simp,by rw[aXc];simp;omega⟩) (s3 (rt ?_))))))
 have hr:fU l f keep=_:=if_pos hok
 refine bG rfl rfl ?_
 rw[hr,← aMm]
 rfl
set_option maxHeartbeats 800000 in
theorem qh (l:List UInt8) (f keep:Int) (hl:l.length≤140737488355328):Sp 80 2 [tV 0 (.e (.agg [.d (.s l),.d (.i f)])),tI 1 keep] [tV 0 (.e (.agg [.d (.s (fU l f keep).1),.d (.i (fU l f keep).2)]))]:=by
 refine sb Tryz.func80 rfl (sq (rT [1,2,4] (s2 (sq (sq (rT [1,2,4,8] (s1 (xp (oF l f hl) (ai rfl ?_)))))))))
 refine s1 (cd rfl (fun c8=> ?_) fun c8=> ?_)
 · refine sq (rT [4] (s2 (rt ?_)))
   have hr:fU l f keep=([],0):=if_neg (by simpa using c8)
   refine bG rfl rfl ?_
   rw[hr]<;>rfl
 have hok:dA l f=true:=by simpa using c8
 obtain⟨q1,q2,q3,q4⟩:=iC hok
 have hfa:=ly (keep:=keep) q2
 have hfl: (bM (List.take (gI l f keep).toNat l)).2≤l.length:=iv l f keep
 refine sk (sq (rT [1,2,4,5] (s3 (sq (sq (rT [1,2,4,5,18] (s7 (cd rfl (fun c18=> ?_) fun c18=> ?_))))))))
 · have hd:=of_decide_eq_true c18
   rw[aB (by omega)] at hd
   refine rT [1,2,4,5] (s6 (sq (sq (rT [1,2,4,5,25] (s2 (cd rfl (fun c25=> ?_) fun c25=> ?_))))))
   · have hz:=of_decide_eq_true c25
     refine rT [2,4,5] (s4 (sq (wa [tP 2 2,tP 4 4,tI 5 (gI l f keep),oB 2 24 [.d (.s l),.d (.i f)],oB 4 24 [.d (.s []),.d (.i 0)]] [] [] ?_ ?_)))
     · repeat' apply ai
       all_goals first|exact qx|exact congrArg D.i (by unfold gI;(try rw[aB (n:=(l.length:Int) - f) (by omega)] at*);split<;>first|omega|(rw[aB (by omega)];omega))|exact qz
     refine rT [2,4,5] (s3 (ai (by exact⟨by simp,by simpa using(by omega:0≤gI l f keep),by simpa using hfa.2⟩) (xp (gF (l.take (gI l f keep).toNat) (by rw[aXc];omega)) (ai rfl ?_))))
     refine s4 (sq (rT [4] (s3 (ai (by exact⟨by simp,by simp,by simpa using hfl⟩) (s3 (rt ?_))))))
     have hr:fU l f keep=_:=if_pos hok
     refine bG rfl rfl ?_
     rw[hr]
     rfl
   have hz:=of_decide_eq_false c25
   refine sk (sq (wa [tP 2 2,tP 4 4,tI 5 (gI l f keep),oB 2 24 [.d (.s l),.d (.i f)],oB 4 24 [.d (.s []),.d (.i 0)]] [] [] ?_ ?_))
   · repeat' apply ai
     all_goals first|exact qx|exact congrArg D.i (by unfold gI;(try rw[aB (n:=(l.length:Int) - f) (by omega)] at*);split<;>first|omega|(rw[aB (by omega)];omega))|exact qz
   refine rT [2,4,5] (s3 (ai (by exact⟨by simp,by simpa using(by omega:0≤gI l f keep),by simpa using hfa.2⟩) (xp (gF (l.take (gI l f keep).toNat) (by rw[aXc];omega)) (ai rfl ?_))))
   refine s4 (sq (rT [4] (s3 (ai (by exact⟨by simp,by simp,by simpa using hfl⟩) (s3 (rt ?_))))))
   have hr:fU l f keep=_:=if_pos hok
   refine bG rfl rfl ?_
   rw[hr]
   rfl
 have hd:=of_decide_eq_false c18
 rw[aB (by omega)] at hd
 refine sk (sq (sq (rT [1,2,4,5,25] (s2 (cd rfl (fun c25=> ?_) fun c25=> ?_)))))
 · have hz:=of_decide_eq_true c25
   refine rT [2,4,5] (s4 (sq (wa [tP 2 2,tP 4 4,tI 5 (gI l f keep),oB 2 24 [.d (.s l),.d (.i f)],oB 4 24 [.d (.s []),.d (.i 0)]] [] [] ?_ ?_)))
   · repeat' apply ai
     all_goals first|exact qx|exact congrArg D.i (by unfold gI;(try rw[aB (n:=(l.length:Int) - f) (by omega)] at*);split<;>first|omega|(rw[aB (by omega)];omega))|exact qz
   refine rT [2,4,5] (s3 (ai (by exact⟨by simp,by simpa using(by omega:0≤gI l f keep),by simpa using hfa.2⟩) (xp (gF (l.take (gI l f keep).toNat) (by rw[aXc];omega)) (ai rfl ?_))))
   refine s4 (sq (rT [4] (s3 (ai (by exact⟨by simp,by simp,by simpa using hfl⟩) (s3 (rt ?_))))))
   have hr:fU l f keep=_:=if_pos hok
   refine bG rfl rfl ?_
   rw[hr]
   rfl
 have hz:=of_decide_eq_false c25
 refine sk (sq (wa [tP 2 2,tP 4 4,tI 5 (gI l f keep),oB 2 24 [.d (.s l),.d (.i f)],oB 4 24 [.d (.s []),.d (.i 0)]] [] [] ?_ ?_))
 · repeat' apply ai
   all_goals first|exact qx|exact congrArg D.i (by unfold gI;(try rw[aB (n:=(l.length:Int) - f) (by omega)] at*);split<;>first|omega|(rw[aB (by omega)];omega))|exact qz
 refine rT [2,4,5] (s3 (ai (by exact⟨by simp,by simpa using(by omega:0≤gI l f keep),by simpa using hfa.2⟩) (xp (gF (l.take (gI l f keep).toNat) (by rw[aXc];omega)) (ai rfl ?_))))
 refine s4 (sq (rT [4] (s3 (ai (by exact⟨by simp,by simp,by simpa using hfl⟩) (s3 (rt ?_))))))
 have hr:fU l f keep=_:=if_pos hok
 refine bG rfl rfl ?_
 rw[hr]
 rfl
theorem za (l:List dR) (hl:l.length≤1000000):Sp 123 1 [tD 0 (.sl (aY l))] [tO 0 0 l.length,oR 0 85 6 (aY l)]:=by
 refine sb Tryz.func123 rfl (sq (rT [0] (s1 (sq (sq (rT [0,6] (s3 (cd rfl (fun c6=> ?_) fun c6=> ?_))))))))
 · refine sq (rT [2] (s1 (SW.nilOwn 2 0 85 6 rfl rfl (rt (rq [] [] rfl ?_)))))
   repeat' apply ai
   all_goals try exact qx
   all_goals(simp[aF] at c6;simp[c6,aY])
 refine sk (sq (rT [0,3] (s2 (ai (by refine⟨rfl,by omega,?_⟩;rw[aF];show((64:Nat):Int)*_≤_;omega) (s1 (sq (rT [3] (s2 (ai (by refine⟨trivial,by simp,sR l⟩) (sq (rT [2] (s2 (rt (rq [(0,9)] [] rfl ?_))))))))))))))
 repeat' apply ai
 all_goals try exact qx
 all_goals first|(simp[aF];done)|(simp;done)
theorem aA3 (l:List iB) (hl:l.length≤1000000):Sp 124 1 [tD 0 (.sl (cM l))] [tD 0 (.sl (cM l))]:=by
 refine sb Tryz.func124 rfl (sq (rT [0] (s1 (sq (sq (rT [0,6] (s3 (cd rfl (fun c6=> ?_) fun c6=> ?_))))))))
 · refine sq (rT [2] (s1 (rt (eA _ [] [] rfl (kj rfl (congrArg D.sl ?_) trivial) rfl rfl))))
   simp[bI] at c6;simp[c6,cM]
 refine sk (sq (rT [0,3] (s2 (ai (by refine⟨rfl,by omega,?_⟩;rw[bI];show((24:Nat):Int)*_≤_;omega) (s1 (sq (rT [3] (s2 (ai (by refine⟨trivial,by simp,qU l⟩) (sq (rT [2] (s2 (rt (eA _ [] [9] rfl (eW rfl rfl rfl ?_ (congrArg D.sl ?_) trivial) rfl rfl))))))))))))))
 · simp
 simp
set_option maxHeartbeats 1600000 in
theorem lI (k:aH) (hb:k.halves.length≤100000∧ ∀x∈k.halves,x.got.length≤100000):Sp 83 1 [tV 0 k.V] [tV 0 k.V]:=by
 refine sb Tryz.func83 rfl (sq (rT [1,2] (s2 (sq (rT [1,2,3] (s3 (sq (rT [2,3] (s2 (bK (robj:=[]) (rl:=[(0,8)]) (bor:=[]) (za k.halves (by omega)) rfl rfl rfl rfl ⟨cI rfl rfl trivial,rfl⟩ rfl (.inl rfl) (fun p hp=>nomatch hp) (fun j hj=>by(obtain rfl:j=0:=by simpa[kN,cD,iO] using hj);rfl) (s2 (sq (sq (rT [2,3,12,13] (s2 (ai (by exact aF _) (s1 (bk (SW.loopW (n:=k.halves.length) (fun m q=> ∃i:Nat,m=k.halves.length - i∧i≤k.halves.length∧q=[tP 2 2,tP 3 3,tI 12 (k.halves.length:Nat),tI 13 (i:Nat),oB 2 27 [.d (.i 0),.d (.b false),.d (.s []),.d (.i 0),.nil],oB 3 27 [.d (.i k.id),.d (.b k.up),.d (.s k.log),.d (.i k.forced),.own 8 k.halves.length],oR 8 85 6 (aY k.halves)]) ?_ ?_)))))))))))))))))))
 · exact wq (σ':=[tP 2 2,tP 3 3,tI 12 (k.halves.length:Nat),tI 13 (0:Nat),oB 2 27 [.d (.i 0),.d (.b false),.d (.s []),.d (.i 0),.nil],oB 3 27 [.d (.i k.id),.d (.b k.up),.d (.s k.log),.d (.i k.forced),.own 8 k.halves.length],oR 8 85 6 (aY k.halves)]) [] [] (⟨0,rfl,aXd _,rfl⟩) qz
 rintro n s ⟨i,rfl,hi,rfl⟩
 refine sq (rT [2,3,12,13,14] (s1 (sq (cd rfl (fun c14=> ?_) fun c14=> ?_))))
 · have hi2:i<k.halves.length:=by simpa using c14
   have hg:=gE (l:=k.halves) hi2
   have hmem:k.halves.getD i .zero∈k.halves:=dB hi2
   refine sk (sq (bk (sq (rT [2,3,4,12,13] (s2 (rD [2,3,12,13] (s6 (ai (by exact⟨aF _,by omega,by omega⟩) (ai (by exact aF _) (ai (by rw[aW6,hg];exact⟨⟨aF _,by omega⟩,aW8 rfl,rfl⟩) (xp (aA3 (k.halves.getD i .zero).got (by have:=hb.2 _ hmem;omega)) (ai (by rw[aW6,hg];rfl) ?_))))))))))))
   refine ai (by exact⟨aF _,by omega,by omega⟩) (ai (by exact aF _) (ai (by rw[aW6,hg];exact⟨aF _,by omega,rfl,aXi _⟩) (ai (by kernel_rfl) (rT [2,3,12,13] (s2 (wq [] [] (⟨k.halves.length - (i+1),by omega,i+1,rfl,by omega,rfl⟩) ?_))))))
   repeat' apply ai
   all_goals first|exact qx|exact congrArg D.i (by rw[aB (by omega)];omega)|(rw[aW6];exact aOz (by rw[aF];omega) (by rw[hg];rfl))|exact qz
 have hi3:i=k.halves.length:=by simp at c14;omega
 refine xt (sq (rT [2] (s2 (rt (rq [] [8] rfl ?_)))))
 repeat' apply ai
 all_goals try exact qx
 all_goals(first|with_reducible rfl|exact aF _|rfl)
theorem pL (n:Int):Sp 174 1 [tI 0 n] [tI 0 (eX n)]:=by
 refine sb Tryz.func174 rfl (sq (rT [0] (s1 (sq (sq (rT [0,5] (s1 (xp (dL _ _ _) (ai rfl ?_)))))))))
 refine s1 (cd rfl (fun c5=> ?_) fun c5=> ?_)
 · refine sq (rT [2] (s1 (rt (bN rfl (congrArg D.i ?_)))))
   simp at c5
   simp[eX,c5,Int.mul_comm]
 refine sk (sq (rT [2] (s5 (rt (bN rfl (congrArg D.i ?_))))))
 simp at c5
 simp[eX,c5,Int.mul_comm]
theorem bo (b d:Int) (hb:1≤b∧b≤6) (hd:1≤d∧d≤6):Sp 203 2 [tI 0 b,tI 1 d] [tI 0 (nW b d)]:=by
 refine sb Tryz.func203 rfl (sq (rT [0,1] (s1 (sq (sq (rT [0,1,6] (s2 (cd rfl (fun c6=> ?_) fun c6=> ?_))))))))
 · have h1:d=1:=by simpa using c6
   refine sq (rT [4] (s1 (ai (by omega) (s2 (rt (bN rfl (congrArg D.i ?_)))))))
   exact(if_pos h1).symm
 have h1: ¬d=1:=by simpa using c6
 have h2:wrap64 (d*wrap64 (d - 1))≠0:=aD1 (by omega)
 refine sk (sq (rT [4] (s4 (ai (h2) (s1 (rt (bN rfl (congrArg D.i ?_))))))))
 exact(if_neg h1).symm
set_option maxHeartbeats 800000 in
theorem qj (b n:Int) (hok:tQ b n=true):Sp 175 2 [tI 0 b,tI 1 n] [tI 0 (kZ b n)]:=by
 obtain⟨hb,hn⟩:=xZ hok
 refine sb Tryz.func175 rfl (sq (rT [0,1] (s1 (sq (sq (rT [0,1,12] (s2 (xp (wP _ _) (ai rfl ?_)))))))))
 refine s1 (cd rfl (fun c12=> ?_) fun c12=> ?_)
 · rw[hok] at c12
   cases c12
 refine sk (sq (sq (rT [0,1,15] (s3 (cd rfl (fun c15=> ?_) fun c15=> ?_)))))
 · have hs:n<b:=by simpa using c15
   refine sq (rT [4] (s1 (rt (bN rfl (congrArg D.i ?_)))))
   exact(th hok hs).symm
 have hs: ¬n<b:=by simpa using c15
 refine sk (sq (rT [0,1,5] (s1 (sq (sq (rT [0,1,5,6] (s1 (bk (SW.loopW (n:=7) (fun m s=> ∃i:Nat,m=7 - i∧(i:Int)≤b∧s=[tI 0 b,tI 1 n,tI 5 (xG b (i)),tI 6 ((i+1:Nat):Int)]) ?_ ?_)))))))))
 · refine wq [] [] (⟨0,rfl,by omega,rfl⟩) ?_
   repeat' apply ai
   all_goals first|exact qx|rfl|exact congrArg D.i (by rw[aB (by omega)];omega)|(simp;done)|omega|exact qz
 rintro n s ⟨i,rfl,hi,rfl⟩
 refine sq (sq (rT [0,1,5,6,18] (s3 (cd rfl (fun c18=> ?_) fun c18=> ?_))))
 · have hi2: ((i+1:Nat):Int)≤b:=by simpa using c18
   have hr1:=vO hb (d:=i) (by omega)
   have hw1:=vI (b:=b) (d:=((i+1:Nat):Int)) hb (by omega)
   refine sk (sq (bk (rT [0,1,5,6] (s3 (xp (bo b _ (by omega) (by omega)) (ai rfl ?_))))))
   refine s2 (rT [0,1,5,6] (s3 (wq [] [] (⟨7 - (i+1),by omega,i+1,rfl,by omega,rfl⟩) ?_)))
   repeat' apply ai
   all_goals first|exact qx|(show D.i _=D.i (xG b i+nW b ((i+1:Nat):Int));exact congrArg D.i (aB (by omega)))|exact congrArg D.i (by rw[aB (by omega)];omega)|(simp;done)|omega|exact qz
 have hi3: ¬((i+1:Nat):Int)≤b:=by simpa using c18
 have hie:i=b.toNat:=by omega
 subst hie
 have hq:=vO hb (d:=b.toNat) (by omega)
 refine xt (sq (rT [0,7] (s4 (xp (pL _) (ai rfl ?_)))))
 refine xp (pL _) (ai rfl ?_)
 refine ai (by decide) (s1 (ai (by omega) (s1 (sq (sq (rT [0,7,8] (s1 (bk ?_))))))))
 have hdr:=aIz (n:=n) hb
 refine SW.loopW (n:=7) (fun m s=> ∃j:Nat,m=7 - j∧((j:Int)≤b∧(j+1:Int)≤b)∧bu b (pd b n) (6 - j) (j+1)=kZ b n∧s=[tI 0 b,tI 7 (pd b n - xG b (j)),tI 8 ((j+1:Nat):Int)]) ?_ ?_
 · refine wq [] [] (⟨0,rfl,by omega,(aAj hok hs).symm,rfl⟩) ?_
   repeat' apply ai
   all_goals first|exact qx|(show D.i (pd b n)=D.i (pd b n - 0);rw[Int.sub_zero])|rfl|exact congrArg D.i (by rw[aB (by omega)];omega)|(simp;done)|omega|exact qz
 rintro n s ⟨j,rfl,hj,hdg,rfl⟩
 refine sq (sq (rT [0,7,8,37] (s3 (cd rfl (fun c37=> ?_) fun c37=> ?_))))
 · have hj2: ((j+1:Nat):Int)<b:=by simpa using c37
   have hr1:=vO hb (d:=j) (by omega)
   have hw1:=vI (b:=b) (d:=((j+1:Nat):Int)) hb (by omega)
   have hsum:wrap64 (pd b n - xG b j - nW b ((j+1:Nat):Int))=pd b n - xG b (j+1):=by
    show _=pd b n - (xG b j+nW b ((j+1:Nat):Int))
    rw[aB (by omega)];omega
   refine sk (sq (bk (sq (rT [0,7,8] (s3 (xp (bo b _ (by omega) (by omega)) (ai rfl ?_)))))))
   refine s2 (sq (rT [0,7,8,46] (s2 (cd rfl (fun c46=> ?_) fun c46=> ?_))))
   · have hlt:pd b n<xG b (j+1):=by
      have h9:=of_decide_eq_true c46
      rw[hsum] at h9;omega
     refine sq (rT [4] (s2 (rt (bN rfl (congrArg D.i ?_)))))
     rw[← hdg]
     exact(aMq (by omega) (by omega) hlt).symm
   have hnl: ¬pd b n<xG b (j+1):=by
    have h9:=of_decide_eq_false c46
    rw[hsum] at h9;omega
   have hst:=aMp (by omega) (by omega) hnl
   refine sk (rT [0,7,8] (s3 (wq [] [] (⟨7 - (j+1),by omega,j+1,rfl,by omega,hst▸hdg,rfl⟩) ?_)))
   repeat' apply ai
   all_goals first|exact qx|(rw[hsum];done)|exact congrArg D.i (by rw[aB (by omega)];omega)|(simp;done)|omega|exact qz
 have hj3: ¬((j+1:Nat):Int)<b:=by simpa using c37
 refine xt (sq (rT [4] (s2 (rt (bN rfl (congrArg D.i ?_))))))
 rw[← hdg]
 rw[lz (by omega)]
set_option maxHeartbeats 1600000 in
theorem nd (b n:Int):Sp 142 2 [tI 0 b,tI 1 n] [tD 0 (.sl (cZ (cQ b n)))]:=by
 refine sb Tryz.func142 rfl (sq (rT [0,1] (s1 (sq (rT [0,1,5] (s2 (sq (sq (rT [0,1,5,15] (s2 (xp (wP _ _) (ai rfl ?_))))))))))))
 refine s1 (cd rfl (fun c15=> ?_) fun c15=> ?_)
 · have hok: ¬tQ b n=true:=by simpa using c15
   refine sq (rT [4] (s2 (rt (eA _ [] [11] rfl (eW rfl rfl rfl ?_ (congrArg D.sl ?_) trivial) rfl rfl))))
   · rfl
   rw[zZ hok];rfl
 have hok:tQ b n=true:=by simpa using c15
 obtain⟨hb,hn⟩:=xZ hok
 have hmd:=tT hok
 refine sk (sq (sq (rT [0,1,5,19] (s3 (cd rfl (fun c19=> ?_) fun c19=> ?_)))))
 · have hs:n<b:=by simpa using c19
   refine sq (rT [4] (s5 (rt (eA _ [] [11] rfl (eW rfl rfl rfl ?_ (congrArg D.sl ?_) trivial) rfl rfl))))
   · rfl
   rw[cw hok hs];rfl
 have hs: ¬n<b:=by simpa using c19
 refine sk (sq (rT [0,1,5,6] (s1 (ai (by refine⟨rfl,by omega,?_⟩;show((1:Nat):Int)*_≤_;omega) (s1 (sq (rT [0,1,5,6,7] (s3 (xp (pL _) (ai rfl ?_))))))))))
 refine s1 (sq (sq (rT [0,5,6,7,8] (s2 (xp (qj b n hok) (ai rfl ?_))))))
 refine s1 (bk (SW.loopW (n:=(kZ b n).toNat*1) (fun m s=> ∃(x:Int) (k:Nat) (u:List Bool),m=k*1∧(UOk b u∧(u.count true:Int)+k≤b)∧aGl b k x u=xH b n∧s=[tI 0 b,tO 5 11 (([]:List Int)).length,tO 6 25 b.toNat,tI 7 (x),tI 8 (k:Nat),oR 11 3 1 (cZ ([])),oR 25 4 1 (aM ((u).take b.toNat))]) ?_ ?_))
 · refine wq (σ':=[tI 0 b,tO 5 11 (([]:List Int)).length,tO 6 25 b.toNat,tI 7 (eX (wrap64 (wrap64 (n*7)+1))),tI 8 ((kZ b n).toNat:Nat),oR 11 3 1 (cZ ([])),oR 25 4 1 (aM ((List.replicate 6 false).take b.toNat))]) [] [] (⟨_,_,_,rfl,⟨(yH b).1,by rw[(yH b).2];omega⟩,rfl,rfl⟩) ?_
   repeat' apply ai
   all_goals first|exact qx|rfl|exact congrArg D.i (by omega)|(rw[List.take_replicate,Nat.min_eq_left (by omega)];exact repT _)|exact qz
 rintro n s ⟨x,k,u,rfl,⟨hu,hc⟩,hp,rfl⟩
 refine sq (sq (rT [0,5,6,7,8,34] (s2 (cd rfl (fun c34=> ?_) fun c34=> ?_))))
 · have hk1:0<k:=by simpa using c34
   obtain⟨f,hf,hfree⟩:=aGm hb hu (by omega)
   refine sk (sq (bk (sq (rT [0,5,6,7,8] (s1 (xp (pL _) (ai rfl ?_)))))))
   refine s1 (sq (rT [0,5,6,7,8,9] (s1 (ai (by decide) (s1 (ai (by omega) (s1 (sq (bk ?_)))))))))
   have ha0:=aCh (x:=x) hb
   have hul:=hu.1
   have htl: (u.take b.toNat).length=b.toNat:=by rw[aXc];omega
   refine SW.loopW (n:=((f+b - (aXm (wrap64 (Int.tdiv (eX x) 16)) b)) % b).toNat) (fun m s=> ∃at_:Int,m=((f+b - at_) % b).toNat∧(0≤at_∧at_<b)∧tG u b 6 at_=tG u b 6 (aXm (wrap64 (Int.tdiv (eX x) 16)) b)∧s=[tI 0 b,tO 5 11 (([]:List Int)).length,tO 6 25 b.toNat,tI 7 (eX x),tI 8 (k:Nat),tI 9 (at_),oR 11 3 1 (cZ ([])),oR 25 4 1 (aM ((u).take b.toNat))]) ?_ ?_
   · refine wq (σ':=[tI 0 b,tO 5 11 (([]:List Int)).length,tO 6 25 b.toNat,tI 7 (eX x),tI 8 (k:Nat),tI 9 ((aXm (wrap64 (Int.tdiv (eX x) 16)) b)),oR 11 3 1 (cZ ([])),oR 25 4 1 (aM ((u).take b.toNat))]) [] [] (⟨_,rfl,ha0,rfl,rfl⟩) ?_
     repeat' apply ai
     all_goals first|exact qx|rfl|exact qz
   rintro n s ⟨at_,rfl,hat,hga,rfl⟩
   have hbo:=lM (l:=u.take b.toNat) (i:=at_.toNat) (by omega)
   rw[yD (by omega)] at hbo
   refine sq (sq (rT [0,5,6,7,8,9,46] (s2 (ai (by exact⟨by rw[cS];exact htl,by omega,by omega⟩) (ai (by rw[hbo];exact⟨⟨by rw[cS];exact htl,by omega⟩,aXi _,rfl⟩) (cd rfl (fun c46=> ?_) fun c46=> ?_))))))
   · have c40:u.getD at_.toNat false=true:=by
      rw[hbo] at c46;exact c46
     refine sk (bk (rT [0,5,6,7,8,9] (s3 (ai (by omega) (s1 ?_)))))
     have hne:at_≠f:=by
      rintro rfl
      rw[hfree] at c40
      cases c40
     obtain⟨q1,q2⟩:=aIm hb hf hat hne
     have hgo:=aPi hb hf hfree hat c40
     refine wq (σ':=[tI 0 b,tO 5 11 (([]:List Int)).length,tO 6 25 b.toNat,tI 7 (eX x),tI 8 (k:Nat),tI 9 (aXm (wrap64 (at_+1)) b),oR 11 3 1 (cZ ([])),oR 25 4 1 (aM ((u).take b.toNat))]) [] [] (⟨_,q1,_,rfl,q2,hgo▸hga,rfl⟩) ?_
     repeat' apply ai
     all_goals first|exact qx|rfl|exact qz
   have c40:u.getD at_.toNat false=false:=by
    rw[hbo] at c46;exact c46
   have hz:at_=tG u b 6 (aXm (wrap64 (Int.tdiv (eX x) 16)) b):=by rw[← hga,fe c40]
   have hpo:zW b x u=u.set at_.toNat true:=by rw[zW,← hz]
   have huk:=aGn (x:=x) hb hu (by omega)
   rw[hpo] at huk
   refine xt (rT [0,5,6,7,8] (s2 (ai (by exact⟨by rw[cS];exact htl,by omega,by omega⟩) (ai (by rw[hbo];exact⟨by rw[cS];exact htl,by omega,rfl,aXi _⟩) (rT [0,5,6,7,8] (s3 ?_))))))
   obtain⟨k,rfl⟩: ∃k2,k=k2+1:=⟨k - 1,by omega⟩
   have hpp:aGl b k (eX x) (u.set at_.toNat true)=xH b n:=by
    rw[← hpo];exact hp
   refine wq [] [] (⟨k*1,by omega,eX x,k,u.set at_.toNat true,rfl,⟨huk.1,by rw[huk.2];omega⟩,hpp,rfl⟩) ?_
   repeat' apply ai
   all_goals first|exact qx|exact congrArg D.i (by rw[aB (by omega)];omega)|(rw[List.take_set];exact aLw (by omega))|exact qz
 have hk1:k=0:=by simp at c34;omega
 subst hk1
 have hue:u=xH b n:=hp
 have hul:=hu.1
 have htl: (u.take b.toNat).length=b.toNat:=by rw[aXc];omega
 refine xt (sq (sq (rT [0,5,6,10] (s1 (bk (SW.loopW (n:=b.toNat) (fun m s=> ∃i:Nat,m=b.toNat - i∧(i:Int)≤b∧s=[tI 0 b,tO 5 11 (pS u (i)).length,tO 6 25 b.toNat,tI 10 (i:Nat),oR 11 3 1 (cZ (pS u (i))),oR 25 4 1 (aM (u.take b.toNat))]) ?_ ?_))))))
 · refine wq [] [] (⟨0,rfl,by omega,rfl⟩) ?_
   repeat' apply ai
   all_goals first|exact qx|rfl|exact qz
 rintro n s ⟨i,rfl,hi,rfl⟩
 refine sq (sq (rT [0,5,6,10,56] (s3 (cd rfl (fun c56=> ?_) fun c56=> ?_))))
 · have hi2: (i:Int)<b:=by simpa using c56
   have hbo:=lM (l:=u.take b.toNat) (i:=i) (by omega)
   rw[yD (by omega)] at hbo
   refine sk (sq (bk (sq (rT [0,5,6,10,62] (s2 (ai (by exact⟨by rw[cS];exact htl,by omega,by omega⟩) (ai (by rw[aW6];rw[hbo];exact⟨⟨by rw[cS];exact htl,by omega⟩,aXi _,rfl⟩) (cd rfl (fun c62=> ?_) fun c62=> ?_))))))))
   · have c52:u.getD i false=true:=by
      rw[aW6,hbo] at c62;exact c62
     refine rT [0,5,6,10] (s3 (ai (by refine⟨rfl,cH _,by simp,?_⟩;have:=gg u i;show(_+1)*8≤_;omega) (s1 (rT [0,5,6,10] (s3 ?_)))))
     first
     |(have hx:=xj c52
       refine wq [] [] (⟨b.toNat - (i+1),by omega,i+1,rfl,by omega,rfl⟩) ?_
       repeat' apply ai
       all_goals first|exact qx|exact congrArg D.i (by rw[aB (by omega)];omega)|omega|(simp;done)|(rw[hx,aW7];rfl)|(rw[hx];exact oJ _ _)|(rw[hx];simp[cZ,aW7];done)|exact qz)
     |(have hx:=pf c52
       refine wq [] [] (⟨b.toNat - (i+1),by omega,i+1,rfl,by omega,rfl⟩) ?_
       repeat' apply ai
       all_goals first|exact qx|exact congrArg D.i (by rw[aB (by omega)];omega)|omega|(simp;done)|(rw[hx];done)|exact qz)
   have c52:u.getD i false=false:=by
    rw[aW6,hbo] at c62;exact c62
   refine sk (rT [0,5,6,10] (s3 ?_))
   first
   |(have hx:=xj c52
     refine wq [] [] (⟨b.toNat - (i+1),by omega,i+1,rfl,by omega,rfl⟩) ?_
     repeat' apply ai
     all_goals first|exact qx|exact congrArg D.i (by rw[aB (by omega)];omega)|omega|(simp;done)|(rw[hx,aW7];rfl)|(rw[hx];exact oJ _ _)|(rw[hx];simp[cZ,aW7];done)|exact qz)
   |(have hx:=pf c52
     refine wq [] [] (⟨b.toNat - (i+1),by omega,i+1,rfl,by omega,rfl⟩) ?_
     repeat' apply ai
     all_goals first|exact qx|exact congrArg D.i (by rw[aB (by omega)];omega)|omega|(simp;done)|(rw[hx];done)|exact qz)
 have hi3:i=b.toNat:=by simp at c56;omega
 subst hi3
 refine xt (sq (rT [4] (s2 (rt (eA _ [] [11] rfl (eW rfl rfl rfl ?_ (congrArg D.sl ?_) trivial) rfl rfl)))))
 · exact cH _
 rw[pg hok hs,← hue,← xk,sh (i:=b.toNat) (fun j hj=>hu.2 j (by omega)) (by omega)]
theorem aA4:Sp 143 0 [] [tD 0 (.s [0,0,0,0])]:=by
 refine sb Tryz.func143 rfl (sq (rT [] (s1 (sq (rT [0] (ai (by exact⟨rfl,by decide,by decide⟩) (ai (by exact⟨rfl,rfl⟩) (s1 (rt (bN rfl (congrArg D.s ?_)))))))))))
 rfl
theorem nf (a c:List UInt8) (ha:a.length=4) (hc:c.length=4):Sp 144 2 [tD 0 (.s a),tD 1 (.s c)] [tD 0 (.s (aAi a c))]:=by
 refine sb Tryz.func144 rfl (sq (rT [0,1] (s1 (sq (rT [0,1,5] (s2 (sq (sq (rT [0,1,5,6] (s1 (bk (SW.loopW (n:=4) (fun m s=> ∃i:Nat,m=4 - i∧i≤4∧s=[tD 0 (.s a),tD 1 (.s c),tO 5 7 (xl a c (i)).length,tI 6 (i:Nat),oR 7 5 1 (aA (xl a c (i)))]) ?_ ?_))))))))))))
 · refine wq [] [] (⟨0,rfl,by omega,rfl⟩) ?_
   repeat' apply ai
   all_goals first|exact qx|rfl|exact qz
 rintro n s ⟨i,rfl,hi,rfl⟩
 refine sq (sq (rT [0,1,5,6,9] (s2 (cd rfl (fun c9=> ?_) fun c9=> ?_))))
 · have hi2:i<4:=by simp at c9;omega
   refine sk (sq (bk (rD [0,1,5,6] (s3 (ai (by omega) (s2 (ai (by omega) (s2 (ai (by refine⟨rfl,aU _,by simp,?_⟩;rw[mb];show(_+1)*1≤_;omega) (s1 (ai (by kernel_rfl) (rT [0,1,5,6] (s3 ?_)))))))))))))
   have hx:=aI2 a c i
   refine wq [] [] (⟨4 - (i+1),by omega,i+1,rfl,by omega,rfl⟩) ?_
   repeat' apply ai
   all_goals first|exact qx|(rw[hx,aW7];rfl)|(rw[hx,aW6];exact aLy _ _ _)|(simp[aU,mb];done)|exact congrArg D.i (by rw[aB (by omega)];omega)|omega|(simp;done)|exact qz
 have hi2:i=4:=by simp at c9;omega
 subst hi2
 refine xt (sq (rT [4] (s1 (ai (by exact⟨aU _,(congrArg aA (cG _)).symm⟩) (s1 (rt (bN rfl (congrArg D.s ?_))))))))
 exact cG _
set_option maxHeartbeats 800000 in
theorem aA5 (l:List UInt8) (hl:l.length≤140737488355328):Sp 141 1 [tD 0 (.s l)] [tD 0 (.sl (bB (dT l)))]:=by
 refine sb Tryz.func141 rfl (sq (rT [0] (s1 (sq (rT [0,3] (s2 (sq (sq (rT [0,3,15] (s4 (y3 (ai pk (cd rfl (fun c15=> ?_) fun c15=> ?_)))))))))))))
 · have hin: ¬iK l.length 1 24=true:=by
    have h1: (l.length:Int)<1∨(l.length:Int)>24:=by simpa only[Bool.or_eq_true,decide_eq_true_eq] using c15
    simp[iK];omega
   refine sq (rT [2] (s2 (rt (eA _ [] [7] rfl (eW rfl rfl rfl ?_ (congrArg D.sl ?_) trivial) rfl rfl))))
   · rfl
   rw[aCi hin];rfl
 have hl2:1≤l.length∧l.length≤24:=by
  have h1: ¬(l.length:Int)<1∧ ¬(l.length:Int)>24:=by simpa only[Bool.or_eq_false_iff,decide_eq_false_iff_not] using c15
  omega
 have hin:iK l.length 1 24=true:=by simp[iK];omega
 refine sk (sq (sq (rT [0,3,4] (s1 (bk (SW.loopW (n:=((l.length+3) / 4)) (fun m s=> ∃i:Nat,m=((l.length+3) / 4) - i∧i≤((l.length+3) / 4)∧s=[tD 0 (.s l),tO 3 7 (wI l (i)).length,tI 4 (i:Nat),oR 7 9 1 (bB (wI l (i)))]) ?_ ?_))))))
 · refine wq (σ':=[tD 0 (.s l),tO 3 7 (wI l (0)).length,tI 4 (0:Nat),oR 7 9 1 (bB (wI l (0)))]) [] [] (⟨0,rfl,aXd _,rfl⟩) ?_
   repeat' apply ai
   all_goals first|exact qx|rfl|exact qz
 rintro n s ⟨i,rfl,hi,rfl⟩
 refine sq (sq (rT [0,3,4,21] (s3 (xp (pK _ (by omega)) (ai rfl ?_)))))
 refine s1 (cd rfl (fun c21=> ?_) fun c21=> ?_)
 · have hi2:i< ((l.length+3) / 4):=by simp at c21;omega
   refine sk (sq (bk (sq (rT [0,3,4,5] (s2 (sq (sq (rT [0,3,4,5,6] (s3 (bk (SW.loopW (n:=4) (fun m s=> ∃c:Nat,m=4 - c∧c≤4∧s=[tD 0 (.s l),tO 3 7 (wI l i).length,tI 4 (i:Nat),tO 5 24 (cy l i (c)).length,tI 6 (4*i+c:Nat),oR 7 9 1 (bB (wI l i)),oR 24 5 1 (aA (cy l i (c)))]) ?_ ?_)))))))))))
   · refine wq (σ':=[tD 0 (.s l),tO 3 7 (wI l i).length,tI 4 (i:Nat),tO 5 24 (cy l i (0)).length,tI 6 (4*i+0:Nat),oR 7 9 1 (bB (wI l i)),oR 24 5 1 (aA (cy l i (0)))]) [] [] (⟨0,rfl,aXd _,rfl⟩) ?_
     repeat' apply ai
     all_goals first|exact qx|rfl|exact congrArg D.i (by rw[aB (by omega)];omega)|exact qz
   rintro n s ⟨c,rfl,hc,rfl⟩
   refine sq (sq (rT [0,3,4,5,6,31] (s5 (cd rfl (fun c31=> ?_) fun c31=> ?_))))
   · have hc2:c<4:=by
      have h:=c31
      rw[aB (n:=(i:Int)+1) (by omega),aB (by omega)] at h
      simp at h;omega
     refine sk (sq (bk (sq (rT [0,3,4,5,6,37] (s4 (cd rfl (fun c37=> ?_) fun c37=> ?_))))))
     · have hk3:4*i+c<l.length:=by simp at c37;omega
       refine rT [0,3,4,5,6] (s3 (ai (by omega) (s1 (ai (by refine⟨rfl,aU _,by simp,?_⟩;rw[mM];show(_+1)*1≤_;omega) (s1 (rT [0,3,4,5,6] (s3 ?_)))))))
       first
       |(have hk4:4*i+c<l.length:=hk3
         have hbs:=aa l i c
         refine wq [] [] (⟨4 - (c+1),by omega,c+1,rfl,by omega,rfl⟩) ?_
         repeat' apply ai
         all_goals first|exact qx|exact congrArg D.i (by rw[aB (by omega)];omega)|(rw[hbs,aW7];rfl)|(rw[hbs,aW6];exact gU _ [_])|(simp[aU,mM];done)|exact qz)
       |(have hbs:=aa l i c
         rw[hk3] at hbs
         refine wq [] [] (⟨4 - (c+1),by omega,c+1,rfl,by omega,rfl⟩) ?_
         repeat' apply ai
         all_goals first|exact qx|exact congrArg D.i (by rw[aB (by omega)];omega)|(rw[hbs,aW7];rfl)|(rw[hbs];exact gU _ [0])|(simp[aU,mM];done)|exact qz)
     have hk3:l.getD (4*i+c) 0=0:=getD_none (by simp at c37;omega)
     refine rT [0,3,4,5,6] (s2 (ai (by refine⟨rfl,aU _,by simp,?_⟩;rw[mM];show(_+1)*1≤_;omega) (s1 (rT [0,3,4,5,6] (s3 ?_)))))
     first
     |(have hk4:4*i+c<l.length:=hk3
       have hbs:=aa l i c
       refine wq [] [] (⟨4 - (c+1),by omega,c+1,rfl,by omega,rfl⟩) ?_
       repeat' apply ai
       all_goals first|exact qx|exact congrArg D.i (by rw[aB (by omega)];omega)|(rw[hbs,aW7];rfl)|(rw[hbs,aW6];exact gU _ [_])|(simp[aU,mM];done)|exact qz)
     |(have hbs:=aa l i c
       rw[hk3] at hbs
       refine wq [] [] (⟨4 - (c+1),by omega,c+1,rfl,by omega,rfl⟩) ?_
       repeat' apply ai
       all_goals first|exact qx|exact congrArg D.i (by rw[aB (by omega)];omega)|(rw[hbs,aW7];rfl)|(rw[hbs];exact gU _ [0])|(simp[aU,mM];done)|exact qz)
   have hc2:c=4:=by
    have h:=c31
    rw[aB (n:=(i:Int)+1) (by omega),aB (by omega)] at h
    simp at h;omega
   subst hc2
   refine xt (rT [0,3,4] (s2 (ai (by exact⟨aU _,(congrArg aA (cG _)).symm⟩) (s1 (ai (by refine⟨rfl,aL _,by simp,?_⟩;rw[ab];show(_+1)*16≤_;omega) (s1 (rT [0,3,4] (s3 ?_))))))))
   have hcs:=aI1 l i
   refine wq [] [] (⟨((l.length+3) / 4) - (i+1),by omega,i+1,rfl,by omega,rfl⟩) ?_
   repeat' apply ai
   all_goals first|exact qx|(rw[hcs,cG];exact fC _ _)|(rw[hcs,aW7];rfl)|(simp[aL,ab];done)|exact congrArg D.i (by rw[aB (by omega)];omega)|omega|(simp;done)|exact qz
 have hi3:i=((l.length+3) / 4):=by simp at c21;omega
 refine xt (sq (rT [2] (s2 (rt (eA _ [] [7] rfl (eW rfl rfl rfl ?_ (congrArg D.sl ?_) trivial) rfl rfl)))))
 · exact aL _
 rw[xm hin,hi3]
set_option maxHeartbeats 800000 in
theorem zb (l:List UInt8) (n:Int) (hl:l.length≤140737488355328):Sp 103 2 [tD 0 (.s l),tI 1 n] [tD 0 (.s (zY l n))]:=by
 refine sb Tryz.func103 rfl (sq (rT [0,1] (s1 (sq (rT [1,5] (s1 (xp (aA5 l hl) (ai rfl ?_))))))))
 refine s1 (sq (rT [5,6] (s3 (xp (nd ((dT l).length:Nat) n) (ai (by rw[aL];rfl) ?_)))))
 refine s1 (sq (sq (rT [5,6,22] (s4 (y3 (ai pk (cd rfl (fun c22=> ?_) fun c22=> ?_)))))))
 · have hn:dT l=[]∨(cQ (dT l).length n)=[]:=by simpa[bB,cZ] using c22
   refine sq (rT [4] (s1 (rt (bN rfl (congrArg D.s ?_)))))
   exact(md hn).symm
 have hn: ¬(dT l=[]∨(cQ (dT l).length n)=[]):=by simpa[bB,cZ] using c22
 refine sk (sq (rT [5,6,7] (xp aA4 (ai rfl ?_))))
 refine s1 (sq (sq (rT [5,6,7,8] (s1 (bk (SW.loopW (n:=(cQ (dT l).length n).length) (fun m s=> ∃i:Nat,m=(cQ (dT l).length n).length - i∧i≤(cQ (dT l).length n).length∧s=[tD 5 (.sl (bB (dT l))),tD 6 (.sl (cZ (cQ (dT l).length n))),tD 7 (.s (yI (dT l) [0,0,0,0] ((cQ (dT l).length n).take i))),tI 8 (i:Nat)]) ?_ ?_))))))
 · refine wq (σ':=[tD 5 (.sl (bB (dT l))),tD 6 (.sl (cZ (cQ (dT l).length n))),tD 7 (.s (yI (dT l) [0,0,0,0] ((cQ (dT l).length n).take 0))),tI 8 (0:Nat)]) [] [] (⟨0,rfl,aXd _,rfl⟩) ?_
   repeat' apply ai
   all_goals first|exact qx|rfl|exact qz
 rintro n s ⟨i,rfl,hi,rfl⟩
 refine sq (sq (rT [5,6,7,8,27] (s4 (cd rfl (fun c27=> ?_) fun c27=> ?_))))
 · have hi2:i< (cQ (dT l).length n).length:=by simp[cH] at c27;omega
   have hml:=ma (dT l).length n
   have hj:=aU5 (t:=l) (n:=n) hi2
   have hio:=gV (l:=(cQ (dT l).length n)) (i:=i) hi2
   have hv:=aRi (l:=dT l) hj.1 hj.2.1
   refine sk (sq (bk (rT [5,6,7,8] (s4 (ai (by rw[aW6,hio];exact⟨⟨by omega,by rw[cH];omega⟩,rfl⟩) (ai (by rw[aW6,hio];exact⟨aW8 rfl,rfl⟩) (ai (by rw[aW6,hio];exact ixS hj.1 hj.2.1) (ai (by rw[aW6,hio];exact ldS hj.1 hj.2.1) (xp (nf (yI (dT l) [0,0,0,0] ((cQ (dT l).length n).take i)) ((dT l).getD ((cQ (dT l).length n).getD i 0).toNat []) (mc rfl) hj.2.2) (ai (by rw[aW6,hio];exact(congrArg (fun z=>eV 0 [Dv (.s (yI (dT l) [0,0,0,0] ((cQ (dT l).length n).take i))),Dv (.s z)]) hv).symm) ?_))))))))))
   refine s1 (rT [5,6,7,8] (s3 ?_))
   have hgt:=aI4 (bl:=dT l) hi2 (x:=[0,0,0,0])
   refine wq [] [] (⟨(cQ (dT l).length n).length - (i+1),by omega,i+1,rfl,by omega,rfl⟩) ?_
   repeat' apply ai
   all_goals first|exact qx|(rw[hgt];done)|exact congrArg D.i (by rw[aB (by omega)];omega)|omega|(simp;done)|exact qz
 have hi3:i=(cQ (dT l).length n).length:=by simp[cH] at c27;omega
 refine xt (sq (rT [4] (s2 (rt (bN rfl (congrArg D.s ?_))))))
 rw[me hn,hi3,aXn]
theorem tX (a b:Int):Sp 102 2 [tI 0 a,tI 1 b] [tI 0 (iX a b)]:=by
 refine sb Tryz.func102 rfl (sq (rT [0,1] (s1 (sq (bk (sq (rT [0,1,5] (s1 (xp (dS _) (ai rfl ?_))))))))))
 refine s2 (y1 (xc (fun h=>(dS _)) (ai rfl (ai rk ?_))))
 refine y1 (ai pk (s1 (y3 (ai pk (s1 (cd rfl (fun c5=> ?_) fun c5=> ?_))))))
 · refine sq (rT [4] (s1 (rt (bN rfl ?_))))
   simp only[iX,wrap64,eR,iK,gb] at*
   grind
 refine sq (rT [0,19] (s4 (cd rfl (fun c19=> ?_) fun c19=> ?_)))
 · refine sq (rT [4] (s3 (rt (bN rfl ?_))))
   simp only[iX,wrap64,eR,iK,gb] at*
   grind
 refine sk (sq (rT [4] (s3 (rt (bN rfl ?_)))))
 simp only[iX,wrap64,eR,iK,gb] at*
 grind
theorem oS (k:aH) (hl:k.log.length≤140737488355328):Sp 16 1 [tV 0 k.V] [tV 0 ((bR k).V)]:=by
 refine sb Tryz.func16 rfl (sq (rT [1,2] (s2 (sq (sq (rT [1,2,7] (s1 (xp (lA k hl) (ai rfl ?_)))))))))
 refine s1 (cd rfl (fun c7=> ?_) fun c7=> ?_)
 · have hr:bR k= .zero:=aD3 (by simpa using c7)
   refine sq (rT [2] (s2 (rt (eA _ [] [] rfl ?_ rfl rfl))))
   rw[hr]
   refine qs ?_
   repeat' first|exact qx|apply ai
   all_goals rfl
 have hok:aR k=true:=by simpa using c7
 have hr:bR k=_:=kJ hok
 have hlg:=(eK hok).2.1
 refine sk (sq (rT [2,3] (s5 (xp (rI k.id k.log (by omega)) (ai rfl ?_)))))
 refine s6 (sq (rT [2] (s2 (rt (bG rfl rfl ?_)))))
 rw[hr]
 rfl
set_option maxHeartbeats 1600000 in
theorem qk (k:aH) (f n mix:Int) (hl:k.log.length≤140737488355328):Sp 49 4 [tV 0 k.V,tI 1 f,tI 2 n,tI 3 mix] [tV 0 (.tup [.agg [.d (.i ((eQ k f n mix).1).kind),.d (.i ((eQ k f n mix).1).src),.d (.i ((eQ k f n mix).1).dst),.d (.i ((eQ k f n mix).1).frm),.d (.i ((eQ k f n mix).1).num),.d (.i ((eQ k f n mix).1).to),.d (.i ((eQ k f n mix).1).til),.d (.i ((eQ k f n mix).1).size),.d (.i ((eQ k f n mix).1).mix),.d (.s ((eQ k f n mix).1).data)],.c (.d (.b (eQ k f n mix).2))])]:=by
 refine sb Tryz.func49 rfl (sq (rT [1,2,3,4,8] (s3 (sq (sq (rT [1,2,3,4,8,21] (s1 (xp (gT k hl) (ai rfl ?_)))))))))
 refine s2 (y3 (ai pk (cd rfl (fun c21=> ?_) fun c21=> ?_)))
 · have hn:eQ k f n mix=(.zero,false):=mf (by
    intro h9
    simp only[aXb] at h9
    rw[h9.1.1.1,h9.1.1.2] at c21
    cases c21)
   refine sq (rT [8,9] (s3 (rt ?_)))
   have hr:=hn
   refine bG rfl rfl ?_
   rw[hr]
   rfl
 have hok:aR k=true∧k.up=true:=by
  revert c21
  cases aR k<;>cases k.up<;>simp
 obtain⟨hok,hup⟩:=hok
 have hlg:=(eK hok).2.1
 have h6:=eZ (gA hok)
 refine sk (sq (rT [1,2,3,4,8,10] (s1 (xp (gS k (by omega)) (ai rfl ?_)))))
 refine s6 (sq (rT [3,4,8,10,12] (s4 (xp (gB (aZ k).1.held f n (by have:=h6.1;omega)) (ai rfl ?_)))))
 refine s1 (sq (sq (rT [3,4,8,10,12,39] (s3 (y1 (xc (fun h=>(dL _ _ _)) (ai rfl (ai rk ?_))))))))
 refine y1 (ai pk (cd rfl (fun c39=> ?_) fun c39=> ?_))
 · have hn:eQ k f n mix=(.zero,false):=mf (by
    intro h9
    simp only[aXb,decide_eq_true_eq] at h9
    rw[h9.1.2,decide_eq_false (show ¬aS (aZ k).1.held f n<0 by omega)] at c39
    cases c39)
   refine sq (rT [8,9] (s3 (rt ?_)))
   have hr:=hn
   refine bG rfl rfl ?_
   rw[hr]
   rfl
 have hpm:0≤aS (aZ k).1.held f n∧iK mix 0 999=true:=by
  by_cases h8:aS (aZ k).1.held f n<0
  · rw[decide_eq_true h8] at c39;cases c39
  · refine⟨by omega,?_⟩
    rw[decide_eq_false h8] at c39
    simpa using c39
 obtain⟨hp,hmx⟩:=hpm
 have hy:=aAk hok hup hmx hp
 obtain⟨j,hj,hjl,hjt⟩:=sB hok hp
 have hg:=aQ (l:=(aZ k).1.held) hjl
 rw[hj,aW6] at hy
 refine sk (sq (rT [3,4,8,13] (s3 (ai (by rw[hj,aW6,hg];exact⟨⟨by omega,by rw[aC];omega⟩,rfl⟩) (ai (by rw[hj,aW6,hg];exact⟨aW8 rfl,rfl⟩) (s2 (sq (wa [tP 4 4,tP 8 8,tP 13 13,tI 3 mix,oB 4 27 [.d (.i (k).id),.d (.b (k).up),.d (.s (k).log),.d (.i (k).forced),.d (.sl (aY (k).halves))],oB 8 63 [.d (.i 0),.d (.i 0),.d (.i 0),.d (.i 0),.d (.i 0),.d (.i 0),.d (.i 0),.d (.i 0),.d (.i 0),.d (.s [])],oB 13 58 [.d (.i (((aZ k).1.held.getD j .zero)).frm),.d (.i (((aZ k).1.held.getD j .zero)).num),.d (.i (((aZ k).1.held.getD j .zero)).to),.d (.i (((aZ k).1.held.getD j .zero)).til),.d (.s (((aZ k).1.held.getD j .zero)).text)]] [] [] ?_ ?_))))))))
 · repeat' apply ai
   all_goals first|exact qx|(rw[hj,aW6,hg];rfl)|exact qz
 refine rD [8,9] (s6 (xp (tX _ _) (ai rfl ?_)))
 refine s9 (s6 (xp (zb ((aZ k).1.held.getD j .zero).text mix hjt) (ai rfl ?_)))
 refine s3 (ai (by kernel_rfl) (rt ?_))
 have hr:=hy
 refine bG rfl rfl ?_
 rw[hr]
 rfl
theorem ng (rec:List UInt8):Sp 127 1 [tD 0 (.s rec)] [tB 0 (iY rec)]:=by
 refine sb Tryz.func127 rfl (sq (rT [0] (s1 (sq (rT [2] (s2 (xp (gL _ _ _) (ai rfl ?_))))))))
 refine s1 (rt (bN rfl ?_))
 rfl
theorem bp (rec:List UInt8):Sp 122 1 [tD 0 (.s rec)] [tB 0 (iY rec)]:=by
 refine sb Tryz.func122 rfl (sq (rT [0] (s1 (sq (rT [2] (s2 (xp (dL _ _ _) (ai rfl ?_))))))))
 refine s1 (rt (bN rfl ?_))
 rfl
theorem pE (rec:List UInt8) (hrec:rec.length≤900000):Sp 120 1 [tD 0 (.s rec)] [tD 0 (.s (cU rec))]:=by
 have hdl:=bS (k:=5) (n:=rec.length) (by simp;omega)
 refine sb Tryz.func120 rfl (sq (rT [0] (s1 (sq (rT [2] (s2 (xp (uP rec.length (by omega)) (ai rfl ?_))))))))
 refine ai (by show _≤9223372036854775807;(try simp only[aW7,aW9,aXa]);omega) (s1 (ai (by show _≤9223372036854775807;(try simp only[aW7,aW9,aXa]);omega) (ai (by show _≤9223372036854775807;(try simp only[aW7,aW9,aXa]);omega) (s1 (rt (bN rfl ?_))))))
 rfl
theorem xQ (rec:List UInt8) (hrec:rec.length≤900000):Sp 128 1 [tD 0 (.s rec)] [tD 0 (.s (cU rec))]:=by
 have hdl:=bS (k:=5) (n:=rec.length) (by simp;omega)
 refine sb Tryz.func128 rfl (sq (rT [0] (s1 (sq (rT [2] (s2 (xp (dn rec.length (by omega)) (ai rfl ?_))))))))
 refine ai (by show _≤9223372036854775807;(try simp only[aW7,aW9,aXa]);omega) (s1 (ai (by show _≤9223372036854775807;(try simp only[aW7,aW9,aXa]);omega) (ai (by show _≤9223372036854775807;(try simp only[aW7,aW9,aXa]);omega) (s1 (rt (bN rfl ?_))))))
 rfl
set_option maxHeartbeats 800000 in
theorem bq (l:List UInt8) (f:Int) (rec:List UInt8) (hl:l.length≤140737488355328) (hrec:rec.length≤900000):Sp 172 2 [tV 0 (.e (.agg [.d (.s l),.d (.i f)])),tD 1 (.s rec)] [tV 0 (.tup [.agg [.d (.s (bJ l f rec).1.1),.d (.i (bJ l f rec).1.2)],.c (.d (.b (bJ l f rec).2))])]:=by
 refine sb Tryz.func172 rfl (sq (rT [1,2,4] (s3 (sq (sq (rT [1,2,4,8] (s1 (xp (oE l f hl) (ai rfl ?_)))))))))
 refine s1 (cd rfl (fun c8=> ?_) fun c8=> ?_)
 · have hr:bJ l f rec=(([],0),false):=mh (by simpa using c8)
   refine sq (rT [4,5] (s3 (rt (bG rfl rfl ?_))))
   rw[hr]
   rfl
 have hok:dA l f=true:=by simpa using c8
 have hl2:=(iC hok).1
 have hst:=nZ hrec
 refine sk (sq (sq (rD [1,2,4,22] (s1 (xp (ng rec) (ai rfl ?_))))))
 refine s2 (y4 (xc (fun h=>(xQ rec hrec)) (ai rfl (ai rk ?_))))
 refine y3 (ai pk (ai (by kernel_rfl) (cd rfl (fun c22=> ?_) fun c22=> ?_)))
 · have hr:bJ l f rec=((l,f),false):=wJ hok (fun h9=>by have:=(mj c22 hl2 (by omega)).1 h9;cases this)
   refine sq (rT [4,5] (s3 (rt (bG rfl rfl ?_))))
   rw[hr]
   rfl
 have hr:bJ l f rec=((l++cU rec,f),true):=qY hok ((mj c22 hl2 (by omega)).2 rfl)
 refine sk (sq (rD [4,5] (s3 (xp (xQ rec hrec) (ai rfl ?_)))))
 refine ai (by show _≤9223372036854775807;(try simp only[aW7,aW9,aXa]);omega) (s5 (ai (by kernel_rfl) (rt (bG rfl rfl ?_))))
 rw[hr]
 rfl
set_option maxHeartbeats 800000 in
theorem tY (l:List UInt8) (f:Int) (rec:List UInt8) (hl:l.length≤140737488355328) (hrec:rec.length≤900000):Sp 79 2 [tV 0 (.e (.agg [.d (.s l),.d (.i f)])),tD 1 (.s rec)] [tV 0 (.tup [.agg [.d (.s (bJ l f rec).1.1),.d (.i (bJ l f rec).1.2)],.c (.d (.b (bJ l f rec).2))])]:=by
 refine sb Tryz.func79 rfl (sq (rT [1,2,4] (s3 (sq (sq (rT [1,2,4,8] (s1 (xp (oF l f hl) (ai rfl ?_)))))))))
 refine s1 (cd rfl (fun c8=> ?_) fun c8=> ?_)
 · have hr:bJ l f rec=(([],0),false):=mh (by simpa using c8)
   refine sq (rT [4,5] (s3 (rt (bG rfl rfl ?_))))
   rw[hr]
   rfl
 have hok:dA l f=true:=by simpa using c8
 have hl2:=(iC hok).1
 have hst:=nZ hrec
 refine sk (sq (sq (rD [1,2,4,22] (s1 (xp (bp rec) (ai rfl ?_))))))
 refine s2 (y4 (xc (fun h=>(pE rec hrec)) (ai rfl (ai rk ?_))))
 refine y3 (ai pk (ai (by kernel_rfl) (cd rfl (fun c22=> ?_) fun c22=> ?_)))
 · have hr:bJ l f rec=((l,f),false):=wJ hok (fun h9=>by have:=(mj c22 hl2 (by omega)).1 h9;cases this)
   refine sq (rT [4,5] (s3 (rt (bG rfl rfl ?_))))
   rw[hr]
   rfl
 have hr:bJ l f rec=((l++cU rec,f),true):=qY hok ((mj c22 hl2 (by omega)).2 rfl)
 refine sk (sq (rD [4,5] (s3 (xp (pE rec hrec) (ai rfl ?_)))))
 refine ai (by show _≤9223372036854775807;(try simp only[aW7,aW9,aXa]);omega) (s5 (ai (by kernel_rfl) (rt (bG rfl rfl ?_))))
 rw[hr]
 rfl
set_option maxHeartbeats 800000 in
theorem yL (l:List UInt8) (f:Int) (recs:List (List UInt8)) (hl:l.length≤140737488355328) (hn:recs.length≤900000) (hrec: ∀r∈recs,r.length≤900000):Sp 86 2 [tV 0 (.e (.agg [.d (.s l),.d (.i f)])),tD 1 (.sl (bB recs))] [tV 0 (.tup [.agg [.d (.s (eE l f recs).1.1),.d (.i (eE l f recs).1.2)],.c (.d (.b (eE l f recs).2))])]:=by
 refine sb Tryz.func86 rfl (sq (rT [1,2,4] (s3 (sq (sq (rT [1,2,4,10] (s1 (xp (oF l f hl) (ai rfl ?_)))))))))
 refine s1 (cd rfl (fun c10=> ?_) fun c10=> ?_)
 · have hr:eE l f recs=(([],0),false):=gh (by simpa using c10)
   refine sq (rT [4,5] (s3 (rt (bG rfl rfl ?_))))
   rw[hr]
   rfl
 have hok:dA l f=true:=by simpa using c10
 refine sk (sq (rT [1,2,4,6] (s1 (sq (sq (rT [1,2,4,6,7] (s1 (bk (SW.loopW (n:=recs.length) (fun m q=> ∃i:Nat,m=recs.length - i∧i≤recs.length∧(∀k,k<i→iY (recs.getD k [])=true)∧q=[tP 2 2,tP 4 4,tD 1 (.sl (bB recs)),tD 6 (.s (dD (recs.take (i)))),tI 7 (i:Nat),oB 2 24 [.d (.s l),.d (.i f)],oB 4 24 [.d (.s []),.d (.i 0)]]) ?_ ?_)))))))))
 · refine wq (σ':=[tP 2 2,tP 4 4,tD 1 (.sl (bB recs)),tD 6 (.s (dD (recs.take (0)))),tI 7 (0:Nat),oB 2 24 [.d (.s l),.d (.i f)],oB 4 24 [.d (.s []),.d (.i 0)]]) [] [] (⟨0,rfl,aXd _,fun k h=>absurd h (by omega),rfl⟩) ?_
   repeat' apply ai
   all_goals first|exact qx|rfl|exact qz
 rintro n s ⟨i,rfl,hi,hk,rfl⟩
 refine sq (sq (rT [1,2,4,6,7,15] (s4 (cd rfl (fun c15=> ?_) fun c15=> ?_))))
 · have hi2:i<recs.length:=by simpa[aL] using c15
   have hg:=fV (l:=recs) hi2
   have hmem: (recs.getD i [])∈recs:=dB hi2
   have hrq:=hrec _ hmem
   have hpt:=mi hi2
   have hple:=xr recs i
   have hps:=xJ hrec
   have hsl:=nZ hrq
   refine sk (sq (bk (sq (sq (rT [1,2,4,6,7,23] (s2 (ai (by rw[aW6,hg];exact⟨⟨by omega,by rw[aL];omega⟩,rfl⟩) (ai (by rw[aW6,hg];exact⟨aW8 rfl,rfl⟩) (xp (bp (recs.getD i [])) (ai (by rw[aW6,hg];rfl) ?_))))))))))
   refine s1 (cd rfl (fun c23=> ?_) fun c23=> ?_)
   · have hs:iY (recs.getD i [])=false:=by
      simpa using c23
     have hr:eE l f recs=((l,f),false):=uK hok (fun h9=>aGp hi2 hs h9.1)
     refine sq (rT [4,5] (s3 (rt (bG rfl rfl ?_))))
     rw[hr]
     rfl
   refine sk (rT [1,2,4,6,7] (s3 (ai (by rw[aW6,hg];exact⟨⟨by omega,by rw[aL];omega⟩,rfl⟩) (ai (by rw[aW6,hg];exact⟨aW8 rfl,rfl⟩) (xp (pE (recs.getD i []) hrq) (ai (by rw[aW6,hg];rfl) ?_))))))
   refine ai (by show _≤9223372036854775807;(try simp only[aW7,aW9,aXa]);omega) (s1 (rT [1,2,4,6,7] (s3 ?_)))
   have hs:iY (recs.getD i [])=true:=by
    simpa using c23
   refine wq [] [] (⟨recs.length - (i+1),by omega,i+1,rfl,by omega,fun k h=>by by_cases e:k=i;exact e▸hs;exact hk k (by omega),rfl⟩) ?_
   repeat' apply ai
   all_goals first|exact qx|exact congrArg D.i (by rw[aB (by omega)];omega)|(rw[hpt];done)|(rw[hpt,aW6,hg];rfl)|omega|exact qz
 have hi3:i=recs.length:=by simp[aL] at c15;omega
 subst hi3
 have hall:=aCk hk
 rw[aXn]
 refine xt (sq (sq (rT [2,4,6,34] (s3 (cd rfl (fun c34=> ?_) fun c34=> ?_)))))
 · have hr:eE l f recs=((l,f),false):=uK hok (fun h9=>by have h8:=of_decide_eq_true c34;omega)
   refine sq (rT [4,5] (s3 (rt (bG rfl rfl ?_))))
   rw[hr]
   rfl
 have hr:=xI hok ⟨hall,by have h8:=of_decide_eq_false c34;omega⟩
 refine sk (sq (rT [4,5] (s6 (rt (bG rfl rfl ?_)))))
 rw[hr]
 rfl
set_option maxHeartbeats 800000 in
theorem ql (l:List UInt8) (f:Int) (recs:List (List UInt8)) (hl:l.length≤140737488355328) (hn:recs.length≤900000) (hrec: ∀r∈recs,r.length≤900000):Sp 88 2 [tV 0 (.e (.agg [.d (.s l),.d (.i f)])),tD 1 (.sl (bB recs))] [tV 0 (.tup [.agg [.d (.s (eE l f recs).1.1),.d (.i (eE l f recs).1.2)],.c (.d (.b (eE l f recs).2))])]:=by
 refine sb Tryz.func88 rfl (sq (rT [1,2,4] (s3 (sq (sq (rT [1,2,4,11] (s1 (xp (oE l f hl) (ai rfl ?_)))))))))
 refine s1 (cd rfl (fun c11=> ?_) fun c11=> ?_)
 · have hr:eE l f recs=(([],0),false):=gh (by simpa using c11)
   refine sq (rT [4,5] (s3 (rt (bG rfl rfl ?_))))
   rw[hr]
   rfl
 have hok:dA l f=true:=by simpa using c11
 refine sk (sq (rT [1,2,4,6] (s1 (sq (sq (rT [2,4,6,13,14,15] (s3 (bk (SW.loopW (n:=recs.length) (fun m q=> ∃i:Nat,m=recs.length - i∧i≤recs.length∧(∀k,k<i→iY (recs.getD k [])=true)∧q=[tP 2 2,tP 4 4,tD 6 (.s (dD (recs.take (i)))),tD 13 (.sl (bB recs)),tI 14 (recs.length:Nat),tI 15 (i:Nat),oB 2 24 [.d (.s l),.d (.i f)],oB 4 24 [.d (.s []),.d (.i 0)]]) ?_ ?_)))))))))
 · refine wq (σ':=[tP 2 2,tP 4 4,tD 6 (.s (dD (recs.take (0)))),tD 13 (.sl (bB recs)),tI 14 (recs.length:Nat),tI 15 (0:Nat),oB 2 24 [.d (.s l),.d (.i f)],oB 4 24 [.d (.s []),.d (.i 0)]]) [] [] (⟨0,rfl,aXd _,fun k h=>absurd h (by omega),rfl⟩) ?_
   repeat' apply ai
   all_goals first|exact qx|rfl|(rw[aL];done)|exact qz
 rintro n s ⟨i,rfl,hi,hk,rfl⟩
 refine sq (rT [2,4,6,13,14,15,16] (s1 (sq (cd rfl (fun c16=> ?_) fun c16=> ?_))))
 · have hi2:i<recs.length:=by simp at c16;omega
   have hg:=fV (l:=recs) hi2
   have hmem: (recs.getD i [])∈recs:=dB hi2
   have hrq:=hrec _ hmem
   have hpt:=mi hi2
   have hple:=xr recs i
   have hps:=xJ hrec
   have hsl:=nZ hrq
   refine sk (sq (bk (sq (rT [2,4,6,8,13,14,15] (ai (by rw[aW6,hg];exact⟨⟨by omega,by rw[aL];omega⟩,rfl⟩) (ai (by rw[aW6,hg];exact⟨aW8 rfl,rfl⟩) (s1 (sq (sq (wa [tP 2 2,tP 4 4,tD 6 (.s (dD (recs.take i))),tD 8 (.s (recs.getD i [])),tD 13 (.sl (bB recs)),tI 14 (recs.length:Nat),tI 15 (i:Nat),oB 2 24 [.d (.s l),.d (.i f)],oB 4 24 [.d (.s []),.d (.i 0)]] [] [] ?_ ?_))))))))))
   · repeat' apply ai
     all_goals first|exact qx|(rw[aW6,hg];rfl)|exact qz
   refine rT [2,4,6,8,13,14,15,26] (s1 (xp (ng (recs.getD i [])) (ai rfl ?_)))
   refine s2 (y3 (ai pk (cd rfl (fun c26=> ?_) fun c26=> ?_)))
   · have hr:eE l f recs=((l,f),false):=uK hok (fun h9=>by
      rcases aMt c26 with h8|h8
      · exact aGp hi2 h8 h9.1
      · omega)
     refine sq (rT [4,5] (s3 (rt (bG rfl rfl ?_))))
     rw[hr]
     rfl
   refine sk (rT [2,4,6,13,14,15] (s2 (xp (xQ (recs.getD i []) hrq) (ai rfl ?_))))
   refine ai (by show _≤9223372036854775807;(try simp only[aW7,aW9,aXa]);omega) (s1 (rT [2,4,6,13,14,15] (s2 ?_)))
   have hs:iY (recs.getD i [])=true:=(aPk c26).1
   refine wq [] [] (⟨recs.length - (i+1),by omega,i+1,rfl,by omega,fun k h=>by by_cases e:k=i;exact e▸hs;exact hk k (by omega),rfl⟩) ?_
   repeat' apply ai
   all_goals first|exact qx|exact congrArg D.i (by rw[aB (by omega)];omega)|(rw[hpt];done)|(rw[hpt,aW6,hg];rfl)|omega|exact qz
 have hi3:i=recs.length:=by simp[aL] at c16;omega
 subst hi3
 have hall:=aCk hk
 rw[aXn]
 refine xt (sq (sq (rT [2,4,6,35] (s3 (cd rfl (fun c35=> ?_) fun c35=> ?_)))))
 · have hr:eE l f recs=((l,f),false):=uK hok (fun h9=>by have h8:=of_decide_eq_true c35;omega)
   refine sq (rT [4,5] (s3 (rt (bG rfl rfl ?_))))
   rw[hr]
   rfl
 have hr:=xI hok ⟨hall,by have h8:=of_decide_eq_false c35;omega⟩
 refine sk (sq (rT [4,5] (s6 (rt (bG rfl rfl ?_)))))
 rw[hr]
 rfl
theorem br (a b c:Int) (h: (0≤a∧a≤1000000)∧(0≤b∧b≤1000000)∧(0≤c∧c≤1000000)):Sp 110 3 [tI 0 a,tI 1 b,tI 2 c] [tD 0 (.s (jZ a.toNat++[32]++jZ b.toNat++[32]++jZ c.toNat))]:=by
 have q1:=bS (k:=6) (n:=a.toNat) (by simp;omega)
 have q2:=bS (k:=6) (n:=b.toNat) (by simp;omega)
 have q3:=bS (k:=6) (n:=c.toNat) (by simp;omega)
 refine sb Tryz.func110 rfl (sq (rT [0,1,2] (s1 (sq (rT [6] (s1 (xp (kP a h.1) (ai rfl ?_))))))))
 refine ai (by show _≤9223372036854775807;(try simp only[aW7,aW9,aXa]);omega) (s1 (xp (kP b h.2.1) (ai rfl ?_)))
 refine ai (by show _≤9223372036854775807;(try simp only[aW7,aW9,aXa]);omega) (ai (by show _≤9223372036854775807;(try simp only[aW7,aW9,aXa]);omega) (s1 (xp (kP c h.2.2) (ai rfl ?_))))
 refine ai (by show _≤9223372036854775807;(try simp only[aW7,aW9,aXa]);omega) (s1 (rt (bN rfl ?_)))
 rfl
theorem yM (w:List UInt8) (a b c:Int) (h: (0≤a∧a≤1000000)∧(0≤b∧b≤1000000)∧(0≤c∧c≤1000000)) (hw:w.length≤900000):Sp 91 4 [tD 0 (.s w),tI 1 a,tI 2 b,tI 3 c] [tD 0 (.s (iE w ⟨a,b,c⟩))]:=by
 have q1:=bS (k:=6) (n:=a.toNat) (by simp;omega)
 have q2:=bS (k:=6) (n:=b.toNat) (by simp;omega)
 have q3:=bS (k:=6) (n:=c.toNat) (by simp;omega)
 refine sb Tryz.func91 rfl (sq (rT [0,1,2,3] (s1 (sq (rT [8] (s1 (ai (by show _≤9223372036854775807;(try simp only[aW7,aW9,aXa]);omega) (s1 (xp (uR a h.1) (ai rfl ?_))))))))))
 refine ai (by show _≤9223372036854775807;(try simp only[aW7,aW9,aXa]);omega) (ai (by show _≤9223372036854775807;(try simp only[aW7,aW9,aXa]);omega) (s1 (xp (uR b h.2.1) (ai rfl ?_))))
 refine ai (by show _≤9223372036854775807;(try simp only[aW7,aW9,aXa]);omega) (ai (by show _≤9223372036854775807;(try simp only[aW7,aW9,aXa]);omega) (s1 (xp (uR c h.2.2) (ai rfl ?_))))
 refine ai (by show _≤9223372036854775807;(try simp only[aW7,aW9,aXa]);omega) (s1 (rt (bN rfl ?_)))
 rfl
set_option maxHeartbeats 1600000 in
theorem jj (k:aH) (hb:k.halves.length≤100000∧ ∀x∈k.halves,x.got.length≤100000):Sp 82 1 [tV 0 k.V] [tV 0 (.e (.agg [.d (.i k.id),.d (.b k.up),.d (.s k.log),.d (.i k.forced),.own 0 k.halves.length])),oR 0 85 6 (aY k.halves)]:=by
 refine sb Tryz.func82 rfl (sq (rT [1,2] (s2 (sq (rT [1,2,3] (s2 (sq (sq (rT [1,2,3,4] (s1 (bk (SW.loopW (n:=k.halves.length) (fun m q=> ∃i:Nat,m=k.halves.length - i∧i≤k.halves.length∧q=[tP 1 1,tP 2 2,tO 3 6 (k.halves.take (i)).length,tI 4 (i:Nat),oB 1 27 [.d (.i (k).id),.d (.b (k).up),.d (.s (k).log),.d (.i (k).forced),.d (.sl (aY (k).halves))],oB 2 27 [.d (.i 0),.d (.b false),.d (.s []),.d (.i 0),.nil],oR 6 85 6 (aY (k.halves.take (i)))]) ?_ ?_))))))))))))
 · refine wq (σ':=[tP 1 1,tP 2 2,tO 3 6 (k.halves.take (0)).length,tI 4 (0:Nat),oB 1 27 [.d (.i (k).id),.d (.b (k).up),.d (.s (k).log),.d (.i (k).forced),.d (.sl (aY (k).halves))],oB 2 27 [.d (.i 0),.d (.b false),.d (.s []),.d (.i 0),.nil],oR 6 85 6 (aY (k.halves.take (0)))]) [] [] (⟨0,rfl,aXd _,rfl⟩) ?_
   repeat' apply ai
   all_goals first|exact qx|rfl|exact qz
 rintro n s ⟨i,rfl,hi,rfl⟩
 refine sq (sq (rT [1,2,3,4,11] (s5 (cd rfl (fun c11=> ?_) fun c11=> ?_))))
 · have hi2:i<k.halves.length:=by simpa[aF] using c11
   have hg:=gE (l:=k.halves) hi2
   have hmem:k.halves.getD i .zero∈k.halves:=dB hi2
   refine sk (sq (bk (sq (rT [1,2,3,4,5] (s3 (ai (by rw[aW6,hg];exact⟨⟨by omega,by rw[aF];omega⟩,rfl⟩) (ai (by rw[aW6,hg];exact⟨aW8 rfl,rfl⟩) (s2 (sq (wa [tP 1 1,tP 2 2,tO 3 6 (k.halves.take i).length,tI 4 (i:Nat),tP 5 5,oB 1 27 [.d (.i (k).id),.d (.b (k).up),.d (.s (k).log),.d (.i (k).forced),.d (.sl (aY (k).halves))],oB 2 27 [.d (.i 0),.d (.b false),.d (.s []),.d (.i 0),.nil],oB 5 85 [.d (.i (k.halves.getD i .zero).frm),.d (.i (k.halves.getD i .zero).num),.d (.i (k.halves.getD i .zero).to),.d (.i (k.halves.getD i .zero).til),.d (.i (k.halves.getD i .zero).size),.d (.sl (cM (k.halves.getD i .zero).got))],oR 6 85 6 (aY (k.halves.take i))] [] [] ?_ ?_))))))))))
   · repeat' apply ai
     all_goals first|exact qx|(rw[aW6,hg];rfl)|exact qz
   refine rT [1,2,3,4,5] (ai (by simp) (s2 (ai (by refine⟨trivial,rfl,?_,?_⟩<;>first|exact qU _|(simp only[bI,aXa,Nat.zero_add];have:=hb.2 _ hmem;show _*24≤_;omega)) (s2 (wa [tP 1 1,tP 2 2,tO 3 6 (k.halves.take i).length,tI 4 (i:Nat),tP 5 5,oB 1 27 [.d (.i (k).id),.d (.b (k).up),.d (.s (k).log),.d (.i (k).forced),.d (.sl (aY (k).halves))],oB 2 27 [.d (.i 0),.d (.b false),.d (.s []),.d (.i 0),.nil],oB 5 85 [.d (.i (k.halves.getD i .zero).frm),.d (.i (k.halves.getD i .zero).num),.d (.i (k.halves.getD i .zero).to),.d (.i (k.halves.getD i .zero).til),.d (.i (k.halves.getD i .zero).size),.d (.sl (cM (k.halves.getD i .zero).got))],oR 6 85 6 (aY (k.halves.take i))] [] [19] ?_ ?_)))))
   · repeat' apply ai
     all_goals first|exact qx|(simp[bI];done)|rfl|exact qz
   refine rT [1,2,3,4] (s2 (ai (by exact⟨by simp,aW8 rfl⟩) (ai (by exact⟨rfl,aF _,by intro r hr;rw[aXo.1 hr];rfl,by simp only[aW7,aW9,aXa,aF,aXc];show _*64≤_;omega⟩) (s1 (rT [1,2,3,4] (s3 ?_))))))
   have hts:=eP (z:=dR.zero) hi2
   refine wq [] [] (⟨k.halves.length - (i+1),by omega,i+1,rfl,by omega,rfl⟩) ?_
   repeat' apply ai
   all_goals first|exact qx|exact congrArg D.i (by rw[aB (by omega)];omega)|(rw[hts,aW7];rfl)|(rw[hts];simp only[aY,List.map_append,List.map_cons,List.map_nil];rfl)|(rw[aF];done)|(simp[aF];done)|(simp[aF,aXc];omega)|exact qz
 have hi3:i=k.halves.length:=by simp[aF] at c11;omega
 subst hi3
 refine xt (sq (rT [1,2] (s3 (sq (rT [2] (s2 (rt ?_)))))))
 rw[aXn]
 exact eA _ [(0,6)] [] rfl (dX rfl (aD rfl (aD rfl (aD rfl (aD rfl (bQ rfl rfl rfl aJ))))) (bV rfl rfl trivial)) rfl rfl
theorem gC (k:aH) (hb:k.halves.length≤100000∧ ∀x∈k.halves,x.got.length≤100000):Ab.Spec Tryz.prog 82 1 [(.t 0,.v k.V)] [(.t 0,.v k.V)]:=
 Spec.told (rl:=[]) (bor:=[0]) (jj k hb) (dX rfl (aD rfl (aD rfl (aD rfl (aD rfl (aLp rfl rfl (aF _) rfl aJ))))) trivial) rfl rfl
set_option maxHeartbeats 3200000 in
theorem bs (k:bC) (hk:KB k):Sp 87 1 [tV 0 k.V] [tD 0 (.sl (bB (eH k)))]:=by
 refine sb Tryz.func87 rfl (sq (rT [1] (s2 (sq (rT [1,3] (s2 (sq (sq (rT [1,3,11] (s1 (xp (xM k hk.1 hk.2.1 hk.2.2) (ai rfl ?_))))))))))))
 refine s1 (cd rfl (fun c11=> ?_) fun c11=> ?_)
 · have hno: ¬dC k=true:=by simpa using c11
   refine sq (rT [2] (s2 (rt (eA _ [] [8] rfl (eW rfl rfl rfl ?_ (congrArg D.sl ?_) trivial) rfl rfl))))
   · rfl
   rw[cz hno];rfl
 have hok:dC k=true:=by simpa using c11
 have h6:=eZ hok
 obtain⟨⟨_,ht,hn,_,_,_⟩,_⟩:=(cB k).1 hok
 have q1:=bS (k:=6) (n:=k.time.toNat) (by simp;omega)
 have q2:=bS (k:=6) (n:=k.next.toNat) (by simp;omega)
 have hnl:=ya k
 refine sk (SW.midW (fun q=>q=[tP 1 1,tO 3 8 (vP k).length,oB 1 32 [.d (.i k.id),.d (.i k.time),.d (.i k.next),.d (.sl (aE k.held)),.d (.sl (aP k.marks)),.d (.sl (aE k.inbox))],oR 8 9 1 (bB (vP k))]) ?_ ?_)
 · refine sq (rT [1,3,15] (s3 (cd rfl (fun c15=> ?_) fun c15=> ?_)))
   · have hq:=aCl (of_decide_eq_true c15)
     refine rT [1,3] (s3 (xp (kP k.time (by omega)) (ai rfl ?_)))
     refine ai (by show _≤9223372036854775807;(try simp only[aW7,aW9,aXa]);omega) (s1 (ai (by exact⟨rfl,rfl,by simp,by show(0+1)*16≤_;omega⟩) (s1 (wq [] [] (rfl) ?_))))
     repeat' apply ai
     all_goals first|exact qx|exact congrArg D.i (by rw[aB (by omega)];omega)|(rw[hq];done)|(rw[hq];rfl)|(rw[hq,aW7];rfl)|(rw[hq,aW7];done)|(rw[hq];simp[aL];done)|(rw[hq];exact fC _ _)|(rw[aL];done)|(simp[aL];done)|exact qz
   have hq:=aGq (of_decide_eq_false c15)
   refine sk (wq [] [] (rfl) ?_)
   repeat' apply ai
   all_goals first|exact qx|exact congrArg D.i (by rw[aB (by omega)];omega)|(rw[hq];done)|(rw[hq];rfl)|(rw[hq,aW7];rfl)|(rw[hq,aW7];done)|(rw[hq];simp[aL];done)|(rw[hq];exact fC _ _)|(rw[aL];done)|(simp[aL];done)|exact qz
 rintro s rfl
 refine SW.midW (fun q=>q=[tP 1 1,tO 3 8 (yJ k).length,oB 1 32 [.d (.i k.id),.d (.i k.time),.d (.i k.next),.d (.sl (aE k.held)),.d (.sl (aP k.marks)),.d (.sl (aE k.inbox))],oR 8 9 1 (bB (yJ k))]) ?_ ?_
 · refine sq (rT [1,3,25] (s3 (cd rfl (fun c25=> ?_) fun c25=> ?_)))
   · have hq:=aCm (of_decide_eq_true c25)
     have hnl2: (vP k).length≤1:=by unfold vP;split<;>simp
     refine rT [1,3] (s3 (xp (kP k.next (by omega)) (ai rfl ?_)))
     refine ai (by show _≤9223372036854775807;(try simp only[aW7,aW9,aXa]);omega) (s1 (ai (by refine⟨rfl,aL _,by simp,?_⟩;skip;show(_+1)*16≤_;omega) (s1 (wq [] [] (rfl) ?_))))
     repeat' apply ai
     all_goals first|exact qx|exact congrArg D.i (by rw[aB (by omega)];omega)|(rw[hq];done)|(rw[hq];rfl)|(rw[hq,aW7];rfl)|(rw[hq,aW7];done)|(rw[hq];simp[aL];done)|(rw[hq];exact fC _ _)|(rw[aL];done)|(simp[aL];done)|exact qz
   have hq:=aGr (of_decide_eq_false c25)
   refine sk (wq [] [] (rfl) ?_)
   repeat' apply ai
   all_goals first|exact qx|exact congrArg D.i (by rw[aB (by omega)];omega)|(rw[hq];done)|(rw[hq];rfl)|(rw[hq,aW7];rfl)|(rw[hq,aW7];done)|(rw[hq];simp[aL];done)|(rw[hq];exact fC _ _)|(rw[aL];done)|(simp[aL];done)|exact qz
 rintro s rfl
 refine sq (sq (rT [1,3,4] (s1 (bk (SW.loopW (n:=k.marks.length) (fun m q=> ∃i:Nat,m=k.marks.length - i∧i≤k.marks.length∧q=[tP 1 1,tO 3 8 (oU k (i)).length,tI 4 (i:Nat),oB 1 32 [.d (.i k.id),.d (.i k.time),.d (.i k.next),.d (.sl (aE k.held)),.d (.sl (aP k.marks)),.d (.sl (aE k.inbox))],oR 8 9 1 (bB (oU k (i)))]) ?_ ?_)))))
 · refine wq (σ':=[tP 1 1,tO 3 8 (oU k (0)).length,tI 4 (0:Nat),oB 1 32 [.d (.i k.id),.d (.i k.time),.d (.i k.next),.d (.sl (aE k.held)),.d (.sl (aP k.marks)),.d (.sl (aE k.inbox))],oR 8 9 1 (bB (oU k (0)))]) [] [] (⟨0,rfl,aXd _,rfl⟩) ?_
   repeat' apply ai
   all_goals first|exact qx|rfl|(rw[xu];done)|(rw[aN];done)|(rw[aC];done)|exact qz
 rintro n s ⟨i,rfl,hi,rfl⟩
 refine sq (sq (rT [1,3,4,37] (s5 (cd rfl (fun c37=> ?_) fun c37=> ?_))))
 · have hi2:i<k.marks.length:=by simp[aN] at c37;omega
   have hg:=bX (l:=k.marks) hi2
   have hms:=yd hok hi2
   have hml:=yb k i
   have w1:=bS (k:=6) (n:=(k.marks.getD i .zero).frm.toNat) (by show _<10000000;omega)
   have w2:=bS (k:=6) (n:=(k.marks.getD i .zero).num.toNat) (by show _<10000000;omega)
   have w3:=bS (k:=6) (n:=(k.marks.getD i .zero).til.toNat) (by show _<10000000;omega)
   refine sk (sq (bk (sq (rT [1,3,4,5] (s3 (ai (by rw[aW6,hg];exact⟨⟨by omega,by rw[aN];omega⟩,rfl⟩) (ai (by rw[aW6,hg];exact⟨aW8 rfl,rfl⟩) (s2 (wa [tP 1 1,tO 3 8 (oU k i).length,tI 4 (i:Nat),tP 5 5,oB 1 32 [.d (.i k.id),.d (.i k.time),.d (.i k.next),.d (.sl (aE k.held)),.d (.sl (aP k.marks)),.d (.sl (aE k.inbox))],oB 5 112 [.d (.i ((k.marks.getD i .zero)).frm),.d (.i ((k.marks.getD i .zero)).num),.d (.i ((k.marks.getD i .zero)).til)],oR 8 9 1 (bB (oU k i))] [] [] ?_ ?_)))))))))
   · repeat' apply ai
     all_goals first|exact qx|(rw[aW6,hg];rfl)|exact qz
   refine rD [1,3,4] (s3 (xp (kP (k.marks.getD i .zero).frm (by omega)) (ai rfl ?_)))
   refine ai (by show _≤9223372036854775807;(try simp only[aW7,aW9,aXa]);omega) (ai (by show _≤9223372036854775807;(try simp only[aW7,aW9,aXa]);omega) (s2 (xp (kP (k.marks.getD i .zero).num (by omega)) (ai rfl ?_))))
   refine ai (by show _≤9223372036854775807;(try simp only[aW7,aW9,aXa]);omega) (ai (by show _≤9223372036854775807;(try simp only[aW7,aW9,aXa]);omega) (s2 (xp (kP (k.marks.getD i .zero).til (by omega)) (ai rfl ?_))))
   refine ai (by show _≤9223372036854775807;(try simp only[aW7,aW9,aXa]);omega) (s1 (ai (by refine⟨rfl,aL _,by simp,?_⟩;skip;show(_+1)*16≤_;omega) (s1 (ai (by kernel_rfl) (rT [1,3,4] (s3 ?_))))))
   have hq:=xx hi2
   refine wq [] [] (⟨k.marks.length - (i+1),by omega,i+1,rfl,by omega,rfl⟩) ?_
   repeat' apply ai
   all_goals first|exact qx|exact congrArg D.i (by rw[aB (by omega)];omega)|(rw[hq];done)|(rw[hq];rfl)|(rw[hq,aW7];rfl)|(rw[hq,aW7];done)|(rw[hq];simp[aL];done)|(rw[hq];exact fC _ _)|(rw[aL];done)|(simp[aL];done)|exact qz
 have hi3:i=k.marks.length:=by simp[aN] at c37;omega
 subst hi3
 clear hi
 refine xt (sq (sq (rT [1,3,6] (s1 (bk (SW.loopW (n:=k.held.length) (fun m q=> ∃i:Nat,m=k.held.length - i∧i≤k.held.length∧q=[tP 1 1,tO 3 8 (pY k (i)).length,tI 6 (i:Nat),oB 1 32 [.d (.i k.id),.d (.i k.time),.d (.i k.next),.d (.sl (aE k.held)),.d (.sl (aP k.marks)),.d (.sl (aE k.inbox))],oR 8 9 1 (bB (pY k (i)))]) ?_ ?_))))))
 · refine wq (σ':=[tP 1 1,tO 3 8 (pY k (0)).length,tI 6 (0:Nat),oB 1 32 [.d (.i k.id),.d (.i k.time),.d (.i k.next),.d (.sl (aE k.held)),.d (.sl (aP k.marks)),.d (.sl (aE k.inbox))],oR 8 9 1 (bB (pY k (0)))]) [] [] (⟨0,rfl,aXd _,rfl⟩) ?_
   repeat' apply ai
   all_goals first|exact qx|rfl|(rw[xv];done)|(rw[aN];done)|(rw[aC];done)|exact qz
 rintro n s ⟨i,rfl,hi,rfl⟩
 refine sq (sq (rT [1,3,6,66] (s5 (cd rfl (fun c66=> ?_) fun c66=> ?_))))
 · have hi2:i<k.held.length:=by simp[aC] at c66;omega
   have hg:=aQ (l:=k.held) hi2
   have hmem: (k.held.getD i .zero)∈k.held:=dB hi2
   have hnt:=hk.2.1 _ hmem
   have hwl:=lO (k.held.getD i .zero)
   have hml:=yc k i
   refine sk (sq (bk (rT [1,3,6] (s4 (ai (by rw[aW6,hg];exact⟨⟨by omega,by rw[aC];omega⟩,rfl⟩) (ai (by rw[aW6,hg];exact⟨aW8 rfl,rfl⟩) (xp (kK (k.held.getD i .zero) hnt) (ai (by rw[aW6,hg];rfl) ?_))))))))
   refine ai (by show _≤9223372036854775807;(try simp only[aW7,aW9,aXa]);omega) (s1 (ai (by refine⟨rfl,aL _,by simp,?_⟩;skip;show(_+1)*16≤_;omega) (s1 (rT [1,3,6] (s3 ?_)))))
   have hq:=xy hi2
   refine wq [] [] (⟨k.held.length - (i+1),by omega,i+1,rfl,by omega,rfl⟩) ?_
   repeat' apply ai
   all_goals first|exact qx|exact congrArg D.i (by rw[aB (by omega)];omega)|(rw[hq];done)|(rw[hq];rfl)|(rw[hq,aW7];rfl)|(rw[hq,aW7];done)|(rw[hq];simp[aL];done)|(rw[hq];exact fC _ _)|(rw[aL];done)|(simp[aL];done)|exact qz
 have hi3:i=k.held.length:=by simp[aC] at c66;omega
 subst hi3
 clear hi
 refine xt (sq (sq (rT [1,3,7] (s1 (bk (SW.loopW (n:=k.inbox.length) (fun m q=> ∃i:Nat,m=k.inbox.length - i∧i≤k.inbox.length∧q=[tP 1 1,tO 3 8 (oV k (i)).length,tI 7 (i:Nat),oB 1 32 [.d (.i k.id),.d (.i k.time),.d (.i k.next),.d (.sl (aE k.held)),.d (.sl (aP k.marks)),.d (.sl (aE k.inbox))],oR 8 9 1 (bB (oV k (i)))]) ?_ ?_))))))
 · refine wq (σ':=[tP 1 1,tO 3 8 (oV k (0)).length,tI 7 (0:Nat),oB 1 32 [.d (.i k.id),.d (.i k.time),.d (.i k.next),.d (.sl (aE k.held)),.d (.sl (aP k.marks)),.d (.sl (aE k.inbox))],oR 8 9 1 (bB (oV k (0)))]) [] [] (⟨0,rfl,aXd _,rfl⟩) ?_
   repeat' apply ai
   all_goals first|exact qx|rfl|(rw[xw];done)|(rw[aN];done)|(rw[aC];done)|exact qz
 rintro n s ⟨i,rfl,hi,rfl⟩
 refine sq (sq (rT [1,3,7,83] (s5 (cd rfl (fun c83=> ?_) fun c83=> ?_))))
 · have hi2:i<k.inbox.length:=by simp[aC] at c83;omega
   have hg:=aQ (l:=k.inbox) hi2
   have hmem: (k.inbox.getD i .zero)∈k.inbox:=dB hi2
   have hnt:=hk.2.2 _ hmem
   have hwl:=lO (k.inbox.getD i .zero)
   have hml:=ml k i
   refine sk (sq (bk (rT [1,3,7] (s4 (ai (by rw[aW6,hg];exact⟨⟨by omega,by rw[aC];omega⟩,rfl⟩) (ai (by rw[aW6,hg];exact⟨aW8 rfl,rfl⟩) (xp (kK (k.inbox.getD i .zero) hnt) (ai (by rw[aW6,hg];rfl) ?_))))))))
   refine ai (by show _≤9223372036854775807;(try simp only[aW7,aW9,aXa]);omega) (s1 (ai (by refine⟨rfl,aL _,by simp,?_⟩;skip;show(_+1)*16≤_;omega) (s1 (rT [1,3,7] (s3 ?_)))))
   have hq:=xz hi2
   refine wq [] [] (⟨k.inbox.length - (i+1),by omega,i+1,rfl,by omega,rfl⟩) ?_
   repeat' apply ai
   all_goals first|exact qx|exact congrArg D.i (by rw[aB (by omega)];omega)|(rw[hq];done)|(rw[hq];rfl)|(rw[hq,aW7];rfl)|(rw[hq,aW7];done)|(rw[hq];simp[aL];done)|(rw[hq];exact fC _ _)|(rw[aL];done)|(simp[aL];done)|exact qz
 have hi3:i=k.inbox.length:=by simp[aC] at c83;omega
 subst hi3
 clear hi
 refine xt (sq (rT [2] (s2 (rt (eA _ [] [8] rfl (eW rfl rfl rfl ?_ (congrArg D.sl ?_) trivial) rfl rfl)))))
 · exact aL _
 rw[ae hok]
set_option maxHeartbeats 3200000 in
theorem tt (k:bC) (hk:KB k):Sp 40 1 [tV 0 k.V] [tD 0 (.sl (bB (eH k)))]:=by
 refine sb Tryz.func40 rfl (sq (rT [1] (s2 (sq (sq (rT [1,12] (s1 (xp (xL k hk.2.1 hk.2.2) (ai rfl ?_)))))))))
 refine s1 (cd rfl (fun c12=> ?_) fun c12=> ?_)
 · have hno: ¬dC k=true:=by simpa using c12
   refine sq (rT [2] (s1 (rt (eA _ [] [] rfl (kj rfl (congrArg D.sl ?_) trivial) rfl rfl))))
   rw[cz hno];rfl
 have hok:dC k=true:=by simpa using c12
 have h6:=eZ hok
 obtain⟨⟨_,ht,hn,_,_,_⟩,_⟩:=(cB k).1 hok
 have q1:=bS (k:=6) (n:=k.time.toNat) (by simp;omega)
 have q2:=bS (k:=6) (n:=k.next.toNat) (by simp;omega)
 have hnl:=ya k
 refine sk (sq (rT [1,3] (s1 (SW.midW (fun q=>q=[tP 1 1,tO 3 100 (vP k).length,oB 1 32 [.d (.i k.id),.d (.i k.time),.d (.i k.next),.d (.sl (aE k.held)),.d (.sl (aP k.marks)),.d (.sl (aE k.inbox))],oR 100 9 1 (bB (vP k))]) ?_ ?_))))
 · refine sq (SW.nilOwn 3 100 9 1 rfl rfl (rT [1,3,15] (s3 (cd rfl (fun c15=> ?_) fun c15=> ?_))))
   · have hq:=aCl (of_decide_eq_true c15)
     refine rT [1,3] (s3 (xp (uR k.time (by omega)) (ai rfl ?_)))
     refine ai (by show _≤9223372036854775807;(try simp only[aW7,aW9,aXa]);omega) (s1 (ai (by exact⟨rfl,rfl,by simp,by show(0+1)*16≤_;omega⟩) (s1 (wq [] [] (rfl) ?_))))
     repeat' apply ai
     all_goals first|exact qx|exact congrArg D.i (by rw[aB (by omega)];omega)|(rw[hq];done)|(rw[hq];rfl)|(rw[hq,aW7];rfl)|(rw[hq,aW7];done)|(rw[hq];simp[aL];done)|(rw[hq];exact fC _ _)|(rw[aL];done)|(simp[aL];done)|exact qz
   have hq:=aGq (of_decide_eq_false c15)
   refine sk (wq [] [] (rfl) ?_)
   repeat' apply ai
   all_goals first|exact qx|exact congrArg D.i (by rw[aB (by omega)];omega)|(rw[hq];done)|(rw[hq];rfl)|(rw[hq,aW7];rfl)|(rw[hq,aW7];done)|(rw[hq];simp[aL];done)|(rw[hq];exact fC _ _)|(rw[aL];done)|(simp[aL];done)|exact qz
 rintro s rfl
 refine SW.midW (fun q=>q=[tP 1 1,tO 3 100 (yJ k).length,oB 1 32 [.d (.i k.id),.d (.i k.time),.d (.i k.next),.d (.sl (aE k.held)),.d (.sl (aP k.marks)),.d (.sl (aE k.inbox))],oR 100 9 1 (bB (yJ k))]) ?_ ?_
 · refine sq (rT [1,3,25] (s3 (cd rfl (fun c25=> ?_) fun c25=> ?_)))
   · have hq:=aCm (of_decide_eq_true c25)
     have hnl2: (vP k).length≤1:=by unfold vP;split<;>simp
     refine rT [1,3] (s3 (xp (uR k.next (by omega)) (ai rfl ?_)))
     refine ai (by show _≤9223372036854775807;(try simp only[aW7,aW9,aXa]);omega) (s1 (ai (by refine⟨rfl,aL _,by simp,?_⟩;skip;show(_+1)*16≤_;omega) (s1 (wq [] [] (rfl) ?_))))
     repeat' apply ai
     all_goals first|exact qx|exact congrArg D.i (by rw[aB (by omega)];omega)|(rw[hq];done)|(rw[hq];rfl)|(rw[hq,aW7];rfl)|(rw[hq,aW7];done)|(rw[hq];simp[aL];done)|(rw[hq];exact fC _ _)|(rw[aL];done)|(simp[aL];done)|exact qz
   have hq:=aGr (of_decide_eq_false c25)
   refine sk (wq [] [] (rfl) ?_)
   repeat' apply ai
   all_goals first|exact qx|exact congrArg D.i (by rw[aB (by omega)];omega)|(rw[hq];done)|(rw[hq];rfl)|(rw[hq,aW7];rfl)|(rw[hq,aW7];done)|(rw[hq];simp[aL];done)|(rw[hq];exact fC _ _)|(rw[aL];done)|(simp[aL];done)|exact qz
 rintro s rfl
 refine sq (sq (rT [1,3,34,35,36] (s4 (bk (SW.loopW (n:=k.marks.length) (fun m q=> ∃i:Nat,m=k.marks.length - i∧i≤k.marks.length∧q=[tP 1 1,tO 3 100 (oU k (i)).length,tD 34 (.sl (aP k.marks)),tI 35 (k.marks.length:Nat),tI 36 (i:Nat),oB 1 32 [.d (.i k.id),.d (.i k.time),.d (.i k.next),.d (.sl (aE k.held)),.d (.sl (aP k.marks)),.d (.sl (aE k.inbox))],oR 100 9 1 (bB (oU k (i)))]) ?_ ?_)))))
 · refine wq (σ':=[tP 1 1,tO 3 100 (oU k (0)).length,tD 34 (.sl (aP k.marks)),tI 35 (k.marks.length:Nat),tI 36 (0:Nat),oB 1 32 [.d (.i k.id),.d (.i k.time),.d (.i k.next),.d (.sl (aE k.held)),.d (.sl (aP k.marks)),.d (.sl (aE k.inbox))],oR 100 9 1 (bB (oU k (0)))]) [] [] (⟨0,rfl,aXd _,rfl⟩) ?_
   repeat' apply ai
   all_goals first|exact qx|rfl|(rw[xu];done)|(rw[aN];done)|(rw[aC];done)|exact qz
 rintro n s ⟨i,rfl,hi,rfl⟩
 refine sq (rT [1,3,34,35,36,37] (s1 (sq (cd rfl (fun c37=> ?_) fun c37=> ?_))))
 · have hi2:i<k.marks.length:=by simp[aN] at c37;omega
   have hg:=bX (l:=k.marks) hi2
   have hms:=yd hok hi2
   have hml:=yb k i
   have w1:=bS (k:=6) (n:=(k.marks.getD i .zero).frm.toNat) (by show _<10000000;omega)
   have w2:=bS (k:=6) (n:=(k.marks.getD i .zero).num.toNat) (by show _<10000000;omega)
   have w3:=bS (k:=6) (n:=(k.marks.getD i .zero).til.toNat) (by show _<10000000;omega)
   refine sk (sq (bk (sq (rT [1,3,5,34,35,36] (ai (by rw[aW6,hg];exact⟨⟨by omega,by rw[aN];omega⟩,rfl⟩) (ai (by rw[aW6,hg];exact⟨aW8 rfl,rfl⟩) (s2 (wa [tP 1 1,tO 3 100 (oU k (i)).length,tD 34 (.sl (aP k.marks)),tI 35 (k.marks.length:Nat),tI 36 (i:Nat),tP 5 5,oB 1 32 [.d (.i k.id),.d (.i k.time),.d (.i k.next),.d (.sl (aE k.held)),.d (.sl (aP k.marks)),.d (.sl (aE k.inbox))],oB 5 112 [.d (.i ((k.marks.getD i .zero)).frm),.d (.i ((k.marks.getD i .zero)).num),.d (.i ((k.marks.getD i .zero)).til)],oR 100 9 1 (bB (oU k (i)))] [] [] ?_ ?_))))))))
   · repeat' apply ai
     all_goals first|exact qx|(rw[aW6,hg];rfl)|exact qz
   refine rT [1,3,34,35,36] (s7 (xp (yM iF (k.marks.getD i .zero).frm (k.marks.getD i .zero).num (k.marks.getD i .zero).til (by omega) (by decide)) (ai rfl ?_)))
   refine s1 (ai (by refine⟨rfl,aL _,by simp,?_⟩;skip;show(_+1)*16≤_;omega) (s1 (rT [1,3,34,35,36] (s2 ?_))))
   have hq:=xx hi2
   refine wq [] [] (⟨k.marks.length - (i+1),by omega,i+1,rfl,by omega,rfl⟩) ?_
   repeat' apply ai
   all_goals first|exact qx|exact congrArg D.i (by rw[aB (by omega)];omega)|(rw[hq];done)|(rw[hq];rfl)|(rw[hq,aW7];rfl)|(rw[hq,aW7];done)|(rw[hq];simp[aL];done)|(rw[hq];exact fC _ _)|(rw[aL];done)|(simp[aL];done)|exact qz
 have hi3:i=k.marks.length:=by simp[aN] at c37;omega
 subst hi3
 clear hi
 refine xt (sq (sq (rT [1,3,52,53,54] (s4 (bk (SW.loopW (n:=k.held.length) (fun m q=> ∃i:Nat,m=k.held.length - i∧i≤k.held.length∧q=[tP 1 1,tO 3 100 (pY k (i)).length,tD 52 (.sl (aE k.held)),tI 53 (k.held.length:Nat),tI 54 (i:Nat),oB 1 32 [.d (.i k.id),.d (.i k.time),.d (.i k.next),.d (.sl (aE k.held)),.d (.sl (aP k.marks)),.d (.sl (aE k.inbox))],oR 100 9 1 (bB (pY k (i)))]) ?_ ?_))))))
 · refine wq (σ':=[tP 1 1,tO 3 100 (pY k (0)).length,tD 52 (.sl (aE k.held)),tI 53 (k.held.length:Nat),tI 54 (0:Nat),oB 1 32 [.d (.i k.id),.d (.i k.time),.d (.i k.next),.d (.sl (aE k.held)),.d (.sl (aP k.marks)),.d (.sl (aE k.inbox))],oR 100 9 1 (bB (pY k (0)))]) [] [] (⟨0,rfl,aXd _,rfl⟩) ?_
   repeat' apply ai
   all_goals first|exact qx|rfl|(rw[xv];done)|(rw[aN];done)|(rw[aC];done)|exact qz
 rintro n s ⟨i,rfl,hi,rfl⟩
 refine sq (rT [1,3,52,53,54,55] (s1 (sq (cd rfl (fun c55=> ?_) fun c55=> ?_))))
 · have hi2:i<k.held.length:=by simp[aC] at c55;omega
   have hg:=aQ (l:=k.held) hi2
   have hmem: (k.held.getD i .zero)∈k.held:=dB hi2
   have hnt:=hk.2.1 _ hmem
   have hwl:=lO (k.held.getD i .zero)
   have hml:=yc k i
   refine sk (sq (bk (sq (rT [1,3,7,52,53,54] (ai (by rw[aW6,hg];exact⟨⟨by omega,by rw[aC];omega⟩,rfl⟩) (ai (by rw[aW6,hg];exact⟨aW8 rfl,rfl⟩) (s2 (wa [tP 1 1,tO 3 100 (pY k (i)).length,tD 52 (.sl (aE k.held)),tI 53 (k.held.length:Nat),tI 54 (i:Nat),tP 7 7,oB 1 32 [.d (.i k.id),.d (.i k.time),.d (.i k.next),.d (.sl (aE k.held)),.d (.sl (aP k.marks)),.d (.sl (aE k.inbox))],oB 7 58 [.d (.i ((k.held.getD i .zero)).frm),.d (.i ((k.held.getD i .zero)).num),.d (.i ((k.held.getD i .zero)).to),.d (.i ((k.held.getD i .zero)).til),.d (.s ((k.held.getD i .zero)).text)],oR 100 9 1 (bB (pY k (i)))] [] [] ?_ ?_))))))))
   · repeat' apply ai
     all_goals first|exact qx|(rw[aW6,hg];rfl)|exact qz
   refine rT [1,3,52,53,54] (s2 (xp (lX (k.held.getD i .zero) hnt) (ai rfl ?_)))
   refine ai (by show _≤9223372036854775807;(try simp only[aW7,aW9,aXa]);omega) (s1 (ai (by refine⟨rfl,aL _,by simp,?_⟩;skip;show(_+1)*16≤_;omega) (s1 (rT [1,3,52,53,54] (s2 ?_)))))
   have hq:=xy hi2
   refine wq [] [] (⟨k.held.length - (i+1),by omega,i+1,rfl,by omega,rfl⟩) ?_
   repeat' apply ai
   all_goals first|exact qx|exact congrArg D.i (by rw[aB (by omega)];omega)|(rw[hq];done)|(rw[hq];rfl)|(rw[hq,aW7];rfl)|(rw[hq,aW7];done)|(rw[hq];simp[aL];done)|(rw[hq];exact fC _ _)|(rw[aL];done)|(simp[aL];done)|exact qz
 have hi3:i=k.held.length:=by simp[aC] at c55;omega
 subst hi3
 clear hi
 refine xt (sq (sq (rT [3,66,67,68] (s4 (bk (SW.loopW (n:=k.inbox.length) (fun m q=> ∃i:Nat,m=k.inbox.length - i∧i≤k.inbox.length∧q=[tO 3 100 (oV k (i)).length,tD 66 (.sl (aE k.inbox)),tI 67 (k.inbox.length:Nat),tI 68 (i:Nat),oB 1 32 [.d (.i k.id),.d (.i k.time),.d (.i k.next),.d (.sl (aE k.held)),.d (.sl (aP k.marks)),.d (.sl (aE k.inbox))],oR 100 9 1 (bB (oV k (i)))]) ?_ ?_))))))
 · refine wq (σ':=[tO 3 100 (oV k (0)).length,tD 66 (.sl (aE k.inbox)),tI 67 (k.inbox.length:Nat),tI 68 (0:Nat),oB 1 32 [.d (.i k.id),.d (.i k.time),.d (.i k.next),.d (.sl (aE k.held)),.d (.sl (aP k.marks)),.d (.sl (aE k.inbox))],oR 100 9 1 (bB (oV k (0)))]) [] [] (⟨0,rfl,aXd _,rfl⟩) ?_
   repeat' apply ai
   all_goals first|exact qx|rfl|(rw[xw];done)|(rw[aN];done)|(rw[aC];done)|exact qz
 rintro n s ⟨i,rfl,hi,rfl⟩
 refine sq (rT [3,66,67,68,69] (s1 (sq (cd rfl (fun c69=> ?_) fun c69=> ?_))))
 · have hi2:i<k.inbox.length:=by simp[aC] at c69;omega
   have hg:=aQ (l:=k.inbox) hi2
   have hmem: (k.inbox.getD i .zero)∈k.inbox:=dB hi2
   have hnt:=hk.2.2 _ hmem
   have hwl:=lO (k.inbox.getD i .zero)
   have hml:=ml k i
   refine sk (sq (bk (sq (rT [3,9,66,67,68] (ai (by rw[aW6,hg];exact⟨⟨by omega,by rw[aC];omega⟩,rfl⟩) (ai (by rw[aW6,hg];exact⟨aW8 rfl,rfl⟩) (s2 (wa [tO 3 100 (oV k (i)).length,tD 66 (.sl (aE k.inbox)),tI 67 (k.inbox.length:Nat),tI 68 (i:Nat),tP 9 9,oB 1 32 [.d (.i k.id),.d (.i k.time),.d (.i k.next),.d (.sl (aE k.held)),.d (.sl (aP k.marks)),.d (.sl (aE k.inbox))],oB 9 58 [.d (.i ((k.inbox.getD i .zero)).frm),.d (.i ((k.inbox.getD i .zero)).num),.d (.i ((k.inbox.getD i .zero)).to),.d (.i ((k.inbox.getD i .zero)).til),.d (.s ((k.inbox.getD i .zero)).text)],oR 100 9 1 (bB (oV k (i)))] [] [] ?_ ?_))))))))
   · repeat' apply ai
     all_goals first|exact qx|(rw[aW6,hg];rfl)|exact qz
   refine rT [3,66,67,68] (s2 (xp (lX (k.inbox.getD i .zero) hnt) (ai rfl ?_)))
   refine ai (by show _≤9223372036854775807;(try simp only[aW7,aW9,aXa]);omega) (s1 (ai (by refine⟨rfl,aL _,by simp,?_⟩;skip;show(_+1)*16≤_;omega) (s1 (rT [3,66,67,68] (s2 ?_)))))
   have hq:=xz hi2
   refine wq [] [] (⟨k.inbox.length - (i+1),by omega,i+1,rfl,by omega,rfl⟩) ?_
   repeat' apply ai
   all_goals first|exact qx|exact congrArg D.i (by rw[aB (by omega)];omega)|(rw[hq];done)|(rw[hq];rfl)|(rw[hq,aW7];rfl)|(rw[hq,aW7];done)|(rw[hq];simp[aL];done)|(rw[hq];exact fC _ _)|(rw[aL];done)|(simp[aL];done)|exact qz
 have hi3:i=k.inbox.length:=by simp[aC] at c69;omega
 subst hi3
 clear hi
 have hil:=ml k k.inbox.length
 refine xt (sq (rT [2] (s1 (bK (robj:=[(100,.row 9 1 (bB (oV k k.inbox.length)))]) (rl:=[(0,80)]) (bor:=[100]) (aq (oV k k.inbox.length) (by omega)) rfl rfl rfl rfl ⟨eW rfl rfl rfl (aL _) rfl trivial,rfl⟩ rfl (.inr (uj _)) (aI ⟨rfl,trivial⟩) (fun j hj=>by(obtain rfl:j=0:=by simpa[kN,cD,iO] using hj);rfl) (s1 (rt (eA _ [] [80] rfl (eW rfl rfl rfl ?_ (congrArg D.sl ?_) trivial) rfl rfl)))))))
 · exact aL _
 rw[ae hok]
set_option maxHeartbeats 1600000 in
theorem aG7 (k:aH) (rec:List UInt8) (hok:aR k=true) (hrec:rec.length≤900000):Sp 137 2 [tV 0 k.V,tD 1 (.s rec)] [tV 0 (.tup [.agg [.d (.i ((jD k rec).1).id),.d (.b ((jD k rec).1).up),.d (.s ((jD k rec).1).log),.d (.i ((jD k rec).1).forced),.d (.sl (aY ((jD k rec).1).halves))],.c (.d (.b (jD k rec).2))])]:=by
 have hlg:=eK hok
 have hkb:=nB hok
 have hrs:=oA (k:=(aZ k).1)
 have hsk:dA k.log k.forced=true:=(eJ hlg.1).2.1
 refine sb Tryz.func137 rfl (sq (rT [1,2,4] (s3 (sq (rT [1,2,4,6] (s5 (xp (rI k.id k.log (by omega)) (ai rfl ?_))))))))
 refine s6 (sq (sq (rT [1,2,4,6,9] (s2 (xp (xO (aZ k).1 rec hkb hrec) (ai rfl ?_))))))
 refine s6 (sq (rT [1,2,4,6,30] (s2 (cd rfl (fun c30=> ?_) fun c30=> ?_))))
 · have h1: ¬(cL (aZ k).1 rec).2=true:=kV c30
   refine sq (rT [4,5] (s3 (rt ?_)))
   have hr:=aD4 h1
   refine bG rfl rfl ?_
   rw[hr]
   rfl
 have h1: (cL (aZ k).1 rec).2=true:=gJ c30
 refine sk (sq (rT [1,2,4,6,10,11] (s3 (xp (bq k.log k.forced rec (by omega) hrec) (ai rfl ?_)))))
 refine s6 (sq (sq (rT [1,2,4,6,10,11,40] (s2 (cd rfl (fun c40=> ?_) fun c40=> ?_)))))
 · have h2: ¬(bJ k.log k.forced rec).2=true:=kV c40
   refine sq (rD [1,2,4,10,12,13] (s3 (xp (tt (aZ k).1 hkb) (ai rfl ?_))))
   refine xp (ql k.log k.forced (eH (aZ k).1) (by omega) (by omega) (fun r hr=>by have:=hrs.2 r hr;omega)) (ai rfl ?_)
   refine s6 (ai (by kernel_rfl) (sq (sq (rT [1,2,4,10,12,50] (s2 (cd rfl (fun c50=> ?_) fun c50=> ?_))))))
   · have h3: ¬(dJ k).2=true:=kV c50
     refine sq (rT [4,5] (s3 (rt ?_)))
     have hr:=sn h1 h2 h3
     refine bG rfl rfl ?_
     rw[hr]
     rfl
   have h3: (dJ k).2=true:=gJ c50
   refine sk (rT [2,4,10,11] (s2 (xp (bq (dJ k).1.1 (dJ k).1.2 rec (ix (by omega)) hrec) (ai rfl ?_))))
   refine s5 (sq (sq (rT [2,4,10,59] (s2 (cd rfl (fun c59=> ?_) fun c59=> ?_)))))
   · refine sq (rT [4,5] (s3 (rt ?_)))
     first
     |exact absurd (c40.symm.trans c59) (by decide)
     |(have hr:=pn h1 h2 h3 (kV c59)
       refine bG rfl rfl ?_
       rw[hr]
       rfl)
   refine sk (sq (rT [2,4] (s3 (sq (rT [4,5] (s3 (rt ?_)))))))
   first
   |(have hr:=po h1 h2 h3 (gJ c59)
     refine bG rfl rfl ?_
     rw[hr]
     rfl)
   |(have hr:=pD h1 h2
     refine bG rfl rfl ?_
     rw[hr]
     rfl)
 have h2: (bJ k.log k.forced rec).2=true:=gJ c40
 refine sk (sq (sq (rT [2,4,10,59] (s2 (cd rfl (fun c59=> ?_) fun c59=> ?_)))))
 · refine sq (rT [4,5] (s3 (rt ?_)))
   first
   |exact absurd (c40.symm.trans c59) (by decide)
   |(have hr:=pn h1 h2 h3 (kV c59)
     refine bG rfl rfl ?_
     rw[hr]
     rfl)
 refine sk (sq (rT [2,4] (s3 (sq (rT [4,5] (s3 (rt ?_)))))))
 first
 |(have hr:=po h1 h2 h3 (gJ c59)
   refine bG rfl rfl ?_
   rw[hr]
   rfl)
 |(have hr:=pD h1 h2
   refine bG rfl rfl ?_
   rw[hr]
   rfl)
theorem aA6 (k:aH) (hl:k.log.length≤140737488355328):Sp 85 1 [tV 0 k.V] [tV 0 ((jN k).V)]:=by
 refine sb Tryz.func85 rfl (sq (rT [1,2] (s2 (sq (rT [1,2] (s2 (xp (nc k.log k.forced hl) (ai rfl ?_))))))))
 refine s2 (sq (rT [2] (s2 (rt (bG rfl rfl ?_)))))
 rfl
set_option maxHeartbeats 1600000 in
theorem dw (k:aH) (rec:List UInt8) (hok:aR k=true) (hrec:rec.length≤900000):Sp 95 2 [tV 0 k.V,tD 1 (.s rec)] [tV 0 (.tup [.agg [.d (.i ((cY k rec).1).id),.d (.b ((cY k rec).1).up),.d (.s ((cY k rec).1).log),.d (.i ((cY k rec).1).forced),.d (.sl (aY ((cY k rec).1).halves))],.c (.d (.b (cY k rec).2))])]:=by
 have hlg:=eK hok
 have hkb:=nB hok
 have hrs:=oA (k:=(aZ k).1)
 have hsk:dA k.log k.forced=true:=(eJ hlg.1).2.1
 have hll:=yf (k:=k) (rec:=rec) (by omega)
 refine sb Tryz.func95 rfl (sq (rT [1,2,4] (s3 (sq (rT [2,4,6,7] (s2 (xp (aG7 k rec hok hrec) (ai rfl ?_))))))))
 refine s6 (sq (sq (rT [2,4,6,15] (s2 (cd rfl (fun c15=> ?_) fun c15=> ?_)))))
 · have h1: ¬(jD k rec).2=true:=kV c15
   have hr:=aI7 h1
   refine sq (rT [4,5] (s1 (xp (lI k (⟨by omega,fun x hx=>by have:=hlg.2.2.2.2.2 x hx;omega⟩)) (ai rfl ?_))))
   refine s2 (rt (bG rfl rfl ?_))
   rw[hr]
   rfl
 have h1: (jD k rec).2=true:=gJ c15
 have hr:=so h1
 refine sk (sq (rT [4,5] (s1 (xp (aA6 (jD k rec).1 hll.1) (ai rfl ?_)))))
 refine xp (lI (jN (jD k rec).1) (by have e: (jN (jD k rec).1).halves=k.halves:=hll.2;rw[e];exact(⟨by omega,fun x hx=>by have:=hlg.2.2.2.2.2 x hx;omega⟩))) (ai rfl ?_)
 refine s2 (rt (bG rfl rfl ?_))
 rw[hr]
 rfl
set_option maxHeartbeats 1600000 in
theorem nD (k:aH) (rec:List UInt8) (fc:Bool) (hok:aR k=true) (hrec:rec.length≤900000):Sp 94 3 [tV 0 k.V,tD 1 (.s rec),tB 2 fc] [tV 0 (.tup [.agg [.d (.i ((fW k rec fc).1).id),.d (.b ((fW k rec fc).1).up),.d (.s ((fW k rec fc).1).log),.d (.i ((fW k rec fc).1).forced),.d (.sl (aY ((fW k rec fc).1).halves))],.c (.d (.b (fW k rec fc).2))])]:=by
 have hlg:=eK hok
 have hkb:=nB hok
 have hrs:=oA (k:=(aZ k).1)
 have hsk:dA k.log k.forced=true:=(eJ hlg.1).2.1
 have hpl:=ix (k:=k) (by omega)
 refine sb Tryz.func94 rfl (sq (rT [1,2,3,6] (s3 (sq (rT [1,2,3,6,8] (s1 (xp (gS k (by omega)) (ai rfl ?_))))))))
 refine s6 (sq (rT [1,2,3,6,8,11] (s2 (xp (gq (aZ k).1 rec hkb hrec) (ai rfl ?_)))))
 refine s6 (sq (sq (rT [1,2,3,6,8,26] (s2 (cd rfl (fun c26=> ?_) fun c26=> ?_)))))
 · have h1: ¬(cL (aZ k).1 rec).2=true:=by rw[← pc];exact kV c26
   refine sq (rT [6,7] (s3 (rt ?_)))
   have hr:fW k rec fc=(k,false):=by rw[fW,aD4 h1];rfl
   refine bG rfl rfl ?_
   rw[hr]
   rfl
 have h1: (cL (aZ k).1 rec).2=true:=by rw[← pc];exact gJ c26
 refine sk (sq (rT [1,2,3,6,8,12,13] (s3 (xp (tY k.log k.forced rec (by omega) hrec) (ai rfl ?_)))))
 refine s6 (sq (sq (rT [1,2,3,6,8,12,13,36] (s2 (cd rfl (fun c36=> ?_) fun c36=> ?_)))))
 · have h2: ¬(bJ k.log k.forced rec).2=true:=kV c36
   refine sq (rD [1,2,3,6,12] (s3 (xp (bs (aZ k).1 hkb) (ai rfl ?_))))
   refine xp (yL k.log k.forced (eH (aZ k).1) (by omega) (by omega) (fun r hr=>by have:=hrs.2 r hr;omega)) (ai rfl ?_)
   refine s4 (ai (by kernel_rfl) (rT [2,3,6,12,13] (s2 (xp (tY (dJ k).1.1 (dJ k).1.2 rec hpl hrec) (ai rfl ?_)))))
   refine s5 (sq (sq (rT [2,3,6,12,52] (s2 (cd rfl (fun c52=> ?_) fun c52=> ?_)))))
   · refine sq (rT [6,7] (s3 (rt ?_)))
     first
     |exact absurd (c36.symm.trans c52) (by decide)
     |(have hr:=(show fW k rec fc=(k,false) by rw[fW,ye hsk h1 h2 (kV c52)];rfl)
       refine bG rfl rfl ?_
       rw[hr]
       rfl)
   refine sk (sq (sq (rT [3,6,12,54] (s1 (cd rfl (fun c54=> ?_) fun c54=> ?_)))))
   · obtain rfl:=c54
     refine rT [3,6,12] (s1 ?_)
     first
     |refine ki (iT (bJ (dJ k).1.1 (dJ k).1.2 rec).1.1 (bJ (dJ k).1.1 (dJ k).1.2 rec).1.2 (oO hpl)) rfl rfl rfl rfl rfl rfl rfl rfl ?_
     |refine ki (iT (bJ k.log k.forced rec).1.1 (bJ k.log k.forced rec).1.2 (oO (by omega))) rfl rfl rfl rfl rfl rfl rfl rfl ?_
     refine s1 (sq (rT [3,6] (s3 (sq (rT [6,7] (s3 (rt ?_)))))))
     have hlr:jD k rec=(jC k (bJ (dJ k).1.1 (dJ k).1.2 rec).1,true)∨jD k rec=(jC k (bJ k.log k.forced rec).1,true):=by
      first
      |exact .inl (oC hsk h1 h2 (gJ c52))
      |exact .inr (pD h1 h2)
     first
     |(have hr:=oC hsk h1 h2 (gJ c52)
       refine bG rfl rfl ?_
       rw[fW,hr]
       rfl)
     |(have hr:=pD h1 h2
       refine bG rfl rfl ?_
       rw[fW,hr]
       rfl)
   obtain rfl:=c54
   refine sk (sq (rT [3,6] (s3 (sq (rT [6,7] (s3 (rt ?_)))))))
   have hlr:jD k rec=(jC k (bJ (dJ k).1.1 (dJ k).1.2 rec).1,true)∨jD k rec=(jC k (bJ k.log k.forced rec).1,true):=by
    first
    |exact .inl (oC hsk h1 h2 (gJ c52))
    |exact .inr (pD h1 h2)
   first
   |(have hr:=oC hsk h1 h2 (gJ c52)
     refine bG rfl rfl ?_
     rw[fW,hr]
     rfl)
   |(have hr:=pD h1 h2
     refine bG rfl rfl ?_
     rw[fW,hr]
     rfl)
 have h2: (bJ k.log k.forced rec).2=true:=gJ c36
 refine sk (sq (sq (rT [2,3,6,12,52] (s2 (cd rfl (fun c52=> ?_) fun c52=> ?_)))))
 · refine sq (rT [6,7] (s3 (rt ?_)))
   first
   |exact absurd (c36.symm.trans c52) (by decide)
   |(have hr:=(show fW k rec fc=(k,false) by rw[fW,ye hsk h1 h2 (kV c52)];rfl)
     refine bG rfl rfl ?_
     rw[hr]
     rfl)
 refine sk (sq (sq (rT [3,6,12,54] (s1 (cd rfl (fun c54=> ?_) fun c54=> ?_)))))
 · obtain rfl:=c54
   refine rT [3,6,12] (s1 ?_)
   first
   |refine ki (iT (bJ (dJ k).1.1 (dJ k).1.2 rec).1.1 (bJ (dJ k).1.1 (dJ k).1.2 rec).1.2 (oO hpl)) rfl rfl rfl rfl rfl rfl rfl rfl ?_
   |refine ki (iT (bJ k.log k.forced rec).1.1 (bJ k.log k.forced rec).1.2 (oO (by omega))) rfl rfl rfl rfl rfl rfl rfl rfl ?_
   refine s1 (sq (rT [3,6] (s3 (sq (rT [6,7] (s3 (rt ?_)))))))
   have hlr:jD k rec=(jC k (bJ (dJ k).1.1 (dJ k).1.2 rec).1,true)∨jD k rec=(jC k (bJ k.log k.forced rec).1,true):=by
    first
    |exact .inl (oC hsk h1 h2 (gJ c52))
    |exact .inr (pD h1 h2)
   first
   |(have hr:=oC hsk h1 h2 (gJ c52)
     refine bG rfl rfl ?_
     rw[fW,hr]
     rfl)
   |(have hr:=pD h1 h2
     refine bG rfl rfl ?_
     rw[fW,hr]
     rfl)
 obtain rfl:=c54
 refine sk (sq (rT [3,6] (s3 (sq (rT [6,7] (s3 (rt ?_)))))))
 have hlr:jD k rec=(jC k (bJ (dJ k).1.1 (dJ k).1.2 rec).1,true)∨jD k rec=(jC k (bJ k.log k.forced rec).1,true):=by
  first
  |exact .inl (oC hsk h1 h2 (gJ c52))
  |exact .inr (pD h1 h2)
 first
 |(have hr:=oC hsk h1 h2 (gJ c52)
   refine bG rfl rfl ?_
   rw[fW,hr]
   rfl)
 |(have hr:=pD h1 h2
   refine bG rfl rfl ?_
   rw[fW,hr]
   rfl)
set_option maxHeartbeats 1600000 in
theorem nh (k:aH) (hl:k.log.length≤140737488355328):Sp 46 1 [tV 0 k.V] [tV 0 (.tup [.agg [.d (.i ((dY k).1).id),.d (.b ((dY k).1).up),.d (.s ((dY k).1).log),.d (.i ((dY k).1).forced),.d (.sl (aY ((dY k).1).halves))],.c (.d (.b (dY k).2))])]:=by
 refine sb Tryz.func46 rfl (sq (rT [1,2] (s3 (sq (sq (rT [1,2,8] (s1 (xp (gT k hl) (ai rfl ?_)))))))))
 refine s1 (cd rfl (fun c8=> ?_) fun c8=> ?_)
 · have hno: ¬aR k=true:=kV c8
   refine sq (rT [2,3] (s3 (rt ?_)))
   have hr:dY k=(.zero,false):=yh hno
   rw[hr]
   exact rq [] [] rfl qz
 have hok:aR k=true:=gJ c8
 have hlg:=eK hok
 have hK:=kJ hok
 have h6:=eZ (gA hok)
 have hkb:=nB hok
 have hsk:dA k.log k.forced=true:=(eJ hlg.1).2.1
 obtain⟨⟨_,htm,hnx,_⟩,_⟩:=(cB _).1 (gA hok)
 have hrl:=da (n:=((aZ k).1.time+1).toNat) (by omega)
 have hdl:=bS (k:=6) (n:=((aZ k).1.time+1).toNat) (by show _<10000000;omega)
 have hw:wrap64 ((aZ k).1.time+1)=(aZ k).1.time+1:=aB (by omega)
 refine sk (sq (rT [1,2,4] (s1 (xp (gS k (by omega)) (ai rfl ?_)))))
 refine s6 (sq (sq (rT [1,2,4,22] (s4 (y3 (ai pk (cd rfl (fun c22=> ?_) fun c22=> ?_)))))))
 · have hr0:dY k=(k,false):=by
    by_cases hu:k.up=true
    · rw[hu] at c22
      exact tj hok (of_decide_eq_true (by simpa using c22))
    · exact bh hok hu
   refine sq (rT [2,3] (s1 (xp (gC k (⟨by omega,fun x hx=>by have:=hlg.2.2.2.2.2 x hx;omega⟩)) (ai rfl ?_))))
   refine s2 (rt ?_)
   have hr:=hr0
   refine bG rfl rfl ?_
   rw[hr]<;>rfl
 have hu:k.up=true:=by
  cases hq:k.up with
  |true=>rfl
  |false=>rw[hq] at c22;cases c22
 refine sk (sq (rD [2,3] (s1 (xp (gC k (⟨by omega,fun x hx=>by have:=hlg.2.2.2.2.2 x hx;omega⟩)) (ai rfl ?_)))))
 refine s3 (xp (kP ((aZ k).1.time+1) (by omega)) (ai (by rw[hw];rfl) ?_))
 refine ai (by show _≤9223372036854775807;(try simp only[aW7,aW9,aXa]);omega) (xp (nD k (lQ ((aZ k).1.time+1).toNat) true hok (by omega)) (ai rfl ?_))
 refine s4 (ai (by kernel_rfl) (rt ?_))
 have hr:=gi hok hu
 refine bG rfl rfl ?_
 rw[hr]<;>rfl
set_option maxHeartbeats 1600000 in
theorem sF (k:aH) (tu til:Int) (tx:List UInt8) (hl:k.log.length≤140737488355328) (htx:tx.length≤140737488355328):Sp 43 4 [tV 0 k.V,tI 1 tu,tI 2 til,tD 3 (.s tx)] [tV 0 (.tup [.agg [.d (.i ((bD k tu til tx).1).id),.d (.b ((bD k tu til tx).1).up),.d (.s ((bD k tu til tx).1).log),.d (.i ((bD k tu til tx).1).forced),.d (.sl (aY ((bD k tu til tx).1).halves))],.c (.d (.i (bD k tu til tx).2))])]:=by
 refine sb Tryz.func43 rfl (sq (rT [1,2,3,4,8] (s3 (sq (sq (rT [1,2,3,4,8,15] (s1 (xp (lA k hl) (ai rfl ?_)))))))))
 refine s1 (cd rfl (fun c15=> ?_) fun c15=> ?_)
 · have hno: ¬aR k=true:=kV c15
   refine sq (rT [8,9] (s3 (rt ?_)))
   have hr:bD k tu til tx=(.zero,0):=gj hno
   rw[hr]
   exact rq [] [] rfl qz
 have hok:aR k=true:=gJ c15
 have hlg:=eK hok
 have hK:=kJ hok
 have h6:=eZ (gA hok)
 have hkb:=nB hok
 have hsk:dA k.log k.forced=true:=(eJ hlg.1).2.1
 obtain⟨⟨_,htm,hnx,_⟩,_⟩:=(cB _).1 (gA hok)
 have hnl:=lO (iJ k tu til tx)
 have hrl:=tH iG (iJ k tu til tx)
 have hwo:iG.length=3:=rfl
 refine sk (sq (sq (rT [1,2,3,4,8,19] (s3 (cd rfl (fun c19=> ?_) fun c19=> ?_)))))
 · have hu: ¬k.up=true:=kV c19
   refine sq (rT [8,9] (s1 (xp (lI k (⟨by omega,fun x hx=>by have:=hlg.2.2.2.2.2 x hx;omega⟩)) (ai rfl ?_))))
   refine s2 (rt ?_)
   have hr:bD k tu til tx=(k,0):=db hok hu
   refine bG rfl rfl ?_
   rw[hr]<;>rfl
 have hu:k.up=true:=gJ c19
 refine sk (sq (rT [1,2,3,4,8,10] (s1 (xp (oS k hl) (ai rfl ?_)))))
 refine s2 (sq (rD [8,10,11,12] (s8 (xp (lX (iJ k tu til tx) htx) (ai (by rw[hK];rfl) ?_)))))
 refine ai (by show _≤9223372036854775807;(try simp only[aW7,aW9,aXa]);omega) (xp (dw k (cT iG (iJ k tu til tx)) hok (by omega)) (ai rfl ?_))
 refine s6 (ai (by kernel_rfl) (sq (sq (rT [8,10,11,40] (s2 (cd rfl (fun c40=> ?_) fun c40=> ?_))))))
 · have hq: ¬(cY k (cT iG (iJ k tu til tx))).2=true:=kV c40
   have hf:=mn hq
   have hr0:bD k tu til tx=_:=af hok hq
   refine sq (rT [8,9] (s3 (rt (bG rfl rfl ?_))))
   rw[hf,hr0]
   rfl
 have hq: (cY k (cT iG (iJ k tu til tx))).2=true:=gJ c40
 refine sk (sq (rT [8,9] (s4 (rt ?_))))
 have hr:=mr hok hu hq
 refine bG rfl rfl ?_
 rw[hr,hK]
 rfl
set_option maxHeartbeats 1600000 in
theorem sG (k:aH) (tu til:Int) (tx:List UInt8) (hl:k.log.length≤140737488355328) (htx:tx.length≤140737488355328):Sp 42 4 [tV 0 k.V,tI 1 tu,tI 2 til,tD 3 (.s tx)] [tV 0 (.tup [.agg [.d (.i ((bD k tu til tx).1).id),.d (.b ((bD k tu til tx).1).up),.d (.s ((bD k tu til tx).1).log),.d (.i ((bD k tu til tx).1).forced),.d (.sl (aY ((bD k tu til tx).1).halves))],.c (.d (.i (bD k tu til tx).2))])]:=by
 refine sb Tryz.func42 rfl (sq (rT [1,2,3,4,8] (s3 (sq (sq (rT [1,2,3,4,8,17] (s1 (xp (gT k hl) (ai rfl ?_)))))))))
 refine s1 (cd rfl (fun c17=> ?_) fun c17=> ?_)
 · have hno: ¬aR k=true:=kV c17
   refine sq (rT [8,9] (s3 (rt ?_)))
   have hr:bD k tu til tx=(.zero,0):=gj hno
   rw[hr]
   exact rq [] [] rfl qz
 have hok:aR k=true:=gJ c17
 have hlg:=eK hok
 have hK:=kJ hok
 have h6:=eZ (gA hok)
 have hkb:=nB hok
 have hsk:dA k.log k.forced=true:=(eJ hlg.1).2.1
 obtain⟨⟨_,htm,hnx,_⟩,_⟩:=(cB _).1 (gA hok)
 have hnl:=lO (iJ k tu til tx)
 have hrl:=tH iG (iJ k tu til tx)
 have hwo:iG.length=3:=rfl
 refine sk (sq (rT [1,2,3,4,8,10] (s1 (xp (gS k (by omega)) (ai rfl ?_)))))
 refine s6 (sq (rT [4,8,10,12] (s8 (xp (kK (iJ k tu til tx) htx) (ai rfl ?_)))))
 refine s1 (sq (sq (rT [4,8,10,12,39] (s4 (y2 (ai pk (cd rfl (fun c39=> ?_) fun c39=> ?_)))))))
 · have hr0:bD k tu til tx=(k,0):=by
    by_cases hu:k.up=true
    · rw[hu] at c39
      exact yi hok (by simpa using c39)
    · exact db hok hu
   refine sq (rT [8,9] (s1 (xp (gC k (⟨by omega,fun x hx=>by have:=hlg.2.2.2.2.2 x hx;omega⟩)) (ai rfl ?_))))
   refine s2 (rt ?_)
   have hr:=hr0
   refine bG rfl rfl ?_
   rw[hr]<;>rfl
 have hu:k.up=true:=by
  cases hq:k.up with
  |true=>rfl
  |false=>rw[hq] at c39;cases c39
 refine sk (sq (rT [4,8,10,13,14] (s1 (xp (gC k (⟨by omega,fun x hx=>by have:=hlg.2.2.2.2.2 x hx;omega⟩)) (ai rfl ?_)))))
 refine s1 (ai (by show _≤9223372036854775807;(try simp only[aW7,aW9,aXa]);omega) (xp (nD k (cT iG (iJ k tu til tx)) true hok (by omega)) (ai rfl ?_)))
 refine s6 (sq (sq (rT [4,8,10,13,51] (s2 (cd rfl (fun c51=> ?_) fun c51=> ?_)))))
 · have hq: ¬(cY k (cT iG (iJ k tu til tx))).2=true:=kV c51
   have hr0:bD k tu til tx=_:=af hok hq
   refine sq (rT [8,9] (s1 (xp (gC k (⟨by omega,fun x hx=>by have:=hlg.2.2.2.2.2 x hx;omega⟩)) (ai rfl ?_))))
   refine s2 (rt ?_)
   have hr:=hr0
   refine bG rfl rfl ?_
   rw[hr]<;>rfl
 have hq: (cY k (cT iG (iJ k tu til tx))).2=true:=gJ c51
 refine sk (sq (rD [8,9] (s5 (ai (by kernel_rfl) (rt ?_)))))
 have hr:=mr hok hu hq
 refine bG rfl rfl ?_
 rw[hr]<;>rfl
set_option maxHeartbeats 1600000 in
theorem qm (k:aH) (f n:Int) (hl:k.log.length≤140737488355328):Sp 55 3 [tV 0 k.V,tI 1 f,tI 2 n] [tV 0 (.tup [.agg [.d (.i ((aX k f n).1).id),.d (.b ((aX k f n).1).up),.d (.s ((aX k f n).1).log),.d (.i ((aX k f n).1).forced),.d (.sl (aY ((aX k f n).1).halves))],.agg [.d (.i ((aX k f n).2.1).frm),.d (.i ((aX k f n).2.1).num),.d (.i ((aX k f n).2.1).to),.d (.i ((aX k f n).2.1).til),.d (.s ((aX k f n).2.1).text)],.c (.d (.b (aX k f n).2.2))])]:=by
 refine sb Tryz.func55 rfl (sq (rT [1,2,3,6,7] (s4 (sq (sq (rT [1,2,3,6,7,15] (s1 (xp (lA k hl) (ai rfl ?_)))))))))
 refine s1 (cd rfl (fun c15=> ?_) fun c15=> ?_)
 · have hno: ¬aR k=true:=kV c15
   refine sq (rT [6,7,8] (s5 (rt ?_)))
   have hr:aX k f n=(.zero,.zero,false):=gk hno
   rw[hr]
   exact rq [] [] rfl qz
 have hok:aR k=true:=gJ c15
 have hlg:=eK hok
 have hK:=kJ hok
 have h6:=eZ (gA hok)
 have hkb:=nB hok
 have hsk:dA k.log k.forced=true:=(eJ hlg.1).2.1
 obtain⟨⟨_,htm,hnx,_⟩,_⟩:=(cB _).1 (gA hok)
 refine sk (sq (rT [1,2,3,6,7,9] (s1 (xp (oS k hl) (ai rfl ?_)))))
 refine s2 (sq (rT [1,2,3,6,7,9,10] (s3 (xp (lP (bR k).inbox f n (by rw[hK];have:=h6.1;omega)) (ai rfl ?_)))))
 refine s1 (sq (sq (rT [1,2,3,6,7,9,10,31] (s4 (y2 (ai pk (cd rfl (fun c31=> ?_) fun c31=> ?_)))))))
 · have hcn: ¬(k.up=true∧0≤aS (aZ k).1.inbox f n):=by
    rintro⟨hu,hp⟩
    rw[hK,hu,decide_eq_false (show ¬aS (aZ k).1.inbox f n<0 by omega)] at c31
    cases c31
   have hr0:=ah hok hcn
   refine sq (rT [6,7,8] (s1 (xp (lI k (⟨by omega,fun x hx=>by have:=hlg.2.2.2.2.2 x hx;omega⟩)) (ai rfl ?_))))
   refine s4 (rt ?_)
   have hr:=hr0
   refine bG rfl rfl ?_
   rw[hr]<;>rfl
 have hcy:k.up=true∧0≤aS (aZ k).1.inbox f n:=by
  have h9:=c31
  rw[hK] at h9
  cases hu:k.up with
  |false=>rw[hu] at h9;cases h9
  |true=>
   rw[hu] at h9
   refine⟨rfl,?_⟩
   by_cases hp:aS (aZ k).1.inbox f n<0
   · rw[decide_eq_true hp] at h9;cases h9
   · omega
 obtain⟨j,hj,hjl,hjb⟩:=iy hok hcy.2
 have hg:=aQ (l:=(aZ k).1.inbox) hjl
 have her:nL k f n=iE jY ⟨f,n,((aZ k).1.inbox.getD j .zero).til⟩:=by rw[nL,hj,aW6]
 have hrl:=wK (w:=jY) (m:=⟨f,n,((aZ k).1.inbox.getD j .zero).til⟩) hjb
 have hwe:jY.length=3:=rfl
 have d1:=bS (k:=6) (n:=f.toNat) (by show _<10000000;omega)
 have d2:=bS (k:=6) (n:=n.toNat) (by show _<10000000;omega)
 have d3:=bS (k:=6) (n:=((aZ k).1.inbox.getD j .zero).til.toNat) (by show _<10000000;omega)
 refine sk (sq (rD [6,7,9,10,11,12] (s5 (ai (by rw[hK,hj,aW6,hg];exact⟨⟨by omega,by rw[aC];omega⟩,rfl⟩) (s1 (ai (by rw[hK,hj,aW6,hg];exact⟨aW8 rfl,rfl⟩) (xp (yM jY f n ((aZ k).1.inbox.getD j .zero).til hjb (by decide)) (ai (by rw[hK,hj,aW6,hg];rfl) ?_))))))))
 refine xp (dw k (iE jY ⟨f,n,((aZ k).1.inbox.getD j .zero).til⟩) hok (by omega)) (ai rfl ?_)
 refine s6 (ai (by kernel_rfl) (sq (sq (rT [6,7,9,10,11,49] (s2 (cd rfl (fun c49=> ?_) fun c49=> ?_))))))
 · have hq: ¬(cY k (nL k f n)).2=true:=by rw[her];exact kV c49
   have hf:=mn hq
   have hr0:=vQ hok hcy hq
   rw[her] at hf
   refine sq (rT [6,7,8] (s5 (rt (bG rfl rfl ?_))))
   rw[hf,hr0]
   rfl
 have hq: (cY k (nL k f n)).2=true:=by rw[her];exact gJ c49
 have hr0:=aj hok hcy hq
 rw[her,hj,aW6] at hr0
 refine sk (sq (rD [6,7,8] (s3 (ai (by rw[hK,hj,aW6,hg];exact⟨⟨by omega,by rw[aC];omega⟩,rfl⟩) (ai (by rw[hK,hj,aW6,hg];exact⟨aW8 rfl,rfl⟩) (s3 (ai (by kernel_rfl) (rt (bG rfl rfl ?_)))))))))
 rw[hr0,hK,hj,aW6,hg]
 rfl
set_option maxHeartbeats 1600000 in
theorem yN (k:aH) (f n:Int) (hl:k.log.length≤140737488355328):Sp 54 3 [tV 0 k.V,tI 1 f,tI 2 n] [tV 0 (.tup [.agg [.d (.i ((aX k f n).1).id),.d (.b ((aX k f n).1).up),.d (.s ((aX k f n).1).log),.d (.i ((aX k f n).1).forced),.d (.sl (aY ((aX k f n).1).halves))],.agg [.d (.i ((aX k f n).2.1).frm),.d (.i ((aX k f n).2.1).num),.d (.i ((aX k f n).2.1).to),.d (.i ((aX k f n).2.1).til),.d (.s ((aX k f n).2.1).text)],.c (.d (.b (aX k f n).2.2))])]:=by
 refine sb Tryz.func54 rfl (sq (rT [1,2,3,6,7] (s4 (sq (sq (rT [1,2,3,6,7,16] (s1 (xp (gT k hl) (ai rfl ?_)))))))))
 refine s1 (cd rfl (fun c16=> ?_) fun c16=> ?_)
 · have hno: ¬aR k=true:=kV c16
   refine sq (rT [6,7,8] (s5 (rt ?_)))
   have hr:aX k f n=(.zero,.zero,false):=gk hno
   rw[hr]
   exact rq [] [] rfl qz
 have hok:aR k=true:=gJ c16
 have hlg:=eK hok
 have hK:=kJ hok
 have h6:=eZ (gA hok)
 have hkb:=nB hok
 have hsk:dA k.log k.forced=true:=(eJ hlg.1).2.1
 obtain⟨⟨_,htm,hnx,_⟩,_⟩:=(cB _).1 (gA hok)
 refine sk (sq (rT [1,2,3,6,7,9] (s1 (xp (gS k (by omega)) (ai rfl ?_)))))
 refine s6 (sq (rT [1,2,3,6,7,9,11] (s4 (xp (gB (aZ k).1.inbox f n (by have:=h6.1;omega)) (ai rfl ?_)))))
 refine s1 (sq (sq (rT [1,2,3,6,7,9,11,35] (s4 (y2 (ai pk (cd rfl (fun c35=> ?_) fun c35=> ?_)))))))
 · have hcn: ¬(k.up=true∧0≤aS (aZ k).1.inbox f n):=by
    rintro⟨hu,hp⟩
    rw[hu,decide_eq_false (show ¬aS (aZ k).1.inbox f n<0 by omega)] at c35
    cases c35
   have hr0:=ah hok hcn
   refine sq (rT [6,7,8] (s1 (xp (gC k (⟨by omega,fun x hx=>by have:=hlg.2.2.2.2.2 x hx;omega⟩)) (ai rfl ?_))))
   refine s4 (rt ?_)
   have hr:=hr0
   refine bG rfl rfl ?_
   rw[hr]<;>rfl
 have hcy:k.up=true∧0≤aS (aZ k).1.inbox f n:=by
  have h9:=c35
  skip
  cases hu:k.up with
  |false=>rw[hu] at h9;cases h9
  |true=>
   rw[hu] at h9
   refine⟨rfl,?_⟩
   by_cases hp:aS (aZ k).1.inbox f n<0
   · rw[decide_eq_true hp] at h9;cases h9
   · omega
 obtain⟨j,hj,hjl,hjb⟩:=iy hok hcy.2
 have hg:=aQ (l:=(aZ k).1.inbox) hjl
 have her:nL k f n=iE jY ⟨f,n,((aZ k).1.inbox.getD j .zero).til⟩:=by rw[nL,hj,aW6]
 have hrl:=wK (w:=jY) (m:=⟨f,n,((aZ k).1.inbox.getD j .zero).til⟩) hjb
 have hwe:jY.length=3:=rfl
 have d1:=bS (k:=6) (n:=f.toNat) (by show _<10000000;omega)
 have d2:=bS (k:=6) (n:=n.toNat) (by show _<10000000;omega)
 have d3:=bS (k:=6) (n:=((aZ k).1.inbox.getD j .zero).til.toNat) (by show _<10000000;omega)
 refine sk (sq (rD [3,6,7,9,11,12,13] (s1 (xp (gC k (⟨by omega,fun x hx=>by have:=hlg.2.2.2.2.2 x hx;omega⟩)) (ai rfl ?_)))))
 refine s5 (ai (by rw[hj,aW6,hg];exact⟨⟨by omega,by rw[aC];omega⟩,rfl⟩) (s1 (ai (by rw[hj,aW6,hg];exact⟨aW8 rfl,rfl⟩) (xp (br f n ((aZ k).1.inbox.getD j .zero).til hjb) (ai (by rw[hj,aW6,hg];rfl) ?_)))))
 refine ai (by show _≤9223372036854775807;(try simp only[aW7,aW9,aXa]);omega) (xp (nD k (iE jY ⟨f,n,((aZ k).1.inbox.getD j .zero).til⟩) true hok (by omega)) (ai rfl ?_))
 refine s6 (ai (by kernel_rfl) (sq (sq (rT [3,6,7,9,11,12,56] (s2 (cd rfl (fun c56=> ?_) fun c56=> ?_))))))
 · have hq: ¬(cY k (nL k f n)).2=true:=by rw[her];exact kV c56
   have hr0:=vQ hok hcy hq
   refine sq (rT [6,7,8] (s1 (xp (gC k (⟨by omega,fun x hx=>by have:=hlg.2.2.2.2.2 x hx;omega⟩)) (ai rfl ?_))))
   refine s4 (rt ?_)
   have hr:=hr0
   refine bG rfl rfl ?_
   rw[hr]<;>rfl
 have hq: (cY k (nL k f n)).2=true:=by rw[her];exact gJ c56
 have hr0:=aj hok hcy hq
 rw[her,hj,aW6] at hr0
 refine sk (sq (rD [6,7,8] (s4 (ai (by rw[hj,aW6,hg];exact⟨⟨by omega,by rw[aC];omega⟩,rfl⟩) (ai (by rw[hj,aW6,hg];exact⟨aW8 rfl,rfl⟩) (s3 (ai (by kernel_rfl) (rt (bG rfl rfl ?_)))))))))
 rw[hr0,hj,aW6,hg]
 rfl
set_option maxHeartbeats 1600000 in
theorem ni (k:aH) (hl:k.log.length≤140737488355328):Sp 37 1 [tV 0 k.V] [tV 0 (.tup [.agg [.d (.i ((eN k).1).id),.d (.b ((eN k).1).up),.d (.s ((eN k).1).log),.d (.i ((eN k).1).forced),.d (.sl (aY ((eN k).1).halves))],.c (.d (.b (eN k).2))])]:=by
 refine sb Tryz.func37 rfl (sq (rT [1,2] (s3 (sq (sq (rT [1,2,11] (s1 (xp (gT k hl) (ai rfl ?_)))))))))
 refine s1 (cd rfl (fun c11=> ?_) fun c11=> ?_)
 · have hno: ¬aR k=true:=kV c11
   refine sq (rT [2,3] (s3 (rt ?_)))
   have hr:eN k=(.zero,false):=yj hno
   rw[hr]
   exact rq [] [] rfl qz
 have hok:aR k=true:=gJ c11
 have hlg:=eK hok
 have hK:=kJ hok
 have h6:=eZ (gA hok)
 have hkb:=nB hok
 have hsk:dA k.log k.forced=true:=(eJ hlg.1).2.1
 obtain⟨⟨_,htm,hnx,_⟩,_⟩:=(cB _).1 (gA hok)
 have hrs:=oA (k:=(aZ k).1)
 refine sk (sq (rT [1,2,4] (s1 (xp (gC k (⟨by omega,fun x hx=>by have:=hlg.2.2.2.2.2 x hx;omega⟩)) (ai rfl ?_)))))
 refine s2 (sq (rT [1,2,4,5] (s1 (xp (gS k (by omega)) (ai rfl ?_)))))
 refine s6 (sq (rD [1,2,4,7,8] (s3 (xp (bs (aZ k).1 hkb) (ai rfl ?_)))))
 refine xp (yL k.log k.forced (eH (aZ k).1) (by omega) (by have:=hrs.1;omega) (fun r hr=>by have:=hrs.2 r hr;omega)) (ai rfl ?_)
 refine s6 (ai (by kernel_rfl) (sq (sq (rT [2,4,7,34] (s4 (y2 (ai pk (cd rfl (fun c34=> ?_) fun c34=> ?_))))))))
 · have hr0:eN k=(k,false):=by
    by_cases hu:k.up=true
    · rw[hu] at c34
      exact aAl hok (kV c34)
    · exact tk hok hu
   refine sq (rT [2,3] (s3 (rt ?_)))
   have hr:=hr0
   refine bG rfl rfl ?_
   rw[hr]<;>rfl
 have hu:k.up=true:=by
  cases hq:k.up with
  |true=>rfl
  |false=>rw[hq] at c34;cases c34
 have hp: (dJ k).2=true:=by
  rw[hu] at c34
  exact gJ c34
 refine sk (sq (rT [2,4] (s3 (sq (rT [2,3] (s3 (rt ?_)))))))
 have hr:=aAm hok hu hp
 refine bG rfl rfl ?_
 rw[hr]<;>rfl
set_option maxHeartbeats 1600000 in
theorem aA7 (b:Int) (m:iB) (kn:List (List UInt8)) (hk:bv b kn) (hm:m.data.length=4):Sp 244 3 [tI 0 b,tV 1 m.V,tD 2 (.sl (bB kn))] [tV 0 (.tup [.c (.own 0 (jO kn (cQ b m.num)).length),.c (.d (.s (qZ kn m.data (cQ b m.num))))]),oR 0 3 1 (cZ (jO kn (cQ b m.num)))]:=by
 refine sb Tryz.func244 rfl (sq (rT [0,2,4] (s3 (sq (rT [0,2,4,8] (s2 (sq (rT [0,2,4,8,9] (s3 (sq (rT [2,8,9,10] (s3 (xp (nd b m.num) (ai rfl ?_))))))))))))))
 refine s1 (sq (sq (rT [2,8,9,10,11] (s1 (bk (SW.loopW (n:=(cQ b m.num).length) (fun q s=> ∃i:Nat,q=(cQ b m.num).length - i∧i≤(cQ b m.num).length∧s=[tD 2 (.sl (bB kn)),tO 8 12 (jO kn ((cQ b m.num).take i)).length,tD 9 (.s (qZ kn m.data ((cQ b m.num).take i))),tD 10 (.sl (cZ (cQ b m.num))),tI 11 (i:Nat),oR 12 3 1 (cZ (jO kn ((cQ b m.num).take i)))]) ?_ ?_))))))
 · refine wq (σ':=[tD 2 (.sl (bB kn)),tO 8 12 (jO kn ((cQ b m.num).take 0)).length,tD 9 (.s (qZ kn m.data ((cQ b m.num).take 0))),tD 10 (.sl (cZ (cQ b m.num))),tI 11 (0:Nat),oR 12 3 1 (cZ (jO kn ((cQ b m.num).take 0)))]) [] [] (⟨0,rfl,aXd _,rfl⟩) ?_
   repeat' apply ai
   all_goals first|exact qx|rfl|exact qz
 rintro n s ⟨i,rfl,hi,rfl⟩
 refine sq (sq (rT [2,8,9,10,11,22] (s4 (cd rfl (fun c22=> ?_) fun c22=> ?_))))
 · have hi2:i< (cQ b m.num).length:=by simp[cH] at c22;omega
   have hml:=ma b m.num
   have hts:=eP (z:=(0:Int)) hi2
   have hio:=gV (l:=(cQ b m.num)) (i:=i) hi2
   have hjr:=wH ((cQ b m.num).getD i 0) (dB hi2)
   have hkl:=hk.1
   have hj3: ((cQ b m.num).getD i 0)< (kn.length:Int):=by omega
   have hv:=aRi (l:=kn) hjr.1 hj3
   have hat:=hk.at (j:=((cQ b m.num).getD i 0).toNat) (by omega)
   refine sk (sq (bk (sq (rT [2,8,9,10,11,32] (s3 (ai (by rw[aW6,hio];exact⟨⟨by omega,by rw[cH];omega⟩,rfl⟩) (ai (by rw[aW6,hio];exact⟨aW8 rfl,rfl⟩) (ai (by rw[aW6,hio];exact ixS hjr.1 hj3) (ai (by rw[aW6,hio];exact ldS hjr.1 hj3) (s1 (cd rfl (fun c32=> ?_) fun c32=> ?_)))))))))))
   · have hu:unk kn ((cQ b m.num).getD i 0)=true:=by
      have h9:=c32
      rw[aW6,hio] at h9
      have h9: (toS (((bB kn).getD ((cQ b m.num).getD i 0).toNat []).getD 0 (.i 0))==[])=true:=h9
      rw[hv] at h9
      unfold unk;rw[beq_iff_eq.1 h9];rfl
     have hL:=yk (ks:=(cQ b m.num).take i) hu
     have hX:=aMy (x:=m.data) (ks:=(cQ b m.num).take i) hu
     refine rT [2,8,9,10,11] (s3 (ai (by rw[aW6,hio];exact⟨⟨by omega,by rw[cH];omega⟩,rfl⟩) (ai (by rw[aW6,hio];exact⟨aW8 rfl,rfl⟩) (s1 (ai (by refine⟨rfl,cH _,by simp,?_⟩;have h9: (jO kn ((cQ b m.num).take i)).length≤6:=Nat.le_trans (List.length_filter_le _ _) (by rw[aXc];omega);show(_+1)*8≤_;omega) (s1 (rT [2,8,9,10,11] (s3 (wq [] [] (⟨(cQ b m.num).length - (i+1),by omega,i+1,rfl,by omega,rfl⟩) ?_)))))))))
     repeat' apply ai
     all_goals first|exact qx|exact congrArg D.i (by rw[aB (by omega)];omega)|(rw[hts,hL,aW7];rfl)|(rw[hts,hL,aW6,hio];exact oJ _ _)|(rw[hts,hL];done)|(rw[hts,hX];done)|(rw[hts,hL,aW7];done)|(simp[cH];done)|(rw[hts,hL];simp[cH];done)|exact qz
   have hne: ¬(kn.getD ((cQ b m.num).getD i 0).toNat [])=[]:=by
    have h9:=c32
    rw[aW6,hio] at h9
    have h9: (toS (((bB kn).getD ((cQ b m.num).getD i 0).toNat []).getD 0 (.i 0))==[])=false:=h9
    rw[hv] at h9
    exact beq_eq_false_iff_ne.1 h9
   have hu:unk kn ((cQ b m.num).getD i 0)=false:=by unfold unk;simpa using hne
   have h4: (kn.getD ((cQ b m.num).getD i 0).toNat []).length=4:=by rcases hat with h9|h9;exact absurd (List.eq_nil_of_length_eq_zero h9) hne;exact h9
   have hL:=aAn (ks:=(cQ b m.num).take i) hu
   have hX:=aPl (x:=m.data) (ks:=(cQ b m.num).take i) hu
   refine rT [2,8,9,10,11] (s4 (ai (by rw[aW6,hio];exact⟨⟨by omega,by rw[cH];omega⟩,rfl⟩) (ai (by rw[aW6,hio];exact⟨aW8 rfl,rfl⟩) (ai (by rw[aW6,hio];exact ixS hjr.1 hj3) (ai (by rw[aW6,hio];exact ldS hjr.1 hj3) (xp (nf (qZ kn m.data ((cQ b m.num).take i)) (kn.getD ((cQ b m.num).getD i 0).toNat []) (ak hm) h4) (ai (by rw[aW6,hio];exact(congrArg (fun z=>eV 0 [Dv (.s (qZ kn m.data ((cQ b m.num).take i))),Dv (.s z)]) hv).symm) ?_)))))))
   refine s1 (rT [2,8,9,10,11] (s3 (wq [] [] (⟨(cQ b m.num).length - (i+1),by omega,i+1,rfl,by omega,rfl⟩) ?_)))
   repeat' apply ai
   all_goals first|exact qx|exact congrArg D.i (by rw[aB (by omega)];omega)|(rw[hts,hL,aW7];rfl)|(rw[hts,hL,aW6,hio];exact oJ _ _)|(rw[hts,hL];done)|(rw[hts,hX];done)|(rw[hts,hL,aW7];done)|(simp[cH];done)|(rw[hts,hL];simp[cH];done)|exact qz
 have hi3:i=(cQ b m.num).length:=by simp[cH] at c22;omega
 subst hi3
 refine xt (sq (rT [6,7] (s4 (rt ?_))))
 rw[aXn]
 exact eA _ [(0,12)] [] rfl ⟨⟨_,rfl,⟨rfl,rfl,_,_,_,rfl⟩,rfl,trivial⟩,bV rfl rfl trivial⟩ rfl rfl
theorem aR1 (kn:List (List UInt8)) (ks:List Int) (x:List UInt8):nR [tV 0 (.tup [.c (.own 0 (jO kn ks).length),.c (.d (.s (qZ kn x ks)))]),oR 0 3 1 (cZ (jO kn ks))]:=by
 intro p hp
 simp at hp
 rcases hp with rfl|rfl
 · first|trivial|(simp[nR];done)|(intro c hc;simp at hc;rcases hc with rfl|rfl<;>trivial)|exact⟨trivial,trivial,trivial⟩
 intro r hr d hd
 obtain⟨y,_,rfl⟩:=aXk.1 hr
 simp at hd;subst hd;trivial
set_option maxHeartbeats 3200000 in
theorem zc (b:Int) (l:List iB) (hl:l.length≤1000000):Sp 243 2 [tI 0 b,tD 1 (.sl (cM l))] [tD 0 (.sl (bB (eI b l)))]:=by
 refine sb Tryz.func243 rfl (sq (rT [0,1] (s1 (sq (sq (rT [0,1,12] (s1 (xp (dL _ _ _) (ai rfl ?_)))))))))
 refine s1 (cd rfl (fun c12=> ?_) fun c12=> ?_)
 · have hno: ¬iK b 1 6=true:=by simpa using c12
   refine sq (rT [4] (s2 (rt (eA _ [] [13] rfl (eW rfl rfl rfl ?_ (congrArg D.sl ?_) trivial) rfl rfl))))
   · rfl
   rw[aJb hno];rfl
 have hin:iK b 1 6=true:=by simpa using c12
 have hb:1≤b∧b≤6:=by simpa[iK] using hin
 have hst:=bv.start (b:=b) (by omega)
 refine sk (sq (rT [0,1,5] (s1 (ai (by refine⟨rfl,by omega,?_⟩;show((16:Nat):Int)*_≤_;omega) (s1 (sq (rT [0,1,5,6] (s1 (sq (bk (SW.loopW (n:=uM (List.replicate b.toNat ([]:List UInt8))+1) (fun q s=> ∃(kn:List (List UInt8)) (ag:Bool),q=(if ag then uM kn+1 else 0)∧bv b kn∧(ag=true→sC b l 7 kn=eI b l)∧(ag=false→kn=eI b l)∧s=[tI 0 b,tD 1 (.sl (cM l)),tO 5 15 b.toNat,tB 6 (ag),oR 15 9 1 (bB (kn))]) ?_ ?_)))))))))))
 · refine wq (σ':=[tI 0 b,tD 1 (.sl (cM l)),tO 5 15 b.toNat,tB 6 (true),oR 15 9 1 (bB (List.replicate b.toNat []))]) [] [] (⟨_,true,rfl,hst,fun _=>(if_pos hin).symm,fun h=>(by cases h),rfl⟩) ?_
   repeat' apply ai
   all_goals first|exact qx|rfl|(simp[bB];done)|exact qz
 rintro n s ⟨kn,ag,rfl,hk,hp1,hp2,rfl⟩
 refine sq (sq (rT [0,1,5,16] (s1 (cd rfl (fun c16=> ?_) fun c16=> ?_))))
 · have hag:ag=true:=c16
   have hgo:=hp1 hag
   refine sk (bk (sq (rT [0,1,5,6] (s1 (sq (rT [0,1,5,6,7] (s1 (bk (SW.loopW (n:=l.length) (fun q s=> ∃i:Nat,q=l.length - i∧i≤l.length∧s=[tI 0 b,tD 1 (.sl (cM l)),tO 5 15 b.toNat,tB 6 (cO b (l.take i) (kn,false)).2,tI 7 (i:Nat),oR 15 9 1 (bB ((cO b (l.take i) (kn,false)).1))]) ?_ ?_)))))))))
   · refine wq (σ':=[tI 0 b,tD 1 (.sl (cM l)),tO 5 15 b.toNat,tB 6 (cO b (l.take 0) (kn,false)).2,tI 7 (0:Nat),oR 15 9 1 (bB ((cO b (l.take 0) (kn,false)).1))]) [] [] (⟨0,rfl,aXd _,rfl⟩) ?_
     repeat' apply ai
     all_goals first|exact qx|rfl|exact qz
   rintro n s ⟨i,rfl,hi,rfl⟩
   refine sq (sq (rT [0,1,5,6,7,20] (s4 (cd rfl (fun c20=> ?_) fun c20=> ?_))))
   · have hi2:i<l.length:=by simp[bI] at c20;omega
     have hg:=mI (l:=l) hi2
     have hki:=(sD (l:=l.take i) (s:=(kn,false)) hk).1
     have hsn:=ms (b:=b) (m:=(l.getD i .zero)) (l:=l.take i) (s:=(kn,false))
     rw[← eP (z:=iB.zero) hi2] at hsn
     have hkl:=hki.1
     refine sk (sq (bk (sq (sq (rT [0,1,5,6,7,29] (s3 (ai (by rw[aW6,hg];exact⟨⟨by omega,by rw[bI];omega⟩,rfl⟩) (ai (by rw[aW6,hg];exact⟨aW8 rfl,rfl⟩) (xp (du b (l.getD i .zero)) (ai (by rw[aW6,hg];rfl) ?_))))))))))
     refine s1 (cd rfl (fun c29=> ?_) fun c29=> ?_)
     · have hmx:wL b (l.getD i .zero)=false:=aCp c29
       have hpo:jI b (cO b (l.take i) (kn,false)).1 (l.getD i .zero)=((cO b (l.take i) (kn,false)).1,false):=by unfold jI;rw[hmx];rfl
       rw[hpo] at hsn
       refine xt (rT [0,1,5,6,7] (s3 (wq [] [] (⟨l.length - (i+1),by omega,i+1,rfl,by omega,rfl⟩) ?_)))
       repeat' apply ai
       all_goals first|exact qx|exact congrArg D.i (by rw[aB (by omega)];omega)|(rw[hsn];done)|(rw[hsn,Bool.or_false];done)|(rw[hsn,Bool.or_true];done)|(rw[hsn];rw[show(0:Int).toNat=0 from rfl,hL0];exact aD5 (j:=((jO (cO b (l.take i) (kn,false)).1 (cQ b (l.getD i .zero).num)).getD 0 0).toNat) (by omega))|exact qz
     have hmx:wL b (l.getD i .zero)=true:=aCp c29
     have hm4: (l.getD i .zero).data.length=4:=aGt hmx
     refine sk (sq (rT [0,1,5,6,7,8,9] (s3 (ai (by rw[aW6,hg];exact⟨⟨by omega,by rw[bI];omega⟩,rfl⟩) (ai (by rw[aW6,hg];exact⟨aW8 rfl,rfl⟩) (s1 (bK (robj:=[(15,.row 9 1 (bB (cO b (l.take i) (kn,false)).1))]) (rl:=[(0,37)]) (bor:=[15]) (aA7 b (l.getD i .zero) (cO b (l.take i) (kn,false)).1 hki hm4) rfl rfl rfl rfl (by refine⟨cI rfl rfl (dX rfl ?_ (eW rfl rfl rfl (by rw[aL];omega) rfl trivial)),rfl⟩;rw[aW6,hg];exact aD rfl (aD rfl trivial)) rfl (.inr (aR1 _ _ _)) (aI ⟨rfl,trivial⟩) (fun j hj=>by(obtain rfl:j=0:=by simpa[kN,cD,iO] using hj);rfl) ?_)))))))
     refine s5 (sq (rT [0,1,5,6,7,8,9,42] (s1 (ai (by exact cH _) (s1 (cd rfl (fun c42=> ?_) fun c42=> ?_))))))
     · have hlen: (jO (cO b (l.take i) (kn,false)).1 (cQ b (l.getD i .zero).num)).length=1:=aU6 c42
       have hL0:=gV (l:=(jO (cO b (l.take i) (kn,false)).1 (cQ b (l.getD i .zero).num))) (i:=0) (by omega)
       have hpo:jI b (cO b (l.take i) (kn,false)).1 (l.getD i .zero)=((cO b (l.take i) (kn,false)).1.set ((jO (cO b (l.take i) (kn,false)).1 (cQ b (l.getD i .zero).num)).getD 0 0).toNat (qZ (cO b (l.take i) (kn,false)).1 (l.getD i .zero).data (cQ b (l.getD i .zero).num)),true):=by unfold jI;rw[hmx,hlen];rfl
       rw[hpo] at hsn
       have hlr:=wH _ (aCo (dB (z:=(0:Int)) (l:=(jO (cO b (l.take i) (kn,false)).1 (cQ b (l.getD i .zero).num))) (i:=0) (by omega))).1
       have hsg:=fV (l:=(cO b (l.take i) (kn,false)).1) (i:=((jO (cO b (l.take i) (kn,false)).1 (cQ b (l.getD i .zero).num)).getD 0 0).toNat) (by omega)
       refine sq (rT [0,1,5,7] (s2 (ai (by exact⟨by rw[cH],by omega,by omega⟩) (ai (by rw[show(0:Int).toNat=0 from rfl,hL0];exact⟨⟨by rw[cH],by omega⟩,aXi _,rfl⟩) (s1 (ai (by rw[show(0:Int).toNat=0 from rfl,hL0];exact⟨by rw[aL];omega,hlr.1,by have h9: (jO (cO b (l.take i) (kn,false)).1 (cQ b (l.getD i .zero).num)).getD 0 0<b:=hlr.2;show(jO (cO b (l.take i) (kn,false)).1 (cQ b (l.getD i .zero).num)).getD 0 0< ((b.toNat:Nat):Int);omega⟩) (ai (by rw[show(0:Int).toNat=0 from rfl,hL0];refine⟨by rw[aL];omega,?_⟩;show((jO (cO b (l.take i) (kn,false)).1 (cQ b (l.getD i .zero).num)).getD 0 0).toNat<_∧_∧0+_≤((bB (cO b (l.take i) (kn,false)).1).getD ((jO (cO b (l.take i) (kn,false)).1 (cQ b (l.getD i .zero).num)).getD 0 0).toNat []).length;rw[hsg];exact⟨by omega,rfl,aXi _⟩) (rT [0,1,5,6,7] (s1 (rT [0,1,5,6,7] (s3 (wq [] [] (⟨l.length - (i+1),by omega,i+1,rfl,by omega,rfl⟩) ?_))))))))))))
       repeat' apply ai
       all_goals first|exact qx|exact congrArg D.i (by rw[aB (by omega)];omega)|(rw[hsn];done)|(rw[hsn,Bool.or_false];done)|(rw[hsn,Bool.or_true];done)|(rw[hsn];rw[show(0:Int).toNat=0 from rfl,hL0];exact aD5 (j:=((jO (cO b (l.take i) (kn,false)).1 (cQ b (l.getD i .zero).num)).getD 0 0).toNat) (by omega))|exact qz
     have hlen: ¬(jO (cO b (l.take i) (kn,false)).1 (cQ b (l.getD i .zero).num)).length=1:=aI9 c42
     have hpo:jI b (cO b (l.take i) (kn,false)).1 (l.getD i .zero)=((cO b (l.take i) (kn,false)).1,false):=by unfold jI;rw[hmx,beq_eq_false_iff_ne.2 hlen];rfl
     rw[hpo] at hsn
     refine sk (rT [0,1,5,6,7] (s3 (wq [] [] (⟨l.length - (i+1),by omega,i+1,rfl,by omega,rfl⟩) ?_)))
     repeat' apply ai
     all_goals first|exact qx|exact congrArg D.i (by rw[aB (by omega)];omega)|(rw[hsn];done)|(rw[hsn,Bool.or_false];done)|(rw[hsn,Bool.or_true];done)|(rw[hsn];rw[show(0:Int).toNat=0 from rfl,hL0];exact aD5 (j:=((jO (cO b (l.take i) (kn,false)).1 (cQ b (l.getD i .zero).num)).getD 0 0).toNat) (by omega))|exact qz
   have hi3:i=l.length:=by simp[bI] at c20;omega
   subst hi3
   clear hi
   refine xt ?_
   rw[aXn]
   cases hrr: (cO b l (kn,false)).2 with
   |true=>
    obtain⟨g1,g2,g3⟩:=aRu hb.2 hk hrr
    refine wk [tI 0 b,tD 1 (.sl (cM l)),tO 5 15 b.toNat,tB 6 (true),oR 15 9 1 (bB ((cO b l (kn,false)).1))] [] [] (⟨_,by rw[hag];simpa using g2,_,true,rfl,g3,fun _=>by rw[← g1];exact hgo,fun h=>(by cases h),rfl⟩) ?_ rfl rfl
    repeat' first|exact trivial|refine lT rfl ?_|refine cI rfl ?_ ?_|refine jA rfl rfl ?_ rfl ?_|refine bV rfl ?_ ?_|refine bU rfl rfl rfl rfl ?_|refine aV rfl ?_ ?_|refine dX rfl ?_ ?_|exact aJ|refine aD ?_ ?_|refine jS ?_|refine bQ rfl ?_ rfl ?_|refine eF rfl rfl rfl ?_
    all_goals first|with_reducible rfl|(first|with_reducible rfl|(rw[hrr];done))
   |false=>
    have ge:=aPm hrr
    refine wk [tI 0 b,tD 1 (.sl (cM l)),tO 5 15 b.toNat,tB 6 (false),oR 15 9 1 (bB ((cO b l (kn,false)).1))] [] [] (⟨_,by rw[hag];simp,_,false,rfl,(sD (l:=l) (s:=(kn,false)) hk).1,fun h=>(by cases h),fun _=>by rw[← ge];exact hgo,rfl⟩) ?_ rfl rfl
    repeat' first|exact trivial|refine lT rfl ?_|refine cI rfl ?_ ?_|refine jA rfl rfl ?_ rfl ?_|refine bV rfl ?_ ?_|refine bU rfl rfl rfl rfl ?_|refine aV rfl ?_ ?_|refine dX rfl ?_ ?_|exact aJ|refine aD ?_ ?_|refine jS ?_|refine bQ rfl ?_ rfl ?_|refine eF rfl rfl rfl ?_
    all_goals first|with_reducible rfl|(first|with_reducible rfl|(rw[hrr];done))
 have hag:ag=false:=c16
 have hfin:=hp2 hag
 refine xt (sq (rT [4] (s2 (rt (eA _ [] [15] rfl (eW rfl rfl rfl ?_ (congrArg D.sl ?_) trivial) rfl rfl)))))
 · rw[aL];have:=hk.1;omega
 rw[hfin]
set_option maxHeartbeats 800000 in
theorem zd (size:Int) (l:List iB) (hl:l.length≤1000000):Sp 240 2 [tI 0 size,tD 1 (.sl (cM l))] [tV 0 (.tup [.c (.d (.s (dW size l).1)),.c (.d (.b (dW size l).2))])]:=by
 refine sb Tryz.func240 rfl (sq (rT [0,1] (s2 (sq (sq (rT [0,1,12] (s1 (xp (dL _ _ _) (ai rfl ?_)))))))))
 refine s1 (cd rfl (fun c12=> ?_) fun c12=> ?_)
 · have hno: ¬iK size 1 24=true:=by simpa using c12
   refine sq (rT [4,5] (s2 (rt ?_)))
   have hr:=aGx (l:=l) hno
   refine bG rfl rfl ?_
   rw[hr]<;>rfl
 have hin:iK size 1 24=true:=by simpa using c12
 have hs2:1≤size∧size≤24:=by simpa[iK] using hin
 have hko:=aJa (b:=(size+3) / 4) (l:=l) (by omega)
 have hk1:=hko.1
 have hle:=fun i=>aGu hko.2 (i:=i)
 refine sk (sq (rT [0,6] (s1 (xp (pK size (by omega)) (ai rfl ?_)))))
 refine s1 (xp (zc ((size+3) / 4) l hl) (ai rfl ?_))
 refine s1 (sq (rT [0,6,7] (s1 (sq (sq (rT [0,6,7,8] (s1 (bk (SW.loopW (n:=(eI ((size+3) / 4) l).length) (fun q s=> ∃i:Nat,q=(eI ((size+3) / 4) l).length - i∧i≤(eI ((size+3) / 4) l).length∧(∀j,j<i→((eI ((size+3) / 4) l).getD j []).length≠0)∧s=[tI 0 size,tD 6 (.sl (bB (eI ((size+3) / 4) l))),tD 7 (.s (wM (eI ((size+3) / 4) l) (i))),tI 8 (i:Nat)]) ?_ ?_)))))))))
 · refine wq (σ':=[tI 0 size,tD 6 (.sl (bB (eI ((size+3) / 4) l))),tD 7 (.s (wM (eI ((size+3) / 4) l) (0))),tI 8 (0:Nat)]) [] [] (⟨0,rfl,aXd _,fun j h=>absurd h (by omega),rfl⟩) ?_
   repeat' apply ai
   all_goals first|exact qx|rfl|exact qz
 rintro n s ⟨i,rfl,hi,hk,rfl⟩
 refine sq (sq (rT [0,6,7,8,20] (s4 (cd rfl (fun c20=> ?_) fun c20=> ?_))))
 · have hi2:i< (eI ((size+3) / 4) l).length:=by simp[aL] at c20;omega
   have hg:=fV (l:=(eI ((size+3) / 4) l)) hi2
   have hsu:=ja hi2
   have hli:=hle i
   have h4:=hko.at hi2
   refine sk (sq (bk (sq (sq (rT [0,6,7,8,27] (s2 (ai (by rw[aW6,hg];exact⟨⟨by omega,by rw[aL];omega⟩,rfl⟩) (ai (by rw[aW6,hg];exact⟨aW8 rfl,rfl⟩) (s1 (cd rfl (fun c27=> ?_) fun c27=> ?_))))))))))
   · have he: (eI ((size+3) / 4) l).getD i []=[]:=by
      have h9:=c27
      rw[aW6,hg] at h9
      exact beq_iff_eq.1 h9
     refine sq (rT [4,5] (s2 (rt ?_)))
     have hr:=aD8 hin (aAo hi2 he)
     refine bG rfl rfl ?_
     rw[hr]<;>rfl
   have hs: ((eI ((size+3) / 4) l).getD i []).length≠0:=by
    have h9:=c27
    rw[aW6,hg] at h9
    intro e
    rw[List.eq_nil_of_length_eq_zero e] at h9
    exact absurd h9 (by decide)
   refine sk (rT [0,6,7,8] (s3 (ai (by rw[aW6,hg];exact⟨⟨by omega,by rw[aL];omega⟩,rfl⟩) (ai (by rw[aW6,hg];exact⟨aW8 rfl,rfl⟩) (ai (by rw[aW6,hg];show _+((eI ((size+3) / 4) l).getD i []).length≤9223372036854775807;omega) (s1 (rT [0,6,7,8] (s3 (wq [] [] (⟨(eI ((size+3) / 4) l).length - (i+1),by omega,i+1,rfl,by omega,fun j h=>by by_cases e:j=i;exact e▸hs;exact hk j (by omega),rfl⟩) ?_)))))))))
   repeat' apply ai
   all_goals first|exact qx|exact congrArg D.i (by rw[aB (by omega)];omega)|(rw[hsu,aW6,hg];rfl)|exact qz
 have hi3:i=(eI ((size+3) / 4) l).length:=by simp[aL] at c20;omega
 subst hi3
 have hae:=aD6 hk
 have hal:=aGv hko.2 (aXi _) hk
 rw[aCq] at hal
 clear hi hk
 refine xt (sq (sq (rT [0,7,9] (s2 (bk (SW.loopW (n:=(rA (eI ((size+3) / 4) l)).length - size.toNat) (fun q s=> ∃i:Nat,q=(rA (eI ((size+3) / 4) l)).length - i∧(size.toNat≤i∧i≤(rA (eI ((size+3) / 4) l)).length)∧(∀j,size.toNat≤j→j<i→(rA (eI ((size+3) / 4) l)).getD j 0=0)∧s=[tI 0 size,tD 7 (.s (rA (eI ((size+3) / 4) l))),tI 9 (i:Nat)]) ?_ ?_))))))
 · have hss:size.toNat≤(rA (eI ((size+3) / 4) l)).length:=by omega
   refine wq [] [] (⟨size.toNat,rfl,by omega,fun j h1 h2=>absurd h1 (by omega),rfl⟩) ?_
   repeat' apply ai
   all_goals first|exact qx|exact congrArg D.i (by omega)|(rw[aCq];done)|exact qz
 rintro n s ⟨i,rfl,hi,hk,rfl⟩
 refine sq (sq (rT [0,7,9,38] (s4 (cd rfl (fun c38=> ?_) fun c38=> ?_))))
 · have hi2:i< (rA (eI ((size+3) / 4) l)).length:=by simp at c38;omega
   refine sk (sq (bk (sq (rT [0,7,9,44] (s2 (ai (by omega) (s1 (cd rfl (fun c44=> ?_) fun c44=> ?_))))))))
   · have hnz: (rA (eI ((size+3) / 4) l)).getD i 0≠0:=by
      intro e
      have h9:=c44
      rw[aW6,e] at h9
      exact absurd h9 (by decide)
     refine sq (rT [4,5] (s2 (rt ?_)))
     have hr:=aD9 hin hae (aD7 hi.1 hi2 hnz)
     refine bG rfl rfl ?_
     rw[hr]<;>rfl
   have hs: (rA (eI ((size+3) / 4) l)).getD i 0=0:=by
    have h9:=c44
    rw[aW6] at h9
    have h11: (((rA (eI ((size+3) / 4) l)).getD i 0).toNat:Int)=0:=by simpa only[bne_eq_false_iff_eq] using h9
    apply UInt8.toNat_inj.1
    have h6: (0:UInt8).toNat=0:=rfl
    omega
   refine sk (rT [0,7,9] (s3 (wq [] [] (⟨(rA (eI ((size+3) / 4) l)).length - (i+1),by omega,i+1,rfl,by omega,fun j h1 h2=>by by_cases e:j=i;exact e▸hs;exact hk j h1 (by omega),rfl⟩) ?_)))
   repeat' apply ai
   all_goals first|exact qx|exact congrArg D.i (by rw[aB (by omega)];omega)|exact qz
 have hi3:i=(rA (eI ((size+3) / 4) l)).length:=by simp at c38;omega
 have hz:=aGw (n:=size.toNat) (fun j h1 h2=>hk j h1 (by omega))
 refine xt (sq (rT [4,5] (s2 (ai (by simp[te,fE,gH];omega) (s2 (rt ?_))))))
 have hr:=aGy hin hae hz
 refine bG rfl rfl ?_
 rw[hr]<;>rfl
theorem dx (f:cF):Sp 231 1 [tV 0 f.V] [tB 0 (eO f)]:=by
 refine sb Tryz.func231 rfl (sq (rT [1] (s2 (sq (sq (rT [1,42] (s2 (xp (dL _ _ _) (ai rfl ?_)))))))))
 refine s2 (y2 (xc (fun h=>(dS _)) (ai rfl (ai rk ?_))))
 refine y1 (ai pk (s1 (y2 (xc (fun h=>(dS _)) (ai rfl (ai rk ?_))))))
 refine y1 (ai pk (s1 (y2 (xc (fun h=>(dS _)) (ai rfl (ai rk ?_))))))
 refine y1 (ai pk (s1 (y2 (xc (fun h=>(dS _)) (ai rfl (ai rk ?_))))))
 refine y1 (ai pk (s1 (y2 (xc (fun h=>(dL _ _ _)) (ai rfl (ai rk ?_))))))
 refine y1 (ai pk (s1 (y2 (xc (fun h=>(dL _ _ _)) (ai rfl (ai rk ?_))))))
 refine y1 (ai pk (cd rfl (fun c42=> ?_) fun c42=> ?_))
 · refine sq (rT [2] (s1 (rt (bN rfl (congrArg D.b (Bool.eq_iff_iff.2 ?_))))))
   simp only[eO,gb,aXb,Bool.or_eq_false_iff,Bool.not_eq_false,Bool.or_eq_true,Bool.not_eq_true,beq_iff_eq,decide_eq_true_eq,bne_iff_ne,Bool.not_eq_true,List.length_eq_zero_iff,beq_eq_false_iff_ne,bne_eq_false_iff_eq] at*
   grind[iK]
 refine sk (sq (sq (rT [1,45] (s3 (cd rfl (fun c45=> ?_) fun c45=> ?_)))))
 · refine sq (rD [2] (s4 (xp (tX _ _) (ai rfl ?_))))
   refine s4 (y3 (ai pk (s1 (y3 (ai pk (s1 (y3 (ai pk (s1 (ai (by kernel_rfl) (rt (bN rfl (congrArg D.b (Bool.eq_iff_iff.2 ?_))))))))))))))
   simp only[eO,gb,aXb,Bool.or_eq_false_iff,Bool.not_eq_false,Bool.or_eq_true,Bool.not_eq_true,beq_iff_eq,decide_eq_true_eq,bne_iff_ne,Bool.not_eq_true,List.length_eq_zero_iff,beq_eq_false_iff_ne,bne_eq_false_iff_eq] at*
   grind[iK]
 refine sk (sq (rD [2] (s4 (xp (tX _ _) (ai rfl ?_)))))
 refine s4 (y2 (xc (fun h=>(dL _ _ _)) (ai rfl (ai rk ?_))))
 refine ai pk (s1 (y2 (xc (fun h=>(dL _ _ _)) (ai rfl (ai rk ?_)))))
 refine ai pk (s1 (y4 (ai pk (s1 (ai (by kernel_rfl) (rt (bN rfl (congrArg D.b (Bool.eq_iff_iff.2 ?_)))))))))
 simp only[eO,gb,aXb,Bool.or_eq_false_iff,Bool.not_eq_false,Bool.or_eq_true,Bool.not_eq_true,beq_iff_eq,decide_eq_true_eq,bne_iff_ne,Bool.not_eq_true,List.length_eq_zero_iff,beq_eq_false_iff_ne,bne_eq_false_iff_eq] at*
 grind[iK]
theorem bt (l:List UInt8) (hl:l.length≤140737488355328):Sp 237 1 [tD 0 (.sl (aA l))] [tI 0 (fo l l.length:Nat)]:=by
 refine sb Tryz.func237 rfl (sq (rT [0] (s1 (sq (rT [0,3] (s1 (sq (sq (rT [0,3,4] (s1 (bk (SW.loopW (n:=l.length) (fun n s=> ∃i:Nat,n=l.length - i∧i≤l.length∧s=[tD 0 (.sl (aA l)),tI 3 (fo l i:Nat),tI 4 (i:Nat)]) ?_ ?_))))))))))))
 · refine wq (σ':=[tD 0 (.sl (aA l)),tI 3 (0:Nat),tI 4 (0:Nat)]) [] [] (⟨0,rfl,aXd _,rfl⟩) ?_
   repeat' apply ai
   all_goals first|exact qx|(simp[aU];done)|exact qz
 rintro n s ⟨i,rfl,hi,rfl⟩
 refine sq (sq (rT [0,3,4,8] (s4 (cd rfl (fun c8=> ?_) fun c8=> ?_))))
 · refine sk (sq (bk (rT [0,3,4] (s2 (ai (by decide) (s3 (ai (by have hb:=jL (l:=l) (i:=i) (by simpa[aU] using c8);refine⟨⟨by omega,by simpa[aU] using c8⟩,?_⟩;simp only[aW6];rw[hb];rfl) (ai (by have hb:=jL (l:=l) (i:=i) (by simpa[aU] using c8);simp only[aW6];rw[hb];exact⟨aXi _,rfl⟩) (s3 (ai (by decide) (s1 (rT [0,3,4] (s3 ?_)))))))))))))
   have hi2:i<l.length:=by simpa[aU] using c8
   have hb:=jL (l:=l) (i:=i) hi2
   refine wq [] [] (⟨l.length - (i+1),by omega,i+1,rfl,by omega,rfl⟩) ?_
   repeat' apply ai
   all_goals first|exact qx|(rw[aW6,hb];exact congrArg D.i (vw l i))|(rw[hb];exact congrArg D.i (vw l i))|(exact congrArg D.i (aB (by omega)))|exact qz
 refine xt (sq (rT [2] (s2 (rt (bN rfl ?_)))))
 have e:i=l.length:=by simp[aU] at c8;omega
 subst e;rfl
theorem vU (l:List UInt8): ∀r∈aA l,r.length=1:=by
 intro r hr
 obtain⟨b,_,rfl⟩:=aXk.1 hr
 rfl
theorem sX (l:List UInt8) (n:Int) (hl:l.length≤1073741824) (hn:0≤n∧n<65536):Sp 236 2 [tO 0 0 l.length,tI 1 n,oR 0 5 1 (aA l)] [tO 0 0 (l++two n).length,oR 0 5 1 (aA (l++two n))]:=by
 refine sb Tryz.func236 rfl (sq (rT [0,1] (s1 (sq (rT [4] (s8 (ai (by refine⟨rfl,by simp[aU],by simp,?_⟩;show(_+2)*1≤_;omega) (s1 (rt (rq [] [] rfl ?_))))))))))
 repeat' apply ai
 all_goals try exact qx
 all_goals first|(simp[aU,two];done)|(rw[aOt hn,gU])
theorem sH (f:cF):Sp 230 1 [tV 0 f.V] [tO 0 0 (pX f).length,oR 0 5 1 (aA (pX f))]:=by
 refine sb Tryz.func230 rfl (sq (rT [1] (s2 (sq (rT [1,3] (s2 (sq (sq (rT [1,3,7] (s1 (xp (dx _) (ai rfl ?_))))))))))))
 refine s1 (cd rfl (fun c7=> ?_) fun c7=> ?_)
 · refine sq (rT [2] (s2 (rt (rq [(0,4)] [] rfl ?_))))
   repeat' apply ai
   all_goals try exact qx
   all_goals(simp at c7;simp[pX,c7,aA])
 have hok:eO f=true:=by simpa using c7
 obtain⟨k1,k2,k3,k4,k5,k6,k7,k8⟩:=mF hok
 have hlen:=ku hok
 have hsum:=aDj (fH f) (fH f).length
 refine sk (sq (rT [1,3] (s9 (s9 (s4 (sq (wa [tP 1 1,tO 3 4 (el f).length,oB 1 63 [.d (.i f.kind),.d (.i f.src),.d (.i f.dst),.d (.i f.frm),.d (.i f.num),.d (.i f.to),.d (.i f.til),.d (.i f.size),.d (.i f.mix),.d (.s f.data)],oR 4 5 1 (aA (el f))] [] [] ?_ ?_)))))))
 · repeat' apply ai
   all_goals first|exact qx|exact aDk hok|rfl|exact qz
 refine rT [1,3] (s3 (bK (robj:=[(4,_)]) (rl:=[(0,4)]) (bor:=[]) (sX (el f) f.til (by simp[el]) (by omega)) rfl rfl rfl rfl ⟨jA rfl rfl rfl rfl (cI rfl rfl (bV rfl rfl trivial)),rfl⟩ rfl (.inl rfl) (fun p hp=>by simp at hp;subst hp;rfl) (fun _ hj=>nomatch hj) (s1 (sq (sq (wa [tP 1 1,tO 3 4 (lF f).length,oB 1 63 [.d (.i f.kind),.d (.i f.src),.d (.i f.dst),.d (.i f.frm),.d (.i f.num),.d (.i f.to),.d (.i f.til),.d (.i f.size),.d (.i f.mix),.d (.s f.data)],oR 4 5 1 (aA (lF f))] [] [] qz (rT [1,3,36] (s3 (cd rfl (fun c36=> ?_) fun c36=> ?_)))))))))
 · have hk:f.kind=1:=by simpa using c36
   obtain⟨m1,m2,m3⟩:=k8 hk
   refine sq (rT [1,3] (s5 (ai (by refine⟨rfl,aU _,by simp,?_⟩;show(_+1)*1≤_;simp[lF,two]) (s1 (sq (wa [tP 1 1,tO 3 4 (lF f++[b8 f.size]).length,oB 1 63 [.d (.i f.kind),.d (.i f.src),.d (.i f.dst),.d (.i f.frm),.d (.i f.num),.d (.i f.to),.d (.i f.til),.d (.i f.size),.d (.i f.mix),.d (.s f.data)],oR 4 5 1 (aA (lF f++[b8 f.size]))] [] [] ?_ ?_))))))
   · repeat' apply ai
     all_goals first|exact qx|rfl|(simp[aU];done)|(rw[← gU,ik (by omega)];rfl)|exact qz
   refine rT [1,3] (s3 (bK (robj:=[(4,_)]) (rl:=[(0,4)]) (bor:=[]) (sX (lF f++[b8 f.size]) f.mix (by simp[lF,two]) (by omega)) rfl rfl rfl rfl ⟨jA rfl rfl rfl rfl (cI rfl rfl (bV rfl rfl trivial)),rfl⟩ rfl (.inl rfl) (fun p hp=>by simp at hp;subst hp;rfl) (fun _ hj=>nomatch hj) (s1 (wa [tP 1 1,tO 3 4 (lF f++[b8 f.size]++two f.mix).length,oB 1 63 [.d (.i f.kind),.d (.i f.src),.d (.i f.dst),.d (.i f.frm),.d (.i f.num),.d (.i f.to),.d (.i f.til),.d (.i f.size),.d (.i f.mix),.d (.s f.data)],oR 4 5 1 (aA (lF f++[b8 f.size]++two f.mix))] [] [] qz (rT [3] (s3 (ai (by rw[m3];decide) (ai (by refine⟨aU _,aU _,vU _,?_⟩;show(_+_)*1≤_;simp[aU,m3,lF,two]) (s1 (sq (wa [tO 3 4 (fH f).length,oR 4 5 1 (aA (fH f))] [] [] ?_ ?_)))))))))))
   · repeat' apply ai
     all_goals first|exact qx|(rw[co hk];done)|(rw[gU];simp[fH,hk];done)|(simp[fH,hk,aU];omega)|exact qz
   refine rT [2] (s2 (bK (robj:=[(4,.row 5 1 (aA (fH f)))]) (rl:=[]) (bor:=[4]) (bt (fH f) (by omega)) rfl rfl rfl rfl ⟨eW rfl rfl rfl ?_ rfl trivial,rfl⟩ rfl (.inr (wc _)) (fun p hp=>by simp at hp;subst hp;rfl) (fun _ hj=>nomatch hj) ?_))
   · exact aU _
   refine bK (robj:=[(4,_)]) (rl:=[(0,4)]) (bor:=[]) (sX (fH f) (fo (fH f) (fH f).length) (by omega) (by omega)) rfl rfl rfl rfl ⟨jA rfl rfl rfl rfl (cI rfl rfl (bV rfl rfl trivial)),rfl⟩ rfl (.inl rfl) (fun p hp=>by simp at hp;subst hp;rfl) (fun _ hj=>nomatch hj) (s1 (rt (rq [(0,4)] [] rfl ?_)))
   repeat' apply ai
   all_goals try exact qx
   all_goals first|(rw[qO,if_pos hok];done)|(rw[qO,if_pos hok])
 have hk: ¬f.kind=1:=by simpa using c36
 refine sk (sq (wa [tO 3 4 (fH f).length,oR 4 5 1 (aA (fH f))] [] [] ?_ ?_))
 · repeat' apply ai
   all_goals first|exact qx|(rw[co hk];done)|(rw[gU];simp[fH,hk];done)|(simp[fH,hk,aU];omega)|exact qz
 refine rT [2] (s2 (bK (robj:=[(4,.row 5 1 (aA (fH f)))]) (rl:=[]) (bor:=[4]) (bt (fH f) (by omega)) rfl rfl rfl rfl ⟨eW rfl rfl rfl ?_ rfl trivial,rfl⟩ rfl (.inr (wc _)) (fun p hp=>by simp at hp;subst hp;rfl) (fun _ hj=>nomatch hj) ?_))
 · exact aU _
 refine bK (robj:=[(4,_)]) (rl:=[(0,4)]) (bor:=[]) (sX (fH f) (fo (fH f) (fH f).length) (by omega) (by omega)) rfl rfl rfl rfl ⟨jA rfl rfl rfl rfl (cI rfl rfl (bV rfl rfl trivial)),rfl⟩ rfl (.inl rfl) (fun p hp=>by simp at hp;subst hp;rfl) (fun _ hj=>nomatch hj) (s1 (rt (rq [(0,4)] [] rfl ?_)))
 repeat' apply ai
 all_goals try exact qx
 all_goals first|(rw[qO,if_pos hok];done)|(rw[qO,if_pos hok])
theorem jk (l:List UInt8):Sp 217 1 [tD 0 (.sl (aA l))] [tV 0 (.tup [.agg [.d (.i (hD l).kind),.d (.i (hD l).src),.d (.i (hD l).dst),.d (.i (hD l).frm),.d (.i (hD l).num),.d (.i (hD l).to),.d (.i (hD l).til),.d (.i (hD l).size),.d (.i (hD l).mix),.d (.s (hD l).data)],.c (.d (.b (mT l)))])]:=by
 refine sb Tryz.func217 rfl (sq (rT [0,2] (s2 (sq (sq (rT [0,2,12] (s4 (y2 (y1 (ai pk (cd rfl (fun c12=> ?_) fun c12=> ?_)))))))))))
 · have hL:l.length≠10∧l.length≠17:=by simp[aU] at c12;omega
   refine sq (rT [2,3] (s3 (rt (bG rfl rfl ?_))))
   have hno:mT l=false:=by simp[mT,hL.1,hL.2]
   simp only[hD,hno,Bool.false_eq_true,if_false,em]
   rfl
 have hL:l.length=10∨l.length=17:=by
  by_cases h9:l.length=10
  · exact .inl h9
  · right;simp[aU] at c12;omega
 refine sk (sq (rD [0,2,4] (s1 (ai (ixB (by omega) (by omega)) (ai (ldB (by omega) (by omega)) (s1 (s1 (ai (ixB (by omega) (by omega)) (ai (ldB (by omega) (by omega)) (s1 (s1 (ai (ixB (by omega) (by omega)) (ai (ldB (by omega) (by omega)) (s1 (s1 (ai (ixB (by omega) (by omega)) (ai (ldB (by omega) (by omega)) (s1 (s1 (ai (ixB (by omega) (by omega)) (ai (ldB (by omega) (by omega)) (s1 (s1 (ai (ixB (by omega) (by omega)) (ai (ldB (by omega) (by omega)) (s1 (s1 (ai (ixB (by omega) (by omega)) (ai (ldB (by omega) (by omega)) (s1 (s2 (ai (ixB (by omega) (by omega)) (ai (ldB (by omega) (by omega)) (s4 (s1 (ai (by kernel_rfl) (sq (sq (rT [0,2,4,51] (s3 (cd rfl (fun c51=> ?_) fun c51=> ?_)))))))))))))))))))))))))))))))))))))))))
 · have h17:l.length=17:=by simp[aU] at c51;omega
   refine sq (rT [0,2,4] (s1 (ai (ixB (by omega) (by omega)) (ai (ldB (by omega) (by omega)) (s1 (s2 (sq (rD [0,2,4] (s1 (ai (ixB (by omega) (by omega)) (ai (ldB (by omega) (by omega)) (s1 (s2 (ai (ixB (by omega) (by omega)) (ai (ldB (by omega) (by omega)) (s4 (ai (by kernel_rfl) (rT [0,2,4] (s1 (ai (by refine⟨by simp[te,fE,gH,aU,h17],vU l⟩) (ai (by rw[xA];exact xB l 11 15) (s1 (s1 (sq (sq (wa [tD 0 (.sl (aA l)),tP 2 2,tP 4 4,oB 2 63 [.d (.i 0),.d (.i 0),.d (.i 0),.d (.i 0),.d (.i 0),.d (.i 0),.d (.i 0),.d (.i 0),.d (.i 0),.d (.s [])],oB 4 63 [.d (.i (cR l).kind),.d (.i (cR l).src),.d (.i (cR l).dst),.d (.i (cR l).frm),.d (.i (cR l).num),.d (.i (cR l).to),.d (.i (cR l).til),.d (.i (cR l).size),.d (.i (cR l).mix),.d (.s (cR l).data)]] [] [] ?_ ?_))))))))))))))))))))))))))
   · repeat' apply ai
     all_goals first|exact qx|(rw[aDm (by decide) (by omega),aDm (by decide) (by omega)];(first|simp only[cR,if_neg h17]|simp only[cR,if_pos h17]);exact congrArg D.i (aBw (kI _ _) (kI _ _)).1)|(rw[aDm (by decide) (by omega)];(first|simp only[cR,if_neg h17]|simp only[cR,if_pos h17]);first|done|rfl)|((first|simp only[cR,if_neg h17]|simp only[cR,if_pos h17]);done)|((first|simp only[cR,if_neg h17]|simp only[cR,if_pos h17]);exact congrArg D.s (xA _ _ _))|exact qz
   refine rD [2,4,77] (s1 (kv [(0,73)] (sH (cR l)) rfl rfl rfl rfl rfl rfl rfl (fun j hj=>by(obtain rfl:j=0:=by simpa[kN,cD,iO] using hj);rfl) (ai (by exact⟨aU _,(congrArg aA (cG _)).symm⟩) (s1 (ai (by exact(congrArg aA (cG _)).symm) (s1 (ai (by kernel_rfl) (cd rfl (fun c77=> ?_) fun c77=> ?_))))))))
   · refine sq (rT [2,3] (s3 (rt (bG rfl rfl ?_))))
     have hno:mT l=false:=by(simp[cG] at c77;simp[mT,c77])
     simp only[hD,hno,Bool.false_eq_true,if_false,em]
     rfl
   refine sk (sq (rT [2,3] (s3 (rt (bG rfl rfl ?_)))))
   have hyes:mT l=true:=by(simp[cG] at c77;rcases hL with h|h<;>simp[mT,h,c77])
   simp only[hD,hyes,if_true]
   rfl
 have h17: ¬l.length=17:=by simp[aU] at c51;omega
 refine sk (sq (sq (wa [tD 0 (.sl (aA l)),tP 2 2,tP 4 4,oB 2 63 [.d (.i 0),.d (.i 0),.d (.i 0),.d (.i 0),.d (.i 0),.d (.i 0),.d (.i 0),.d (.i 0),.d (.i 0),.d (.s [])],oB 4 63 [.d (.i (cR l).kind),.d (.i (cR l).src),.d (.i (cR l).dst),.d (.i (cR l).frm),.d (.i (cR l).num),.d (.i (cR l).to),.d (.i (cR l).til),.d (.i (cR l).size),.d (.i (cR l).mix),.d (.s (cR l).data)]] [] [] ?_ ?_)))
 · repeat' apply ai
   all_goals first|exact qx|(rw[aDm (by decide) (by omega),aDm (by decide) (by omega)];(first|simp only[cR,if_neg h17]|simp only[cR,if_pos h17]);exact congrArg D.i (aBw (kI _ _) (kI _ _)).1)|(rw[aDm (by decide) (by omega)];(first|simp only[cR,if_neg h17]|simp only[cR,if_pos h17]);first|done|rfl)|((first|simp only[cR,if_neg h17]|simp only[cR,if_pos h17]);done)|((first|simp only[cR,if_neg h17]|simp only[cR,if_pos h17]);exact congrArg D.s (xA _ _ _))|exact qz
 refine rD [2,4,77] (s1 (kv [(0,73)] (sH (cR l)) rfl rfl rfl rfl rfl rfl rfl (fun j hj=>by(obtain rfl:j=0:=by simpa[kN,cD,iO] using hj);rfl) (ai (by exact⟨aU _,(congrArg aA (cG _)).symm⟩) (s1 (ai (by exact(congrArg aA (cG _)).symm) (s1 (ai (by kernel_rfl) (cd rfl (fun c77=> ?_) fun c77=> ?_))))))))
 · refine sq (rT [2,3] (s3 (rt (bG rfl rfl ?_))))
   have hno:mT l=false:=by(simp[cG] at c77;simp[mT,c77])
   simp only[hD,hno,Bool.false_eq_true,if_false,em]
   rfl
 refine sk (sq (rT [2,3] (s3 (rt (bG rfl rfl ?_)))))
 have hyes:mT l=true:=by(simp[cG] at c77;rcases hL with h|h<;>simp[mT,h,c77])
 simp only[hD,hyes,if_true]
 rfl
theorem cK (l:List UInt8) (p n:Int) (hp:0≤p∧p≤1000000) (hl:l.length≤2000):Sp 78 2 [tP 0 0,tI 1 n,oB 0 137 [.d (.sl (aA l)),.d (.i (p))]] [tI 0 (bO l p n),oB 0 137 [.d (.sl (aA l)),.d (.i (p+1))]]:=by
 refine sb Tryz.func78 rfl (sq (rT [0,1] (s1 (sq (rT [0,1] (s9 (sq (sq (wa [tP 0 0,tI 1 n,oB 0 137 [.d (.sl (aA l)),.d (.i (p+1))]] [] [] ?_ ?_)))))))))
 · repeat' apply ai
   all_goals first|exact qx|exact congrArg D.i (aB (by omega))|exact qz
 refine rT [0,1,24] (s3 (y4 (y2 (ai pk (cd rfl (fun c24=> ?_) fun c24=> ?_)))))
 · refine sq (rT [4] (s1 (rt (rq [] [] rfl ?_))))
   repeat' apply ai
   all_goals try exact qx
   all_goals first|with_reducible rfl|skip
   refine congrArg D.i ?_
   unfold bO
   refine(if_pos ?_).symm
   by_cases h9:n<1
   · exact .inl h9
   right;simp[h9,aU,gb] at c24;simp[c24]
 have hn:1≤n∧1≤((aA l).length:Int):=by
  by_cases h9:n<1
  · simp[h9] at c24
  · refine⟨by omega,?_⟩;simp[h9,aU,gb] at c24 ⊢; have:=List.length_pos_iff.2 c24;omega
 have hlr:=aU l
 refine sk (sq (rT [0,1,5] (s6 (sq (sq (wa [tP 0 0,tI 1 n,tI 5 p,oB 0 137 [.d (.sl (aA l)),.d (.i (p+1))]] [] [] ?_ ?_))))))
 · repeat' apply ai
   all_goals first|exact qx|((refine congrArg D.i ?_;rw[aB (by omega)];omega))|exact qz
 refine rT [0,1,5,36] (s7 (cd rfl (fun c36=> ?_) fun c36=> ?_))
 · have hi:p< ((aA l).length:Int):=by simpa using c36
   refine sq (rT [4] (s5 (ai (ixB (by omega) (by omega)) (ai (ldB (by omega) (by omega)) (s2 (ai (by omega) (s1 (rt (rq [] [] rfl ?_)))))))))
   repeat' apply ai
   all_goals try exact qx
   all_goals first|with_reducible rfl|skip
   refine congrArg D.i ?_
   rw[aDm hp.1 (by omega)]
   unfold bO
   rw[if_neg (by omega),if_pos (by omega)]
 have hi: ¬p< ((aA l).length:Int):=by simpa using c36
 refine sk (sq ?_)
 have r1:=nV (x:=p) (n:=((aA l).length:Int)) hp.1 (by omega)
 have r2:=nV (x:=wrap64 (wrap64 (p*7)+3)) (n:=((aA l).length:Int)) (by rw[aB (n:=p*7) (by omega),aB (by omega)];omega) (by omega)
 have r3:=pP (x:=p) (n:=((aA l).length:Int)) hp.1 (by omega)
 refine rD [1,6] (s9 (s1 (ai (by omega) (ai (ixB (by omega) (by omega)) (ai (ldB (by omega) (by omega)) (s9 (s5 (ai (by omega) (ai (ixB (by omega) (by omega)) (ai (ldB (by omega) (by omega)) (s9 (s3 (ai (by omega) (s3 (ai (by kernel_rfl) (sq (rT [1,6] (s2 (ai (by decide) (s2 (sq (rT [4] (s2 (ai (by omega) (s1 (rt (rq [] [] rfl ?_)))))))))))))))))))))))))))
 repeat' apply ai
 all_goals try exact qx
 all_goals first|with_reducible rfl|skip
 refine congrArg D.i ?_
 rw[aDm r1.1 (by omega),aDm r2.1 (by omega)]
 unfold bO
 rw[if_neg (by omega),if_neg (by omega),hlr]
theorem gr (l:List UInt8) (hl:l.length≤140737488355328):Sp 76 1 [tD 0 (.sl (aA l))] [tP 0 0,oB 0 137 [.d (.sl (aA (l.take 2000))),.d (.i (0))]]:=by
 refine sb Tryz.func76 rfl (sq (rT [0] (s1 (sq (sq (rT [0,5] (s3 (cd rfl (fun c5=> ?_) fun c5=> ?_))))))))
 · refine rT [0] (s1 (ai (by refine⟨by simp[te,fE,gH,aU] at *; omega,vU l⟩) (s1 (sq (rT [2] (s4 (rt (rq [(0,10)] [] rfl ?_))))))))
   repeat' apply ai
   all_goals try exact qx
   all_goals first|with_reducible rfl|skip
   first|exact congrArg D.sl (xB l 0 2000)|(refine congrArg D.sl (congrArg aA ?_);symm;apply List.take_of_length_le;simp[aU] at c5;omega)
 refine sk (sq (rT [2] (s4 (rt (rq [(0,10)] [] rfl ?_)))))
 repeat' apply ai
 all_goals try exact qx
 all_goals first|with_reducible rfl|skip
 first|exact congrArg D.sl (xB l 0 2000)|(refine congrArg D.sl (congrArg aA ?_);symm;apply List.take_of_length_le;simp[aU] at c5;omega)
theorem aNa (l:List UInt8) (p:Int) (rs:List (List UInt8)) (hr:1≤rs.length) (hp:0≤p∧p≤1000000) (hl:l.length≤2000):ui 134 2 [tP 0 0,tD 1 (.sl (bB rs)),oB 0 137 [.d (.sl (aA l)),.d (.i (p))]] (fun s=> ∃x:List UInt8,x∈rs∧s=[tD 0 (.s x),oB 0 137 [.d (.sl (aA l)),.d (.i (p+1))]]):=by
 have hv:=cC l (p:=p) (n:=((bB rs).length:Int)) hp (by rw[aL];omega)
 have hsl:=aL rs
 refine yv Tryz.func134 rfl (sq (rT [0,1] (s1 (sq (rT [4] (s4 (bK (robj:=[(0,.box 137 [.d (.sl (aA (l))),.d (.i (p))])]) (rl:=[(0,0)]) (bor:=[]) (cK (l) (p) _ (by omega) hl) rfl rfl rfl rfl ⟨bU rfl rfl rfl rfl (cI rfl rfl (aV rfl (aD rfl (aD rfl aJ)) trivial)),rfl⟩ rfl (.inl rfl) (aI ⟨rfl,trivial⟩) (fun _ hj=>nomatch hj) (ai (ixS (by omega) (by omega)) (ai (ldS (by omega) (by omega)) (s1 (rt (cW _ ⟨rs.getD (bO l p ((bB rs).length:Int)).toNat [],?_,rfl⟩ (eA _ [] [] rfl ?_ rfl rfl)))))))))))))
 · rw[aXe,aXg (by omega)];exact List.getElem_mem _
 refine qs ?_
 repeat' first|exact qx|apply ai
 all_goals first|with_reducible rfl|exact congrArg D.s (aRi (by omega) (by omega))
theorem pF (a:List UInt8) (n:Int) (ha:a.length=1) (hn:0≤n∧n≤100000):ui 164 2 [tD 0 (.s a),tI 1 n] (fun s=> ∃x:List UInt8,x.length≤n.toNat∧s=[tD 0 (.s x)]):=by
 refine yv Tryz.func164 rfl (sq (rT [0,1] (s1 (sq (rT [0,1,5] (s1 (sq (bk (SW.loopW (n:=n.toNat) (fun m s=> ∃(x b:List UInt8) (k:Nat),m=k∧(x.length+b.length*k≤n.toNat∧b.length≤2*n.toNat+1∧k≤n.toNat)∧s=[tD 0 (.s b),tI 1 (k),tD 5 (.s x)]) ?_ ?_)))))))))
 · refine wq [] [] (⟨[],a,n.toNat,rfl,⟨by first|(simp[ha];done)|(simp[ha];omega),by omega,by omega⟩,rfl⟩) ?_
   repeat' apply ai
   all_goals first|exact qx|(refine congrArg D.i ?_;omega)|(simp;done)|exact qz
 rintro n s ⟨x,b,k,hmk,hk,rfl⟩
 refine sq (sq (rT [0,1,5,7] (s2 (cd rfl (fun c7=> ?_) fun c7=> ?_))))
 · have hk1:0<k:=by simpa using c7
   have h11:b.length≤b.length*k:=Nat.le_mul_of_pos_right _ hk1
   refine sk (bk (sq (sq (rT [0,1,5,10] (s1 (ai (by decide) (s1 (cd rfl (fun c10=> ?_) fun c10=> ?_))))))))
   · refine rT [0,1,5] (s2 (ai (by show _≤9223372036854775807;omega) (s1 (sq (rT [0,1,5] (s2 (ai (by show _≤9223372036854775807;omega) (s1 (rT [0,1,5] (s1 (ai (by decide) (s1 ?_))))))))))))
     have hm:aXm (k:Int) 2=((k % 2:Nat):Int):=by rw[Int.tmod_eq_emod_of_nonneg (by omega)];omega
     have hd:Int.tdiv (k:Int) 2=((k / 2:Nat):Int):=by rw[Int.tdiv_eq_ediv_of_nonneg (by omega)];omega
     obtain⟨j,hj⟩: ∃j,k=2*j∨k=2*j+1:=⟨k / 2,by omega⟩
     have h8:b.length*k=2*(b.length*j)∨b.length*k=2*(b.length*j)+b.length:=by
      rcases hj with h|h
      · left;rw[h,Nat.mul_left_comm]
      · right;rw[h,Nat.mul_add,Nat.mul_left_comm,Nat.mul_one]
     have h9: (b++b).length*(k / 2)=2*(b.length*j):=by
      rw[aW7,show k / 2=j by omega,aXp];omega
     have h10:b.length≤b.length*k:=Nat.le_mul_of_pos_right _ (by omega)
     first
     |(refine wq [] [] (⟨k / 2,by omega,x++b,b++b,k / 2,rfl,⟨by rw[h9,aW7];have:k % 2=1:=(by simp[hm] at c10;omega);have:=congrArg (b.length* ·) (show k=2*j+1 by omega);simp only[Nat.mul_add,Nat.mul_one,Nat.mul_left_comm b.length 2 j] at this;omega,by rw[aW7];omega,by omega⟩,rfl⟩) ?_
       repeat' apply ai
       all_goals first|exact qx|(refine congrArg D.i ?_;rw[hd,aB (by omega)])|exact qz)
     |(refine wq [] [] (⟨k / 2,by omega,x,b++b,k / 2,rfl,⟨by rw[h9];omega,by rw[aW7];omega,by omega⟩,rfl⟩) ?_
       repeat' apply ai
       all_goals first|exact qx|(refine congrArg D.i ?_;rw[hd,aB (by omega)])|exact qz)
   refine sk (sq (rT [0,1,5] (s2 (ai (by show _≤9223372036854775807;omega) (s1 (rT [0,1,5] (s1 (ai (by decide) (s1 ?_)))))))))
   have hm:aXm (k:Int) 2=((k % 2:Nat):Int):=by rw[Int.tmod_eq_emod_of_nonneg (by omega)];omega
   have hd:Int.tdiv (k:Int) 2=((k / 2:Nat):Int):=by rw[Int.tdiv_eq_ediv_of_nonneg (by omega)];omega
   obtain⟨j,hj⟩: ∃j,k=2*j∨k=2*j+1:=⟨k / 2,by omega⟩
   have h8:b.length*k=2*(b.length*j)∨b.length*k=2*(b.length*j)+b.length:=by
    rcases hj with h|h
    · left;rw[h,Nat.mul_left_comm]
    · right;rw[h,Nat.mul_add,Nat.mul_left_comm,Nat.mul_one]
   have h9: (b++b).length*(k / 2)=2*(b.length*j):=by
    rw[aW7,show k / 2=j by omega,aXp];omega
   have h10:b.length≤b.length*k:=Nat.le_mul_of_pos_right _ (by omega)
   first
   |(refine wq [] [] (⟨k / 2,by omega,x++b,b++b,k / 2,rfl,⟨by rw[h9,aW7];have:k % 2=1:=(by simp[hm] at c10;omega);have:=congrArg (b.length* ·) (show k=2*j+1 by omega);simp only[Nat.mul_add,Nat.mul_one,Nat.mul_left_comm b.length 2 j] at this;omega,by rw[aW7];omega,by omega⟩,rfl⟩) ?_
     repeat' apply ai
     all_goals first|exact qx|(refine congrArg D.i ?_;rw[hd,aB (by omega)])|exact qz)
   |(refine wq [] [] (⟨k / 2,by omega,x,b++b,k / 2,rfl,⟨by rw[h9];omega,by rw[aW7];omega,by omega⟩,rfl⟩) ?_
     repeat' apply ai
     all_goals first|exact qx|(refine congrArg D.i ?_;rw[hd,aB (by omega)])|exact qz)
 refine xt (sq (rT [4] (s2 (rt ?_))))
 exact cW _ ⟨x,by omega,rfl⟩ (bN rfl rfl)
end Go.Proofs.YthbgjfegalcenaaGreatDoor
namespace Go.Ab
open Int renaming toNat_natCast→aW6,tmod→aXm
open List renaming length_append→aW7,length_cons→aW9,length_nil→aXa,length_take→aXc,getD_eq_getElem?_getD→aXe,length_drop→aXf,getElem?_eq_getElem→aXg,getElem?_eq_some_iff→aXh,range→aXj,mem_map→aXk,all_eq_true→aXl,take_length→aXn,mem_singleton→aXo,mem_iff_getElem?→aXq,mem_cons→aXr
open Nat renaming le_of_ble_eq_true→aW8,zero_le→aXd,le_refl→aXi,add_mul→aXp
open Bool renaming and_eq_true→aXb
open Go Go.RowKit
set_option linter.unusedVariables false
structure fK where
 tm:Int
 ks:List aH
 ls:List Bool
 a:Nat
 b:Nat
 c:Nat
 d:Nat
def fK.ok (W:fK):Prop:=WOk W.ks W.ls W.a W.b W.c
structure fK.of (W W0:fK) (m:Nat):Prop where
 ok:W.ok
 few:W.d≤W0.d+m
theorem fK.of.refl {W:fK} (h:W.ok):W.of W 0:=⟨h,aXi _⟩
theorem fK.of.trans {W1 W2 W0:fK} {m n:Nat} (h:W1.of W0 m) (k:W2.of W1 n):W2.of W0 (m+n):=⟨k.ok,by have:=h.few;have:=k.few;omega⟩
theorem fK.of.le {W W0:fK} {m n:Nat} (h:W.of W0 m) (hn:m≤n):W.of W0 n:=⟨h.ok,by have:=h.few;omega⟩
def gQ (n:Int):aH:=if eR n then⟨n,true,[],0,[]⟩ else .zero
def rJ (n:Nat):List aH:=(aXj n).map fun i:Nat=>gQ (i:Int)
theorem lY (n:Nat): (rJ n).length=n:=by simp[rJ]
theorem aEl (n:Nat):rJ (n+1)=rJ n++[gQ (n:Int)]:=by simp[rJ,List.range_succ]
theorem tv (l:List aH) (k:aH):aG l++[k.row]=aG (l++[k]):=by simp[aG]
theorem rK (n:Nat):aG (rJ n)++[(gQ (n:Int)).row]=aG (rJ (n+1)):=by rw[aEl,tv]
def yes (n:Nat):List Bool:=List.replicate n true
theorem sI (n:Nat): (yes n).length=n:=by simp[yes]
theorem uS (n:Nat):aM (yes n)++[[.b true]]=aM (yes (n+1)):=by
 rw[yes,yes,List.replicate_succ']
 simp[aM]
theorem wQ (n:Int):ju (gQ n):=by
 unfold gQ
 split
 · exact⟨aXd _,aXd _,fun x h=>by cases h⟩
 · exact rC
def eY:fK:=⟨0,rJ 4,yes 3,0,0,0,0⟩
theorem aG8:eY.ok:=⟨lY 4,fun k hk=>by
 obtain⟨i,_,rfl⟩:=aXk.1 hk
 exact wQ _,sI 3,aXd _,aXd _,aXd _⟩
set_option linter.unusedSimpArgs false
abbrev R1 (x:Int):Prop:= -1≤x∧x≤1001
def ND (n:bA):Prop:=(R1 n.frm∧R1 n.num∧R1 n.to∧R1 n.til)∧n.text.length≤60
theorem qn {n:Int} (h:R1 n): (pa n).length≤8:=by
 have q1:=bS (k:=6) (n:=(-n).toNat) (by simp;omega)
 have q2:=bS (k:=6) (n:=n.toNat) (by simp;omega)
 unfold pa
 split
 · rw[aW9];omega
 · omega
theorem eD {l:List Int} {j:Nat} (h: ∀v∈l,R1 v) (hj:j<l.length):R1 (zy (((cZ l).getD j []).getD 0 (.i 0))):=by
 rw[gV hj]
 exact h _ (dB (z:=0) hj)
end Go.Ab
namespace Go.Proofs.YthbgjfegalcenaaGreatDoor
open Int renaming toNat_natCast→aW6,tmod→aXm
open List renaming length_append→aW7,length_cons→aW9,length_nil→aXa,length_take→aXc,getD_eq_getElem?_getD→aXe,length_drop→aXf,getElem?_eq_getElem→aXg,getElem?_eq_some_iff→aXh,range→aXj,mem_map→aXk,all_eq_true→aXl,take_length→aXn,mem_singleton→aXo,mem_iff_getElem?→aXq,mem_cons→aXr
open Nat renaming le_of_ble_eq_true→aW8,zero_le→aXd,le_refl→aXi,add_mul→aXp
open Bool renaming and_eq_true→aXb
open Go Go.Ab Go.RowKit
set_option linter.unusedVariables false
set_option linter.unusedSimpArgs false
set_option maxRecDepth 9000
theorem ze (l:List UInt8) (p:Int) (hp:0≤p∧p≤900000) (hl:l.length≤2000):ui 135 1 [tP 0 0,oB 0 137 [.d (.sl (aA l)),.d (.i (p))]] (fun s=> ∃(x:List UInt8) (q:Int),(p≤q∧q≤p+40∧x.length≤60)∧s=[tD 0 (.s x),oB 0 137 [.d (.sl (aA l)),.d (.i (q))]]):=by
 have hl2:=hl
 refine yv Tryz.func135 rfl (sq (rT [0] (s1 (sq (sq (rT [0,6] (s1 (bK (robj:=[(0,.box 137 [.d (.sl (aA (l))),.d (.i (p))])]) (rl:=[(0,0)]) (bor:=[]) (cK (l) (p) _ (by omega) hl2) rfl rfl rfl rfl ⟨bU rfl rfl rfl rfl (cI rfl rfl (aV rfl (aD rfl (aD rfl aJ)) trivial)),rfl⟩ rfl (.inl rfl) (aI ⟨rfl,trivial⟩) (fun _ hj=>nomatch hj) (bk (sq (rT [0,6,7] (s2 (cd rfl (fun c7=> ?_) fun c7=> ?_)))))))))))))
 · refine sq (rE [2] (s1 (cP (robj:=[]) (rl:=[]) (bor:=[]) (news:=[]) (pF [120] 24 rfl (by omega)) rfl rfl rfl rfl ⟨cI rfl rfl (cI rfl rfl (trivial)),rfl⟩ (by rintro _ ⟨x1,hx1,rfl⟩;exact⟨rfl,.inl rfl,fun j hj=>nomatch hj⟩) (fun p hp=>nomatch hp) (fun j hj=>nomatch hj) ?_)))
   rintro _ ⟨x1,hx1,rfl⟩
   refine cP (robj:=[]) (rl:=[]) (bor:=[]) (news:=[]) (pF [121] 25 rfl (by omega)) rfl rfl rfl rfl ⟨cI rfl rfl (cI rfl rfl (trivial)),rfl⟩ (by rintro _ ⟨x2,hx2,rfl⟩;exact⟨rfl,.inl rfl,fun j hj=>nomatch hj⟩) (fun p hp=>nomatch hp) (fun j hj=>nomatch hj) ?_
   rintro _ ⟨x2,hx2,rfl⟩
   refine ai (by exact⟨by simp,aW8 rfl⟩) (zF 12 12 rfl rfl rfl rfl (cP (robj:=[(0,.box 137 [.d (.sl (aA (l))),.d (.i (p+1))])]) (rl:=[(0,0)]) (bor:=[]) (news:=[]) (aNa (l) (p+1) (([[],x1,x2,[0,1],[97,10]]:List (List UInt8))) (by simp) (by omega) hl2) rfl rfl rfl rfl ⟨bU rfl rfl rfl rfl (cI rfl rfl (aV rfl (aD rfl (aD rfl aJ)) trivial)),rfl⟩ (by rintro _ ⟨x,hx,rfl⟩;exact⟨rfl,.inl rfl,fun j hj=>nomatch hj⟩) (aI ⟨rfl,trivial⟩) (fun j hj=>nomatch hj) ?_))
   rintro _ ⟨x,hx,rfl⟩
   refine s1 (rt (cW _ ⟨x,p+1+1,⟨by omega,by omega,?_⟩,rfl⟩ (eA _ [] [] rfl ?_ rfl rfl)))
   · simp at hx;rcases hx with rfl|rfl|rfl|rfl|rfl<;>first|omega|(simp;done)
   refine qs ?_
   repeat' first|exact qx|apply ai
   all_goals rfl
 refine sq (rT [0,14] (s2 (cd rfl (fun c14=> ?_) fun c14=> ?_)))
 · refine sq (rT [0,3] (s2 (sq (sq (rT [0,3,4] (s1 (bK (robj:=[(0,.box 137 [.d (.sl (aA (l))),.d (.i (p+1))])]) (rl:=[(0,0)]) (bor:=[]) (cK (l) (p+1) _ (by omega) hl2) rfl rfl rfl rfl ⟨bU rfl rfl rfl rfl (cI rfl rfl (aV rfl (aD rfl (aD rfl aJ)) trivial)),rfl⟩ rfl (.inl rfl) (aI ⟨rfl,trivial⟩) (fun _ hj=>nomatch hj) (s2 (bk ?_)))))))))
   have hv:=cC l (p:=p+1) (n:=20) (by omega) (by omega)
   refine SW.loopW (n:=(wrap64 (1+bO l (p+1) 20)).toNat) (fun m s=> ∃(k q:Int) (b:List UInt8),m=k.toNat∧(0≤k∧k≤20∧p≤q∧q+k≤p+30∧b.length+k≤20)∧s=[tP 0 0,tO 3 16 (b).length,tI 4 (k),oB 0 137 [.d (.sl (aA l)),.d (.i (q))],oR 16 5 1 (aA (b))]) ?_ ?_
   · refine wq (σ':=[tP 0 0,tO 3 16 ([]).length,tI 4 ((wrap64 (1+bO l (p+1) 20))),oB 0 137 [.d (.sl (aA l)),.d (.i (p+1+1))],oR 16 5 1 (aA ([]))]) [] [] (⟨_,p+1+1,[],rfl,⟨by rw[aB (by omega)];omega,by rw[aB (by omega)];omega,by omega,by rw[aB (by omega)];omega,by rw[aB (by omega)];simp;omega⟩,rfl⟩) ?_
     repeat' apply ai
     all_goals first|exact qx|rfl|(simp[aA];done)|exact qz
   rintro n s ⟨k,q,b,rfl,hk,rfl⟩
   refine sq (sq (rT [0,3,4,21] (s2 (cd rfl (fun c21=> ?_) fun c21=> ?_))))
   · have hk1:0<k:=by simpa using c21
     refine sk (sq (bk (rT [0,3,4] (s2 (bK (robj:=[(0,.box 137 [.d (.sl (aA (l))),.d (.i (q))])]) (rl:=[(0,0)]) (bor:=[]) (cK (l) (q) _ (by omega) hl2) rfl rfl rfl rfl ⟨bU rfl rfl rfl rfl (cI rfl rfl (aV rfl (aD rfl (aD rfl aJ)) trivial)),rfl⟩ rfl (.inl rfl) (aI ⟨rfl,trivial⟩) (fun _ hj=>nomatch hj) (s2 (ai (by refine⟨rfl,aU _,by simp,?_⟩;show(_+1)*1≤_;omega) (s1 (rT [0,3,4] (s3 (wq [] [] (⟨(k - 1).toNat,by omega,k - 1,q+1,b++[u8 (bO l q 256)],rfl,⟨by omega,by omega,by omega,by omega,by rw[aW7];simp;omega⟩,rfl⟩) ?_)))))))))))
     repeat' apply ai
     all_goals first|exact qx|exact aBx _ _|(simp[aU];done)|exact congrArg D.i (aB (by omega))|exact qz
   refine xt (sq (rT [2] (s1 (ai (by exact⟨aU _,(congrArg aA (cG _)).symm⟩) (s1 (rt (cW _ ⟨b,q,⟨by omega,by omega,by omega⟩,rfl⟩ (eA _ [] [] rfl ?_ rfl rfl))))))))
   refine qs ?_
   repeat' first|exact qx|apply ai
   all_goals first|with_reducible rfl|exact congrArg D.s (cG b)
 refine sk (sq (rE [2] (s1 (ai (by exact⟨by simp,by decide⟩) (zF 33 33 rfl rfl rfl rfl (cP (robj:=[(0,.box 137 [.d (.sl (aA (l))),.d (.i (p+1))])]) (rl:=[(0,0)]) (bor:=[]) (news:=[]) (aNa (l) (p+1) (([[97],[97,98,99,100],[104,101,108,108,111],[49,50,51,52,53,54,55,56],[97,32,108,111,110,103,101,114,32,109,101,115,115,97,103,101],[106,117,115,116,32,116,119,101,110,116,121,45,102,111,117,114,32,98,121,116,101,115,32,33],[109,105,120,101,100,32,98,108,111,99,107,115],[102,111,117,114,32,119,111,114,100,115,32,111,102,32,97,32,116,101,120,116]]:List (List UInt8))) (by simp) (by omega) hl2) rfl rfl rfl rfl ⟨bU rfl rfl rfl rfl (cI rfl rfl (aV rfl (aD rfl (aD rfl aJ)) trivial)),rfl⟩ (by rintro _ ⟨x,hx,rfl⟩;exact⟨rfl,.inl rfl,fun j hj=>nomatch hj⟩) (aI ⟨rfl,trivial⟩) (fun j hj=>nomatch hj) ?_))))))
 rintro _ ⟨x,hx,rfl⟩
 refine s1 (rt (cW _ ⟨x,p+1+1,⟨by omega,by omega,?_⟩,rfl⟩ (eA _ [] [] rfl ?_ rfl rfl)))
 · have hall: ∀y∈([[97],[97,98,99,100],[104,101,108,108,111],[49,50,51,52,53,54,55,56],[97,32,108,111,110,103,101,114,32,109,101,115,115,97,103,101],[106,117,115,116,32,116,119,101,110,116,121,45,102,111,117,114,32,98,121,116,101,115,32,33],[109,105,120,101,100,32,98,108,111,99,107,115],[102,111,117,114,32,119,111,114,100,115,32,111,102,32,97,32,116,101,120,116]]:List (List UInt8)),y.length≤60:=by decide
   exact hall x hx
 refine qs ?_
 repeat' first|exact qx|apply ai
 all_goals rfl
set_option maxHeartbeats 1600000 in
theorem dy (l:List UInt8) (p:Int) (hp:0≤p∧p≤800000) (hl:l.length≤2000):ui 92 1 [tP 0 0,oB 0 137 [.d (.sl (aA l)),.d (.i (p))]] (fun s=> ∃(n:bA) (q:Int),ND n∧(p≤q∧q≤p+60)∧s=[tV 0 (.e (.agg [.d (.i n.frm),.d (.i n.num),.d (.i n.to),.d (.i n.til),.d (.s n.text)])),oB 0 137 [.d (.sl (aA l)),.d (.i (q))]]):=by
 have pv0:=cC l (p:=p) (n:=4) (by omega) (by omega)
 have pv1:=cC l (p:=p+1) (n:=5) (by omega) (by omega)
 have pv2:=cC l (p:=p+1+1) (n:=4) (by omega) (by omega)
 have pv3:=cC l (p:=p+1+1+1) (n:=30) (by omega) (by omega)
 have hl2:=hl
 have hall: ∀y∈([[97],[104,101,108,108,111],[97,32,108,111,110,103,101,114,32,109,101,115,115,97,103,101],[32,120,32],[106,117,115,116,32,116,119,101,110,116,121,45,102,111,117,114,32,98,121,116,101,115,32,33]]:List (List UInt8)),y.length≤60:=by decide
 refine yv Tryz.func92 rfl (sq (rT [0,2] (s1 (sq (rE [0,2,3] (s1 (iD (bK (robj:=[(0,.box 137 [.d (.sl (aA (l))),.d (.i (p))])]) (rl:=[(0,0)]) (bor:=[]) (cK (l) (p) _ (by omega) hl2) rfl rfl rfl rfl ⟨bU rfl rfl rfl rfl (cI rfl rfl (aV rfl (aD rfl (aD rfl aJ)) trivial)),rfl⟩ rfl (.inl rfl) (aI ⟨rfl,trivial⟩) (fun _ hj=>nomatch hj) (s1 (iD (bK (robj:=[(0,.box 137 [.d (.sl (aA (l))),.d (.i (p+1))])]) (rl:=[(0,0)]) (bor:=[]) (cK (l) (p+1) _ (by omega) hl2) rfl rfl rfl rfl ⟨bU rfl rfl rfl rfl (cI rfl rfl (aV rfl (aD rfl (aD rfl aJ)) trivial)),rfl⟩ rfl (.inl rfl) (aI ⟨rfl,trivial⟩) (fun _ hj=>nomatch hj) (s2 (iD (bK (robj:=[(0,.box 137 [.d (.sl (aA (l))),.d (.i (p+1+1))])]) (rl:=[(0,0)]) (bor:=[]) (cK (l) (p+1+1) _ (by omega) hl2) rfl rfl rfl rfl ⟨bU rfl rfl rfl rfl (cI rfl rfl (aV rfl (aD rfl (aD rfl aJ)) trivial)),rfl⟩ rfl (.inl rfl) (aI ⟨rfl,trivial⟩) (fun _ hj=>nomatch hj) ?_))))))))))))))
 refine s1 (iD (bK (robj:=[(0,.box 137 [.d (.sl (aA (l))),.d (.i (p+1+1+1))])]) (rl:=[(0,0)]) (bor:=[]) (cK (l) (p+1+1+1) _ (by omega) hl2) rfl rfl rfl rfl ⟨bU rfl rfl rfl rfl (cI rfl rfl (aV rfl (aD rfl (aD rfl aJ)) trivial)),rfl⟩ rfl (.inl rfl) (aI ⟨rfl,trivial⟩) (fun _ hj=>nomatch hj) (s2 (ai (by exact⟨by simp,by decide⟩) (zF 15 15 rfl rfl rfl rfl (cP (robj:=[(0,.box 137 [.d (.sl (aA (l))),.d (.i (p+1+1+1+1))])]) (rl:=[(0,0)]) (bor:=[]) (news:=[]) (aNa (l) (p+1+1+1+1) (([[97],[104,101,108,108,111],[97,32,108,111,110,103,101,114,32,109,101,115,115,97,103,101],[32,120,32],[106,117,115,116,32,116,119,101,110,116,121,45,102,111,117,114,32,98,121,116,101,115,32,33]]:List (List UInt8))) (by simp) (by omega) hl2) rfl rfl rfl rfl ⟨bU rfl rfl rfl rfl (cI rfl rfl (aV rfl (aD rfl (aD rfl aJ)) trivial)),rfl⟩ (by rintro _ ⟨x,hx,rfl⟩;exact⟨rfl,.inl rfl,fun j hj=>nomatch hj⟩) (aI ⟨rfl,trivial⟩) (fun j hj=>nomatch hj) ?_))))))
 rintro _ ⟨x,hx,rfl⟩
 refine s3 (sq (sq (rT [0,2,3,19] (s1 (bK (robj:=[(0,.box 137 [.d (.sl (aA (l))),.d (.i (p+1+1+1+1+1))])]) (rl:=[(0,0)]) (bor:=[]) (cK (l) (p+1+1+1+1+1) _ (by omega) hl2) rfl rfl rfl rfl ⟨bU rfl rfl rfl rfl (cI rfl rfl (aV rfl (aD rfl (aD rfl aJ)) trivial)),rfl⟩ rfl (.inl rfl) (aI ⟨rfl,trivial⟩) (fun _ hj=>nomatch hj) (bk (sq (rT [0,2,3,19,20] (s2 (cd rfl (fun c20=> ?_) fun c20=> ?_))))))))))
 · have hv:=cC l (p:=p+1+1+1+1+1+1) (n:=2) (by omega) (by omega)
   refine rT [2,3] (ai (by exact⟨by simp,by decide⟩) (s1 (bK (robj:=[(0,.box 137 [.d (.sl (aA (l))),.d (.i (p+1+1+1+1+1+1))])]) (rl:=[(0,0)]) (bor:=[]) (cK (l) (p+1+1+1+1+1+1) _ (by omega) hl2) rfl rfl rfl rfl ⟨bU rfl rfl rfl rfl (cI rfl rfl (aV rfl (aD rfl (aD rfl aJ)) trivial)),rfl⟩ rfl (.inl rfl) (aI ⟨rfl,trivial⟩) (fun _ hj=>nomatch hj) (ai ⟨rfl,hv.1,hv.2⟩ (ai (aFw (l:=[-1,4]) (by simp;omega) rfl) (s2 (sq (rT [2] (s2 (rt ?_))))))))))
   first
    |(refine cW _ ⟨⟨?za1,?zb1,?zc1,?zd1,x⟩,p+1+1+1+1+1+1+1,?zn1,⟨by omega,by omega⟩,rfl⟩ (eA _ [] [] rfl ?_ rfl rfl)
      repeat' first|exact trivial|refine lT rfl ?_|refine cI rfl ?_ ?_|refine jA rfl rfl ?_ rfl ?_|refine bV rfl ?_ ?_|refine bU rfl rfl rfl rfl ?_|refine aV rfl ?_ ?_|refine dX rfl ?_ ?_|exact aJ|refine aD ?_ ?_|refine jS ?_|refine bQ rfl ?_ rfl ?_|refine eF rfl rfl rfl ?_
      try any_goals with_reducible rfl
      try any_goals rfl
      refine⟨⟨?_,?_,?_,?_⟩,?_⟩
      all_goals(try dsimp only)
      all_goals first|exact hall x hx|omega|(refine⟨?_,?_⟩<;>rw[aB (by omega)]<;>omega)|exact eD (l:=[-1,4]) (j:=(bO l (p+1+1+1+1+1+1) 2).toNat) (by decide) (by simp;omega)|exact eD (l:=[0,99,100]) (j:=(bO l (p+1+1+1+1+1+1) 3).toNat) (by decide) (by simp;omega)|exact eD (l:=[0,999,1000]) (j:=(bO l (p+1+1+1+1+1+1) 3).toNat) (by decide) (by simp;omega)
      done)
    |(refine cW _ ⟨⟨?za1,?zb1,?zc1,?zd1,x⟩,p+1+1+1+1+1+1,?zn1,⟨by omega,by omega⟩,rfl⟩ (eA _ [] [] rfl ?_ rfl rfl)
      repeat' first|exact trivial|refine lT rfl ?_|refine cI rfl ?_ ?_|refine jA rfl rfl ?_ rfl ?_|refine bV rfl ?_ ?_|refine bU rfl rfl rfl rfl ?_|refine aV rfl ?_ ?_|refine dX rfl ?_ ?_|exact aJ|refine aD ?_ ?_|refine jS ?_|refine bQ rfl ?_ rfl ?_|refine eF rfl rfl rfl ?_
      try any_goals with_reducible rfl
      try any_goals rfl
      refine⟨⟨?_,?_,?_,?_⟩,?_⟩
      all_goals(try dsimp only)
      all_goals first|exact hall x hx|omega|(refine⟨?_,?_⟩<;>rw[aB (by omega)]<;>omega)|exact eD (l:=[-1,4]) (j:=(bO l (p+1+1+1+1+1+1) 2).toNat) (by decide) (by simp;omega)|exact eD (l:=[0,99,100]) (j:=(bO l (p+1+1+1+1+1+1) 3).toNat) (by decide) (by simp;omega)|exact eD (l:=[0,999,1000]) (j:=(bO l (p+1+1+1+1+1+1) 3).toNat) (by decide) (by simp;omega)
      done)
    |(refine cW _ ⟨⟨?za1,?zb1,?zc1,?zd1,y⟩,q,?zn1,⟨by omega,by omega⟩,rfl⟩ (eA _ [] [] rfl ?_ rfl rfl)
      repeat' first|exact trivial|refine lT rfl ?_|refine cI rfl ?_ ?_|refine jA rfl rfl ?_ rfl ?_|refine bV rfl ?_ ?_|refine bU rfl rfl rfl rfl ?_|refine aV rfl ?_ ?_|refine dX rfl ?_ ?_|exact aJ|refine aD ?_ ?_|refine jS ?_|refine bQ rfl ?_ rfl ?_|refine eF rfl rfl rfl ?_
      try any_goals with_reducible rfl
      try any_goals rfl
      refine⟨⟨?_,?_,?_,?_⟩,?_⟩
      all_goals(try dsimp only)
      all_goals first|exact hq.2.2|omega|(refine⟨?_,?_⟩<;>rw[aB (by omega)]<;>omega)|exact eD (l:=[-1,4]) (j:=(bO l (p+1+1+1+1+1+1) 2).toNat) (by decide) (by simp;omega)|exact eD (l:=[0,99,100]) (j:=(bO l (p+1+1+1+1+1+1) 3).toNat) (by decide) (by simp;omega)|exact eD (l:=[0,999,1000]) (j:=(bO l (p+1+1+1+1+1+1) 3).toNat) (by decide) (by simp;omega)
      done)
 refine sq (rT [0,2,3,19,28] (s2 (cd rfl (fun c28=> ?_) fun c28=> ?_)))
 · have hv:=cC l (p:=p+1+1+1+1+1+1) (n:=3) (by omega) (by omega)
   refine rT [2,3] (ai (by exact⟨by simp,by decide⟩) (s1 (bK (robj:=[(0,.box 137 [.d (.sl (aA (l))),.d (.i (p+1+1+1+1+1+1))])]) (rl:=[(0,0)]) (bor:=[]) (cK (l) (p+1+1+1+1+1+1) _ (by omega) hl2) rfl rfl rfl rfl ⟨bU rfl rfl rfl rfl (cI rfl rfl (aV rfl (aD rfl (aD rfl aJ)) trivial)),rfl⟩ rfl (.inl rfl) (aI ⟨rfl,trivial⟩) (fun _ hj=>nomatch hj) (ai ⟨rfl,hv.1,hv.2⟩ (ai (aFw (l:=[0,99,100]) (by simp;omega) rfl) (s2 (sq (rT [2] (s2 (rt ?_))))))))))
   first
    |(refine cW _ ⟨⟨?za2,?zb2,?zc2,?zd2,x⟩,p+1+1+1+1+1+1+1,?zn2,⟨by omega,by omega⟩,rfl⟩ (eA _ [] [] rfl ?_ rfl rfl)
      repeat' first|exact trivial|refine lT rfl ?_|refine cI rfl ?_ ?_|refine jA rfl rfl ?_ rfl ?_|refine bV rfl ?_ ?_|refine bU rfl rfl rfl rfl ?_|refine aV rfl ?_ ?_|refine dX rfl ?_ ?_|exact aJ|refine aD ?_ ?_|refine jS ?_|refine bQ rfl ?_ rfl ?_|refine eF rfl rfl rfl ?_
      try any_goals with_reducible rfl
      try any_goals rfl
      refine⟨⟨?_,?_,?_,?_⟩,?_⟩
      all_goals(try dsimp only)
      all_goals first|exact hall x hx|omega|(refine⟨?_,?_⟩<;>rw[aB (by omega)]<;>omega)|exact eD (l:=[-1,4]) (j:=(bO l (p+1+1+1+1+1+1) 2).toNat) (by decide) (by simp;omega)|exact eD (l:=[0,99,100]) (j:=(bO l (p+1+1+1+1+1+1) 3).toNat) (by decide) (by simp;omega)|exact eD (l:=[0,999,1000]) (j:=(bO l (p+1+1+1+1+1+1) 3).toNat) (by decide) (by simp;omega)
      done)
    |(refine cW _ ⟨⟨?za2,?zb2,?zc2,?zd2,x⟩,p+1+1+1+1+1+1,?zn2,⟨by omega,by omega⟩,rfl⟩ (eA _ [] [] rfl ?_ rfl rfl)
      repeat' first|exact trivial|refine lT rfl ?_|refine cI rfl ?_ ?_|refine jA rfl rfl ?_ rfl ?_|refine bV rfl ?_ ?_|refine bU rfl rfl rfl rfl ?_|refine aV rfl ?_ ?_|refine dX rfl ?_ ?_|exact aJ|refine aD ?_ ?_|refine jS ?_|refine bQ rfl ?_ rfl ?_|refine eF rfl rfl rfl ?_
      try any_goals with_reducible rfl
      try any_goals rfl
      refine⟨⟨?_,?_,?_,?_⟩,?_⟩
      all_goals(try dsimp only)
      all_goals first|exact hall x hx|omega|(refine⟨?_,?_⟩<;>rw[aB (by omega)]<;>omega)|exact eD (l:=[-1,4]) (j:=(bO l (p+1+1+1+1+1+1) 2).toNat) (by decide) (by simp;omega)|exact eD (l:=[0,99,100]) (j:=(bO l (p+1+1+1+1+1+1) 3).toNat) (by decide) (by simp;omega)|exact eD (l:=[0,999,1000]) (j:=(bO l (p+1+1+1+1+1+1) 3).toNat) (by decide) (by simp;omega)
      done)
    |(refine cW _ ⟨⟨?za2,?zb2,?zc2,?zd2,y⟩,q,?zn2,⟨by omega,by omega⟩,rfl⟩ (eA _ [] [] rfl ?_ rfl rfl)
      repeat' first|exact trivial|refine lT rfl ?_|refine cI rfl ?_ ?_|refine jA rfl rfl ?_ rfl ?_|refine bV rfl ?_ ?_|refine bU rfl rfl rfl rfl ?_|refine aV rfl ?_ ?_|refine dX rfl ?_ ?_|exact aJ|refine aD ?_ ?_|refine jS ?_|refine bQ rfl ?_ rfl ?_|refine eF rfl rfl rfl ?_
      try any_goals with_reducible rfl
      try any_goals rfl
      refine⟨⟨?_,?_,?_,?_⟩,?_⟩
      all_goals(try dsimp only)
      all_goals first|exact hq.2.2|omega|(refine⟨?_,?_⟩<;>rw[aB (by omega)]<;>omega)|exact eD (l:=[-1,4]) (j:=(bO l (p+1+1+1+1+1+1) 2).toNat) (by decide) (by simp;omega)|exact eD (l:=[0,99,100]) (j:=(bO l (p+1+1+1+1+1+1) 3).toNat) (by decide) (by simp;omega)|exact eD (l:=[0,999,1000]) (j:=(bO l (p+1+1+1+1+1+1) 3).toNat) (by decide) (by simp;omega)
      done)
 refine sq (rT [0,2,3,19,36] (s2 (cd rfl (fun c36=> ?_) fun c36=> ?_)))
 · have hv:=cC l (p:=p+1+1+1+1+1+1) (n:=3) (by omega) (by omega)
   refine rT [2,3] (ai (by exact⟨by simp,by decide⟩) (s1 (bK (robj:=[(0,.box 137 [.d (.sl (aA (l))),.d (.i (p+1+1+1+1+1+1))])]) (rl:=[(0,0)]) (bor:=[]) (cK (l) (p+1+1+1+1+1+1) _ (by omega) hl2) rfl rfl rfl rfl ⟨bU rfl rfl rfl rfl (cI rfl rfl (aV rfl (aD rfl (aD rfl aJ)) trivial)),rfl⟩ rfl (.inl rfl) (aI ⟨rfl,trivial⟩) (fun _ hj=>nomatch hj) (ai ⟨rfl,hv.1,hv.2⟩ (ai (aFw (l:=[0,999,1000]) (by simp;omega) rfl) (s2 (sq (rT [2] (s2 (rt ?_))))))))))
   first
    |(refine cW _ ⟨⟨?za3,?zb3,?zc3,?zd3,x⟩,p+1+1+1+1+1+1+1,?zn3,⟨by omega,by omega⟩,rfl⟩ (eA _ [] [] rfl ?_ rfl rfl)
      repeat' first|exact trivial|refine lT rfl ?_|refine cI rfl ?_ ?_|refine jA rfl rfl ?_ rfl ?_|refine bV rfl ?_ ?_|refine bU rfl rfl rfl rfl ?_|refine aV rfl ?_ ?_|refine dX rfl ?_ ?_|exact aJ|refine aD ?_ ?_|refine jS ?_|refine bQ rfl ?_ rfl ?_|refine eF rfl rfl rfl ?_
      try any_goals with_reducible rfl
      try any_goals rfl
      refine⟨⟨?_,?_,?_,?_⟩,?_⟩
      all_goals(try dsimp only)
      all_goals first|exact hall x hx|omega|(refine⟨?_,?_⟩<;>rw[aB (by omega)]<;>omega)|exact eD (l:=[-1,4]) (j:=(bO l (p+1+1+1+1+1+1) 2).toNat) (by decide) (by simp;omega)|exact eD (l:=[0,99,100]) (j:=(bO l (p+1+1+1+1+1+1) 3).toNat) (by decide) (by simp;omega)|exact eD (l:=[0,999,1000]) (j:=(bO l (p+1+1+1+1+1+1) 3).toNat) (by decide) (by simp;omega)
      done)
    |(refine cW _ ⟨⟨?za3,?zb3,?zc3,?zd3,x⟩,p+1+1+1+1+1+1,?zn3,⟨by omega,by omega⟩,rfl⟩ (eA _ [] [] rfl ?_ rfl rfl)
      repeat' first|exact trivial|refine lT rfl ?_|refine cI rfl ?_ ?_|refine jA rfl rfl ?_ rfl ?_|refine bV rfl ?_ ?_|refine bU rfl rfl rfl rfl ?_|refine aV rfl ?_ ?_|refine dX rfl ?_ ?_|exact aJ|refine aD ?_ ?_|refine jS ?_|refine bQ rfl ?_ rfl ?_|refine eF rfl rfl rfl ?_
      try any_goals with_reducible rfl
      try any_goals rfl
      refine⟨⟨?_,?_,?_,?_⟩,?_⟩
      all_goals(try dsimp only)
      all_goals first|exact hall x hx|omega|(refine⟨?_,?_⟩<;>rw[aB (by omega)]<;>omega)|exact eD (l:=[-1,4]) (j:=(bO l (p+1+1+1+1+1+1) 2).toNat) (by decide) (by simp;omega)|exact eD (l:=[0,99,100]) (j:=(bO l (p+1+1+1+1+1+1) 3).toNat) (by decide) (by simp;omega)|exact eD (l:=[0,999,1000]) (j:=(bO l (p+1+1+1+1+1+1) 3).toNat) (by decide) (by simp;omega)
      done)
    |(refine cW _ ⟨⟨?za3,?zb3,?zc3,?zd3,y⟩,q,?zn3,⟨by omega,by omega⟩,rfl⟩ (eA _ [] [] rfl ?_ rfl rfl)
      repeat' first|exact trivial|refine lT rfl ?_|refine cI rfl ?_ ?_|refine jA rfl rfl ?_ rfl ?_|refine bV rfl ?_ ?_|refine bU rfl rfl rfl rfl ?_|refine aV rfl ?_ ?_|refine dX rfl ?_ ?_|exact aJ|refine aD ?_ ?_|refine jS ?_|refine bQ rfl ?_ rfl ?_|refine eF rfl rfl rfl ?_
      try any_goals with_reducible rfl
      try any_goals rfl
      refine⟨⟨?_,?_,?_,?_⟩,?_⟩
      all_goals(try dsimp only)
      all_goals first|exact hq.2.2|omega|(refine⟨?_,?_⟩<;>rw[aB (by omega)]<;>omega)|exact eD (l:=[-1,4]) (j:=(bO l (p+1+1+1+1+1+1) 2).toNat) (by decide) (by simp;omega)|exact eD (l:=[0,99,100]) (j:=(bO l (p+1+1+1+1+1+1) 3).toNat) (by decide) (by simp;omega)|exact eD (l:=[0,999,1000]) (j:=(bO l (p+1+1+1+1+1+1) 3).toNat) (by decide) (by simp;omega)
      done)
 refine sq (rT [0,2,3,19,44] (s2 (cd rfl (fun c44=> ?_) fun c44=> ?_)))
 · refine rE [2,3] (s1 (cP (robj:=[(0,.box 137 [.d (.sl (aA (l))),.d (.i (p+1+1+1+1+1+1))])]) (rl:=[(0,0)]) (bor:=[]) (news:=[]) (ze l (p+1+1+1+1+1+1) (by omega) hl) rfl rfl rfl rfl ⟨bU rfl rfl rfl rfl (aV rfl (aD rfl (aD rfl aJ)) trivial),rfl⟩ (by rintro _ ⟨y,q,hq,rfl⟩;exact⟨rfl,.inl rfl,fun j hj=>nomatch hj⟩) (aI ⟨rfl,trivial⟩) (fun j hj=>nomatch hj) ?_))
   rintro _ ⟨y,q,hq,rfl⟩
   refine s2 (sq (rT [2] (s2 (rt ?_))))
   first
    |(refine cW _ ⟨⟨?za4,?zb4,?zc4,?zd4,x⟩,p+1+1+1+1+1+1+1,?zn4,⟨by omega,by omega⟩,rfl⟩ (eA _ [] [] rfl ?_ rfl rfl)
      repeat' first|exact trivial|refine lT rfl ?_|refine cI rfl ?_ ?_|refine jA rfl rfl ?_ rfl ?_|refine bV rfl ?_ ?_|refine bU rfl rfl rfl rfl ?_|refine aV rfl ?_ ?_|refine dX rfl ?_ ?_|exact aJ|refine aD ?_ ?_|refine jS ?_|refine bQ rfl ?_ rfl ?_|refine eF rfl rfl rfl ?_
      try any_goals with_reducible rfl
      try any_goals rfl
      refine⟨⟨?_,?_,?_,?_⟩,?_⟩
      all_goals(try dsimp only)
      all_goals first|exact hall x hx|omega|(refine⟨?_,?_⟩<;>rw[aB (by omega)]<;>omega)|exact eD (l:=[-1,4]) (j:=(bO l (p+1+1+1+1+1+1) 2).toNat) (by decide) (by simp;omega)|exact eD (l:=[0,99,100]) (j:=(bO l (p+1+1+1+1+1+1) 3).toNat) (by decide) (by simp;omega)|exact eD (l:=[0,999,1000]) (j:=(bO l (p+1+1+1+1+1+1) 3).toNat) (by decide) (by simp;omega)
      done)
    |(refine cW _ ⟨⟨?za4,?zb4,?zc4,?zd4,x⟩,p+1+1+1+1+1+1,?zn4,⟨by omega,by omega⟩,rfl⟩ (eA _ [] [] rfl ?_ rfl rfl)
      repeat' first|exact trivial|refine lT rfl ?_|refine cI rfl ?_ ?_|refine jA rfl rfl ?_ rfl ?_|refine bV rfl ?_ ?_|refine bU rfl rfl rfl rfl ?_|refine aV rfl ?_ ?_|refine dX rfl ?_ ?_|exact aJ|refine aD ?_ ?_|refine jS ?_|refine bQ rfl ?_ rfl ?_|refine eF rfl rfl rfl ?_
      try any_goals with_reducible rfl
      try any_goals rfl
      refine⟨⟨?_,?_,?_,?_⟩,?_⟩
      all_goals(try dsimp only)
      all_goals first|exact hall x hx|omega|(refine⟨?_,?_⟩<;>rw[aB (by omega)]<;>omega)|exact eD (l:=[-1,4]) (j:=(bO l (p+1+1+1+1+1+1) 2).toNat) (by decide) (by simp;omega)|exact eD (l:=[0,99,100]) (j:=(bO l (p+1+1+1+1+1+1) 3).toNat) (by decide) (by simp;omega)|exact eD (l:=[0,999,1000]) (j:=(bO l (p+1+1+1+1+1+1) 3).toNat) (by decide) (by simp;omega)
      done)
    |(refine cW _ ⟨⟨?za4,?zb4,?zc4,?zd4,y⟩,q,?zn4,⟨by omega,by omega⟩,rfl⟩ (eA _ [] [] rfl ?_ rfl rfl)
      repeat' first|exact trivial|refine lT rfl ?_|refine cI rfl ?_ ?_|refine jA rfl rfl ?_ rfl ?_|refine bV rfl ?_ ?_|refine bU rfl rfl rfl rfl ?_|refine aV rfl ?_ ?_|refine dX rfl ?_ ?_|exact aJ|refine aD ?_ ?_|refine jS ?_|refine bQ rfl ?_ rfl ?_|refine eF rfl rfl rfl ?_
      try any_goals with_reducible rfl
      try any_goals rfl
      refine⟨⟨?_,?_,?_,?_⟩,?_⟩
      all_goals(try dsimp only)
      all_goals first|exact hq.2.2|omega|(refine⟨?_,?_⟩<;>rw[aB (by omega)]<;>omega)|exact eD (l:=[-1,4]) (j:=(bO l (p+1+1+1+1+1+1) 2).toNat) (by decide) (by simp;omega)|exact eD (l:=[0,99,100]) (j:=(bO l (p+1+1+1+1+1+1) 3).toNat) (by decide) (by simp;omega)|exact eD (l:=[0,999,1000]) (j:=(bO l (p+1+1+1+1+1+1) 3).toNat) (by decide) (by simp;omega)
      done)
 refine sq (rT [0,2,3,49] (s2 (cd rfl (fun c49=> ?_) fun c49=> ?_)))
 · have hv:=cC l (p:=p+1+1+1+1+1+1) (n:=2) (by omega) (by omega)
   refine rT [2,3] (ai (by exact⟨by simp,by decide⟩) (s1 (bK (robj:=[(0,.box 137 [.d (.sl (aA (l))),.d (.i (p+1+1+1+1+1+1))])]) (rl:=[(0,0)]) (bor:=[]) (cK (l) (p+1+1+1+1+1+1) _ (by omega) hl2) rfl rfl rfl rfl ⟨bU rfl rfl rfl rfl (cI rfl rfl (aV rfl (aD rfl (aD rfl aJ)) trivial)),rfl⟩ rfl (.inl rfl) (aI ⟨rfl,trivial⟩) (fun _ hj=>nomatch hj) (ai ⟨rfl,hv.1,hv.2⟩ (ai (aFw (l:=[-1,4]) (by simp;omega) rfl) (s2 (sq (rT [2] (s2 (rt ?_))))))))))
   first
    |(refine cW _ ⟨⟨?za5,?zb5,?zc5,?zd5,x⟩,p+1+1+1+1+1+1+1,?zn5,⟨by omega,by omega⟩,rfl⟩ (eA _ [] [] rfl ?_ rfl rfl)
      repeat' first|exact trivial|refine lT rfl ?_|refine cI rfl ?_ ?_|refine jA rfl rfl ?_ rfl ?_|refine bV rfl ?_ ?_|refine bU rfl rfl rfl rfl ?_|refine aV rfl ?_ ?_|refine dX rfl ?_ ?_|exact aJ|refine aD ?_ ?_|refine jS ?_|refine bQ rfl ?_ rfl ?_|refine eF rfl rfl rfl ?_
      try any_goals with_reducible rfl
      try any_goals rfl
      refine⟨⟨?_,?_,?_,?_⟩,?_⟩
      all_goals(try dsimp only)
      all_goals first|exact hall x hx|omega|(refine⟨?_,?_⟩<;>rw[aB (by omega)]<;>omega)|exact eD (l:=[-1,4]) (j:=(bO l (p+1+1+1+1+1+1) 2).toNat) (by decide) (by simp;omega)|exact eD (l:=[0,99,100]) (j:=(bO l (p+1+1+1+1+1+1) 3).toNat) (by decide) (by simp;omega)|exact eD (l:=[0,999,1000]) (j:=(bO l (p+1+1+1+1+1+1) 3).toNat) (by decide) (by simp;omega)
      done)
    |(refine cW _ ⟨⟨?za5,?zb5,?zc5,?zd5,x⟩,p+1+1+1+1+1+1,?zn5,⟨by omega,by omega⟩,rfl⟩ (eA _ [] [] rfl ?_ rfl rfl)
      repeat' first|exact trivial|refine lT rfl ?_|refine cI rfl ?_ ?_|refine jA rfl rfl ?_ rfl ?_|refine bV rfl ?_ ?_|refine bU rfl rfl rfl rfl ?_|refine aV rfl ?_ ?_|refine dX rfl ?_ ?_|exact aJ|refine aD ?_ ?_|refine jS ?_|refine bQ rfl ?_ rfl ?_|refine eF rfl rfl rfl ?_
      try any_goals with_reducible rfl
      try any_goals rfl
      refine⟨⟨?_,?_,?_,?_⟩,?_⟩
      all_goals(try dsimp only)
      all_goals first|exact hall x hx|omega|(refine⟨?_,?_⟩<;>rw[aB (by omega)]<;>omega)|exact eD (l:=[-1,4]) (j:=(bO l (p+1+1+1+1+1+1) 2).toNat) (by decide) (by simp;omega)|exact eD (l:=[0,99,100]) (j:=(bO l (p+1+1+1+1+1+1) 3).toNat) (by decide) (by simp;omega)|exact eD (l:=[0,999,1000]) (j:=(bO l (p+1+1+1+1+1+1) 3).toNat) (by decide) (by simp;omega)
      done)
    |(refine cW _ ⟨⟨?za5,?zb5,?zc5,?zd5,y⟩,q,?zn5,⟨by omega,by omega⟩,rfl⟩ (eA _ [] [] rfl ?_ rfl rfl)
      repeat' first|exact trivial|refine lT rfl ?_|refine cI rfl ?_ ?_|refine jA rfl rfl ?_ rfl ?_|refine bV rfl ?_ ?_|refine bU rfl rfl rfl rfl ?_|refine aV rfl ?_ ?_|refine dX rfl ?_ ?_|exact aJ|refine aD ?_ ?_|refine jS ?_|refine bQ rfl ?_ rfl ?_|refine eF rfl rfl rfl ?_
      try any_goals with_reducible rfl
      try any_goals rfl
      refine⟨⟨?_,?_,?_,?_⟩,?_⟩
      all_goals(try dsimp only)
      all_goals first|exact hq.2.2|omega|(refine⟨?_,?_⟩<;>rw[aB (by omega)]<;>omega)|exact eD (l:=[-1,4]) (j:=(bO l (p+1+1+1+1+1+1) 2).toNat) (by decide) (by simp;omega)|exact eD (l:=[0,99,100]) (j:=(bO l (p+1+1+1+1+1+1) 3).toNat) (by decide) (by simp;omega)|exact eD (l:=[0,999,1000]) (j:=(bO l (p+1+1+1+1+1+1) 3).toNat) (by decide) (by simp;omega)
      done)
 refine sk (sq (rT [2] (s2 (rt ?_))))
 first
  |(refine cW _ ⟨⟨?za6,?zb6,?zc6,?zd6,x⟩,p+1+1+1+1+1+1+1,?zn6,⟨by omega,by omega⟩,rfl⟩ (eA _ [] [] rfl ?_ rfl rfl)
    repeat' first|exact trivial|refine lT rfl ?_|refine cI rfl ?_ ?_|refine jA rfl rfl ?_ rfl ?_|refine bV rfl ?_ ?_|refine bU rfl rfl rfl rfl ?_|refine aV rfl ?_ ?_|refine dX rfl ?_ ?_|exact aJ|refine aD ?_ ?_|refine jS ?_|refine bQ rfl ?_ rfl ?_|refine eF rfl rfl rfl ?_
    try any_goals with_reducible rfl
    try any_goals rfl
    refine⟨⟨?_,?_,?_,?_⟩,?_⟩
    all_goals(try dsimp only)
    all_goals first|exact hall x hx|omega|(refine⟨?_,?_⟩<;>rw[aB (by omega)]<;>omega)|exact eD (l:=[-1,4]) (j:=(bO l (p+1+1+1+1+1+1) 2).toNat) (by decide) (by simp;omega)|exact eD (l:=[0,99,100]) (j:=(bO l (p+1+1+1+1+1+1) 3).toNat) (by decide) (by simp;omega)|exact eD (l:=[0,999,1000]) (j:=(bO l (p+1+1+1+1+1+1) 3).toNat) (by decide) (by simp;omega)
    done)
  |(refine cW _ ⟨⟨?za6,?zb6,?zc6,?zd6,x⟩,p+1+1+1+1+1+1,?zn6,⟨by omega,by omega⟩,rfl⟩ (eA _ [] [] rfl ?_ rfl rfl)
    repeat' first|exact trivial|refine lT rfl ?_|refine cI rfl ?_ ?_|refine jA rfl rfl ?_ rfl ?_|refine bV rfl ?_ ?_|refine bU rfl rfl rfl rfl ?_|refine aV rfl ?_ ?_|refine dX rfl ?_ ?_|exact aJ|refine aD ?_ ?_|refine jS ?_|refine bQ rfl ?_ rfl ?_|refine eF rfl rfl rfl ?_
    try any_goals with_reducible rfl
    try any_goals rfl
    refine⟨⟨?_,?_,?_,?_⟩,?_⟩
    all_goals(try dsimp only)
    all_goals first|exact hall x hx|omega|(refine⟨?_,?_⟩<;>rw[aB (by omega)]<;>omega)|exact eD (l:=[-1,4]) (j:=(bO l (p+1+1+1+1+1+1) 2).toNat) (by decide) (by simp;omega)|exact eD (l:=[0,99,100]) (j:=(bO l (p+1+1+1+1+1+1) 3).toNat) (by decide) (by simp;omega)|exact eD (l:=[0,999,1000]) (j:=(bO l (p+1+1+1+1+1+1) 3).toNat) (by decide) (by simp;omega)
    done)
  |(refine cW _ ⟨⟨?za6,?zb6,?zc6,?zd6,y⟩,q,?zn6,⟨by omega,by omega⟩,rfl⟩ (eA _ [] [] rfl ?_ rfl rfl)
    repeat' first|exact trivial|refine lT rfl ?_|refine cI rfl ?_ ?_|refine jA rfl rfl ?_ rfl ?_|refine bV rfl ?_ ?_|refine bU rfl rfl rfl rfl ?_|refine aV rfl ?_ ?_|refine dX rfl ?_ ?_|exact aJ|refine aD ?_ ?_|refine jS ?_|refine bQ rfl ?_ rfl ?_|refine eF rfl rfl rfl ?_
    try any_goals with_reducible rfl
    try any_goals rfl
    refine⟨⟨?_,?_,?_,?_⟩,?_⟩
    all_goals(try dsimp only)
    all_goals first|exact hq.2.2|omega|(refine⟨?_,?_⟩<;>rw[aB (by omega)]<;>omega)|exact eD (l:=[-1,4]) (j:=(bO l (p+1+1+1+1+1+1) 2).toNat) (by decide) (by simp;omega)|exact eD (l:=[0,99,100]) (j:=(bO l (p+1+1+1+1+1+1) 3).toNat) (by decide) (by simp;omega)|exact eD (l:=[0,999,1000]) (j:=(bO l (p+1+1+1+1+1+1) 3).toNat) (by decide) (by simp;omega)
    done)
theorem su (a b c:Int) (h:R1 a∧R1 b∧R1 c):ui 110 3 [tI 0 a,tI 1 b,tI 2 c] (fun s=> ∃x:List UInt8,x.length≤60∧s=[tD 0 (.s x)]):=by
 have q1:=qn h.1
 have q2:=qn h.2.1
 have q3:=qn h.2.2
 refine yv Tryz.func110 rfl (sq (rT [0,1,2] (s1 (sq (rT [6] (s1 (xp (yK a (by omega)) (ai rfl ?_))))))))
 refine ai (by first|trivial|(show _≤9223372036854775807;(try simp only[aW7,aW9,aXa]);omega)) (s1 (xp (yK b (by omega)) (ai rfl ?_)))
 refine ai (by first|trivial|(show _≤9223372036854775807;(try simp only[aW7,aW9,aXa]);omega)) (ai (by first|trivial|(show _≤9223372036854775807;(try simp only[aW7,aW9,aXa]);omega)) (s1 (xp (yK c (by omega)) (ai rfl ?_))))
 refine ai (by first|trivial|(show _≤9223372036854775807;(try simp only[aW7,aW9,aXa]);omega)) (s1 (rt ?_))
 exact cW _ ⟨pa a++[32]++pa b++[32]++pa c,by simp only[aW7,aW9,aXa];omega,rfl⟩ (bN rfl rfl)
set_option maxHeartbeats 800000 in
theorem gt (l:List UInt8) (p:Int) (hp:0≤p∧p≤790000) (hl:l.length≤2000):ui 121 1 [tP 0 0,oB 0 137 [.d (.sl (aA l)),.d (.i (p))]] (fun s=> ∃(x:List UInt8) (q:Int),(p≤q∧q≤p+70∧x.length≤130)∧s=[tD 0 (.s x),oB 0 137 [.d (.sl (aA l)),.d (.i (q))]]):=by
 have hall: ∀y∈([[111,119,110,32],[116,97,107,101,32],[116,97,107,101,32],[104,101,108,100,32],[105,110,98,111,120,32]]:List (List UInt8)),y.length≤10:=by decide
 refine yv Tryz.func121 rfl (sq (rT [0] (s1 (sq (sq (rT [0,4] (s1 (bK (robj:=[(0,.box 137 [.d (.sl (aA (l))),.d (.i (p))])]) (rl:=[(0,0)]) (bor:=[]) (cK (l) (p) _ (by omega) hl) rfl rfl rfl rfl ⟨bU rfl rfl rfl rfl (cI rfl rfl (aV rfl (aD rfl (aD rfl aJ)) trivial)),rfl⟩ rfl (.inl rfl) (aI ⟨rfl,trivial⟩) (fun _ hj=>nomatch hj) (bk (sq (rT [0,4,5] (ai (by first|trivial|(show _≤9223372036854775807;(try simp only[aW7,aW9,aXa]);omega)) (s1 (cd rfl (fun c5=> ?_) fun c5=> ?_))))))))))))))
 · refine sq (rT [2] (s1 (bK (robj:=[(0,.box 137 [.d (.sl (aA (l))),.d (.i (p+1))])]) (rl:=[(0,0)]) (bor:=[]) (cK (l) (p+1) _ (by omega) hl) rfl rfl rfl rfl ⟨bU rfl rfl rfl rfl (cI rfl rfl (aV rfl (aD rfl (aD rfl aJ)) trivial)),rfl⟩ rfl (.inl rfl) (aI ⟨rfl,trivial⟩) (fun _ hj=>nomatch hj) ?_)))
   have hpv:=cC l (p:=p+1) (n:=30) (by omega) (by omega)
   have q1:=bS (k:=6) (n:=(bO l (p+1) 30).toNat) (by simp;omega)
   refine xp (kP (bO l (p+1) 30) (by omega)) (ai rfl ?_)
   refine ai (by first|trivial|(show _≤9223372036854775807;(try simp only[aW7,aW9,aXa]);omega)) (s1 (rt (cW _ ⟨[116,105,109,101,32]++jZ (bO l (p+1) 30).toNat,p+1+1,⟨by omega,by omega,by simp only[aW7,aW9,aXa];omega⟩,rfl⟩ (eA _ [] [] rfl ?_ rfl rfl))))
   refine qs ?_
   repeat' first|exact qx|apply ai
   all_goals rfl
 refine sq (rT [0,4,11] (ai (by first|trivial|(show _≤9223372036854775807;(try simp only[aW7,aW9,aXa]);omega)) (s1 (cd rfl (fun c11=> ?_) fun c11=> ?_))))
 · refine sq (rE [2] (s1 (iD (bK (robj:=[(0,.box 137 [.d (.sl (aA (l))),.d (.i (p+1))])]) (rl:=[(0,0)]) (bor:=[]) (cK (l) (p+1) _ (by omega) hl) rfl rfl rfl rfl ⟨bU rfl rfl rfl rfl (cI rfl rfl (aV rfl (aD rfl (aD rfl aJ)) trivial)),rfl⟩ rfl (.inl rfl) (aI ⟨rfl,trivial⟩) (fun _ hj=>nomatch hj) (s1 (iD (bK (robj:=[(0,.box 137 [.d (.sl (aA (l))),.d (.i (p+1+1))])]) (rl:=[(0,0)]) (bor:=[]) (cK (l) (p+1+1) _ (by omega) hl) rfl rfl rfl rfl ⟨bU rfl rfl rfl rfl (cI rfl rfl (aV rfl (aD rfl (aD rfl aJ)) trivial)),rfl⟩ rfl (.inl rfl) (aI ⟨rfl,trivial⟩) (fun _ hj=>nomatch hj) (ai (by first|trivial|(show _≤9223372036854775807;(try simp only[aW7,aW9,aXa]);omega)) (s1 (iD (bK (robj:=[(0,.box 137 [.d (.sl (aA (l))),.d (.i (p+1+1+1))])]) (rl:=[(0,0)]) (bor:=[]) (cK (l) (p+1+1+1) _ (by omega) hl) rfl rfl rfl rfl ⟨bU rfl rfl rfl rfl (cI rfl rfl (aV rfl (aD rfl (aD rfl aJ)) trivial)),rfl⟩ rfl (.inl rfl) (aI ⟨rfl,trivial⟩) (fun _ hj=>nomatch hj) ?_)))))))))))
   refine ai (by first|trivial|(show _≤9223372036854775807;(try simp only[aW7,aW9,aXa]);omega)) (cP (robj:=[]) (rl:=[]) (bor:=[]) (news:=[]) (su (bO l (p+1) 4) (wrap64 (1+bO l (p+1+1) 3)) (wrap64 (1+bO l (p+1+1+1) 30)) (by have:=cC l (p:=p+1) (n:=4) (by omega) (by omega);have:=cC l (p:=p+1+1) (n:=3) (by omega) (by omega);have:=cC l (p:=p+1+1+1) (n:=30) (by omega) (by omega);rw[aB (by omega),aB (by omega)];omega)) rfl rfl rfl rfl ⟨cI rfl rfl (cI rfl rfl (cI rfl rfl (trivial))),rfl⟩ (by rintro _ ⟨y,hy,rfl⟩;exact⟨rfl,.inl rfl,fun j hj=>nomatch hj⟩) (fun p hp=>nomatch hp) (fun j hj=>nomatch hj) ?_)
   rintro _ ⟨y,hy,rfl⟩
   refine ai (by first|trivial|(show _≤9223372036854775807;(try simp only[aW7,aW9,aXa]);omega)) (s1 (rt (cW _ ⟨[108,101,116,32]++y,p+1+1+1+1,⟨by omega,by omega,by simp only[aW7,aW9,aXa];omega⟩,rfl⟩ (eA _ [] [] rfl ?_ rfl rfl))))
   refine qs ?_
   repeat' first|exact qx|apply ai
   all_goals rfl
 refine sq (rT [0,4,23] (ai (by first|trivial|(show _≤9223372036854775807;(try simp only[aW7,aW9,aXa]);omega)) (s1 (cd rfl (fun c23=> ?_) fun c23=> ?_))))
 · refine sq (rE [2] (s1 (iD (bK (robj:=[(0,.box 137 [.d (.sl (aA (l))),.d (.i (p+1))])]) (rl:=[(0,0)]) (bor:=[]) (cK (l) (p+1) _ (by omega) hl) rfl rfl rfl rfl ⟨bU rfl rfl rfl rfl (cI rfl rfl (aV rfl (aD rfl (aD rfl aJ)) trivial)),rfl⟩ rfl (.inl rfl) (aI ⟨rfl,trivial⟩) (fun _ hj=>nomatch hj) (s1 (iD (bK (robj:=[(0,.box 137 [.d (.sl (aA (l))),.d (.i (p+1+1))])]) (rl:=[(0,0)]) (bor:=[]) (cK (l) (p+1+1) _ (by omega) hl) rfl rfl rfl rfl ⟨bU rfl rfl rfl rfl (cI rfl rfl (aV rfl (aD rfl (aD rfl aJ)) trivial)),rfl⟩ rfl (.inl rfl) (aI ⟨rfl,trivial⟩) (fun _ hj=>nomatch hj) (ai (by first|trivial|(show _≤9223372036854775807;(try simp only[aW7,aW9,aXa]);omega)) (s1 (iD (bK (robj:=[(0,.box 137 [.d (.sl (aA (l))),.d (.i (p+1+1+1))])]) (rl:=[(0,0)]) (bor:=[]) (cK (l) (p+1+1+1) _ (by omega) hl) rfl rfl rfl rfl ⟨bU rfl rfl rfl rfl (cI rfl rfl (aV rfl (aD rfl (aD rfl aJ)) trivial)),rfl⟩ rfl (.inl rfl) (aI ⟨rfl,trivial⟩) (fun _ hj=>nomatch hj) ?_)))))))))))
   refine ai (by first|trivial|(show _≤9223372036854775807;(try simp only[aW7,aW9,aXa]);omega)) (cP (robj:=[]) (rl:=[]) (bor:=[]) (news:=[]) (su (bO l (p+1) 4) (wrap64 (1+bO l (p+1+1) 3)) (wrap64 (1+bO l (p+1+1+1) 30)) (by have:=cC l (p:=p+1) (n:=4) (by omega) (by omega);have:=cC l (p:=p+1+1) (n:=3) (by omega) (by omega);have:=cC l (p:=p+1+1+1) (n:=30) (by omega) (by omega);rw[aB (by omega),aB (by omega)];omega)) rfl rfl rfl rfl ⟨cI rfl rfl (cI rfl rfl (cI rfl rfl (trivial))),rfl⟩ (by rintro _ ⟨y,hy,rfl⟩;exact⟨rfl,.inl rfl,fun j hj=>nomatch hj⟩) (fun p hp=>nomatch hp) (fun j hj=>nomatch hj) ?_)
   rintro _ ⟨y,hy,rfl⟩
   refine ai (by first|trivial|(show _≤9223372036854775807;(try simp only[aW7,aW9,aXa]);omega)) (s1 (rt (cW _ ⟨[101,97,116,32]++y,p+1+1+1+1,⟨by omega,by omega,by simp only[aW7,aW9,aXa];omega⟩,rfl⟩ (eA _ [] [] rfl ?_ rfl rfl))))
   refine qs ?_
   repeat' first|exact qx|apply ai
   all_goals rfl
 refine sq (rT [0,35] (ai (by first|trivial|(show _≤9223372036854775807;(try simp only[aW7,aW9,aXa]);omega)) (s1 (cd rfl (fun c35=> ?_) fun c35=> ?_))))
 · refine sq (rE [2] (s1 (cP (robj:=[]) (rl:=[]) (bor:=[]) (news:=[]) (pF [122] 60 rfl (by omega)) rfl rfl rfl rfl ⟨cI rfl rfl (cI rfl rfl (trivial)),rfl⟩ (by rintro _ ⟨x1,hx1,rfl⟩;exact⟨rfl,.inl rfl,fun j hj=>nomatch hj⟩) (fun p hp=>nomatch hp) (fun j hj=>nomatch hj) ?_)))
   rintro _ ⟨x1,hx1,rfl⟩
   refine cP (robj:=[]) (rl:=[]) (bor:=[]) (news:=[]) (pF [122] 61 rfl (by omega)) rfl rfl rfl rfl ⟨cI rfl rfl (cI rfl rfl (trivial)),rfl⟩ (by rintro _ ⟨x2,hx2,rfl⟩;exact⟨rfl,.inl rfl,fun j hj=>nomatch hj⟩) (fun p hp=>nomatch hp) (fun j hj=>nomatch hj) ?_
   rintro _ ⟨x2,hx2,rfl⟩
   refine ai (by exact⟨by simp,aW8 rfl⟩) (zF 40 40 rfl rfl rfl rfl (cP (robj:=[(0,.box 137 [.d (.sl (aA (l))),.d (.i (p+1))])]) (rl:=[(0,0)]) (bor:=[]) (news:=[]) (aNa (l) (p+1) (([[],[119,104,97,116],[116,105,109,101],[116,105,109,101,32,48],[116,105,109,101,32,48,49],[110,101,120,116,32,51],[110,101,120,116,32,49],[109,97,114,107,32,48,32,49,32,53],[109,97,114,107,32,48,32,49],[109,97,114,107,32,48,32,49,32,53,32],[104,101,108,100,32,48,32,49,32,50,32,57,32,120],[105,110,98,111,120,32,48,32,49,32,50,32,57,32,120],x1,x2]:List (List UInt8))) (by simp) (by omega) hl) rfl rfl rfl rfl ⟨bU rfl rfl rfl rfl (cI rfl rfl (aV rfl (aD rfl (aD rfl aJ)) trivial)),rfl⟩ (by rintro _ ⟨x,hx,rfl⟩;exact⟨rfl,.inl rfl,fun j hj=>nomatch hj⟩) (aI ⟨rfl,trivial⟩) (fun j hj=>nomatch hj) ?_))
   rintro _ ⟨x,hx,rfl⟩
   refine s1 (rt (cW _ ⟨x,p+1+1,⟨by omega,by omega,?_⟩,rfl⟩ (eA _ [] [] rfl ?_ rfl rfl)))
   · simp at hx;rcases hx with rfl|rfl|rfl|rfl|rfl|rfl|rfl|rfl|rfl|rfl|rfl|rfl|rfl|rfl<;>first|omega|(simp;done)
   refine qs ?_
   repeat' first|exact qx|apply ai
   all_goals rfl
 refine sk (sq (rE [2] (s1 (ai (by exact⟨by simp,by decide⟩) (zF 43 43 rfl rfl rfl rfl (cP (robj:=[(0,.box 137 [.d (.sl (aA (l))),.d (.i (p+1))])]) (rl:=[(0,0)]) (bor:=[]) (news:=[]) (aNa (l) (p+1) (([[111,119,110,32],[116,97,107,101,32],[116,97,107,101,32],[104,101,108,100,32],[105,110,98,111,120,32]]:List (List UInt8))) (by simp) (by omega) hl) rfl rfl rfl rfl ⟨bU rfl rfl rfl rfl (cI rfl rfl (aV rfl (aD rfl (aD rfl aJ)) trivial)),rfl⟩ (by rintro _ ⟨x,hx,rfl⟩;exact⟨rfl,.inl rfl,fun j hj=>nomatch hj⟩) (aI ⟨rfl,trivial⟩) (fun j hj=>nomatch hj) ?_))))))
 rintro _ ⟨x,hx,rfl⟩
 have hxl:=hall x hx
 refine s1 (cP (robj:=[(0,.box 137 [.d (.sl (aA (l))),.d (.i (p+1+1))])]) (rl:=[(0,0)]) (bor:=[]) (news:=[]) (dy l (p+1+1) (by omega) hl) rfl rfl rfl rfl ⟨bU rfl rfl rfl rfl (aV rfl (aD rfl (aD rfl aJ)) trivial),rfl⟩ (by rintro _ ⟨n1,q1,hn1,hq1,rfl⟩;exact⟨rfl,.inl rfl,fun j hj=>nomatch hj⟩) (aI ⟨rfl,trivial⟩) (fun j hj=>nomatch hj) ?_)
 rintro _ ⟨n1,q1,hn1,hq1,rfl⟩
 have hwl:=lO n1
 have hnt:=hn1.2
 refine iD (xp (kK n1 (by omega)) (ai rfl ?_))
 refine ai (by first|trivial|(show _≤9223372036854775807;(try simp only[aW7,aW9,aXa]);omega)) (s1 (rt (cW _ ⟨x++fZ n1,q1,⟨by omega,by omega,by simp only[aW7,aW9,aXa];omega⟩,rfl⟩ (eA _ [] [] rfl ?_ rfl rfl))))
 refine qs ?_
 repeat' first|exact qx|apply ai
 all_goals rfl
theorem zf (l:List dR) (f m:Int) (hl:l.length≤1000000):Sp 242 3 [tD 0 (.sl (aY l)),tI 1 f,tI 2 m] [tI 0 (gZ l f m)]:=by
 refine sb Tryz.func242 rfl (sq (rT [0,1,2] (s1 (sq (sq (rT [0,1,2,7] (s1 (bk (SW.loopW (n:=l.length) (fun n q=> ∃i:Nat,n=l.length - i∧i≤l.length∧(∀k,k<i→iM l f m k=false)∧q=[tD 0 (.sl (aY l)),tI 1 f,tI 2 m,tI 7 (i:Nat)]) ?_ ?_)))))))))
 · exact wq (σ':=[tD 0 (.sl (aY l)),tI 1 f,tI 2 m,tI 7 (0:Nat)]) [] [] (⟨0,rfl,aXd _,fun k h=>absurd h (by omega),rfl⟩) qz
 rintro n s ⟨i,rfl,hi,hk,rfl⟩
 refine sq (sq (rT [0,1,2,7,11] (s4 (cd rfl (fun c11=> ?_) fun c11=> ?_))))
 · have hi2:i<l.length:=by simpa[aF] using c11
   have hg:=gE (l:=l) hi2
   refine sk (sq (bk (sq (rT [0,1,2,7,29] (s2 (ai (by rw[aW6,hg];exact⟨⟨by omega,by rw[aF];omega⟩,rfl⟩) (s1 (ai (by rw[aW6,hg];exact⟨aW8 rfl,rfl⟩) (s3 (y2 (ai (fun h=>(by rw[aW6,hg];exact⟨⟨by omega,by rw[aF];omega⟩,rfl⟩)) (ai rk (y1 (ai (fun h=>(by rw[aW6,hg];exact⟨aW8 rfl,rfl⟩)) (ai rk (y2 (ai pk (cd rfl (fun c29=> ?_) fun c29=> ?_))))))))))))))))))
   · refine sq (rT [6] (s2 (rt (bN rfl (congrArg D.i ?_)))))
     have hs:iM l f m i=true:=by
      have h9:=c29
      rw[aW6,hg] at h9
      exact h9
     exact(mB (aXd _) (by omega) (fun j _ h=>hk j h) hs).symm
   refine sk (rT [0,1,2,7] (s3 ?_))
   have hs:iM l f m i=false:=by
    have h9:=c29
    rw[aW6,hg] at h9
    exact h9
   refine wq [] [] (⟨l.length - (i+1),by omega,i+1,rfl,by omega,fun k h=>by by_cases e:k=i;exact e▸hs;exact hk k (by omega),rfl⟩) ?_
   repeat' apply ai
   all_goals first|exact qx|exact congrArg D.i (aB (by omega))|exact qz
 have hi3:i=l.length:=by simp[aF] at c11;omega
 refine xt (sq (rT [6] (s1 (rt (bN rfl (congrArg D.i ?_))))))
 exact(mG (fun j _ h=>hk j (by omega))).symm
theorem zg (l:List dR) (a:Int) (ha:0≤a∧a<l.length) (hl:l.length≤100000):Sp 241 2 [tD 0 (.sl (aY l)),tI 1 a] [tO 0 0 (gK l a.toNat).length,oR 0 85 6 (aY (gK l a.toNat))]:=by
 obtain⟨i,rfl⟩:=Int.eq_ofNat_of_zero_le ha.1
 have hw:wrap64 ((i:Int)+1)=((i+1:Nat):Int):=by rw[aB (by omega)];omega
 refine sb Tryz.func241 rfl (sq (rT [0,1] (s1 (sq (rD [4] (ai (by simp) (s2 (ai (by exact⟨by rw[aF];exact⟨by first|(simp;done)|(simp;omega),by first|(simp;done)|(simp;omega),by first|(simp;done)|(simp;omega)⟩,sR _⟩) (ai (by exact⟨by first|trivial|rfl|(simp;done),by first|rfl|(simp[aF];done),by first|exact lu l _ _|(simp;done),by(try simp only[aW7,aW9,aXa,aXc,aXf,aF,jT,jU,jV,jW]);show _*64≤_;omega⟩) (s3 (ai (by rw[hw];exact⟨by rw[aF];exact⟨by first|(simp;done)|(simp;omega),by first|(simp;done)|(simp;omega),by first|(simp;done)|(simp;omega)⟩,sR _⟩) (ai (by exact⟨by first|trivial|rfl|(simp;done),by first|rfl|(simp[aF];done),by first|exact lu l _ _|(simp;done),by(try simp only[hw]);(try simp only[aW7,aW9,aXa,aXc,aXf,aF,jT,jU,jV,jW]);show _*64≤_;omega⟩) (s1 (ai (by kernel_rfl) (rt (eA _ [(0,5)] [] rfl (jA rfl rfl ?_ rfl (bV rfl ?_ trivial)) rfl rfl))))))))))))))))
 · rw[hw,vN,zP];simp[aY,gK]
 rw[hw,vN,zP];simp[aY,gK,List.map_take,List.map_drop]
theorem zh (l:List dR) (a:Int) (ha:0≤a∧a<l.length) (hl:l.length≤100000):Ab.Spec Tryz.prog 241 2 [(.t 0,.v (Dv (.sl (aY l)))),(.t 1,.v (I a))] [(.t 0,.v (Dv (.sl (aY (gK l a.toNat)))))]:=
 Spec.told (rl:=[]) (bor:=[0]) (zg l a ha hl) (eW rfl rfl rfl (aF _) rfl trivial) rfl rfl
set_option maxHeartbeats 800000 in
theorem aNb (k:aH) (hl:k.log.length≤900000):Sp 59 1 [tV 0 (.e (.agg [.d (.i (k).id),.d (.b (k).up),.d (.s (k).log),.d (.i (k).forced),.own 0 k.halves.length])),oR 0 85 6 (aY k.halves)] [tV 0 (.tup [.agg [.d (.i (aZ k).1.id),.d (.i (aZ k).1.time),.d (.i (aZ k).1.next),.d (.sl (aE (aZ k).1.held)),.d (.sl (aP (aZ k).1.marks)),.d (.sl (aE (aZ k).1.inbox))],.c (.d (.b (aZ k).2))]),oR 0 85 6 (aY k.halves)]:=by
 refine sb Tryz.func59 rfl (sq (rT [1,2] (s3 (sq (rT [1,2,4] (s3 (xp (gF k.log (by omega)) (ai rfl ?_))))))))
 refine s5 (sq (rT [2,3] (s3 (xp (xP k.id (bM k.log).1 (nY k.log hl).1 (nY k.log hl).2) (ai rfl ?_)))))
 exact s4 (rt (eA _ [] [] rfl (aU2 rfl (aRp (aD rfl (aD rfl (aD rfl (aD rfl (aD rfl (aD rfl aJ)))))) (aWz rfl aO7)) (bV rfl rfl trivial)) rfl rfl))
theorem sJ (a:Int) (f:cF):Sp 238 2 [tI 0 a,tV 1 f.V] [tV 0 ((bw a f).V)]:=by
 exact sb Tryz.func238 rfl (sq (rT [0,3,4] (s2 (sq (rT [4] (s9 (s6 (rt (eA _ [] [] rfl (dX rfl (aD rfl (aD rfl (aD rfl (aD rfl (aD rfl (aD rfl (aD rfl (aD rfl (aD rfl (aD rfl aJ)))))))))) trivial) rfl rfl)))))))))
set_option maxHeartbeats 3200000 in
theorem aA8 (k:aH) (f:cF) (hb:k.halves.length≤3) (hb2: ∀x∈k.halves,x.got.length≤14):Sp 239 2 [tV 0 (.e (.agg [.d (.i (k).id),.d (.b (k).up),.d (.s (k).log),.d (.i (k).forced),.own 0 k.halves.length])),(.t 1,.v f.V),oR 0 85 6 (aY k.halves)] [tV 0 (.tup [.agg [.d (.i ((dZ k (bZ k.halves f).1)).id),.d (.b ((dZ k (bZ k.halves f).1)).up),.d (.s ((dZ k (bZ k.halves f).1)).log),.d (.i ((dZ k (bZ k.halves f).1)).forced),.d (.sl (aY ((dZ k (bZ k.halves f).1)).halves))],.c (.d (.i (bZ k.halves f).2))])]:=by
 have hlt:=yl (f:=f) hb
 have hg14:=aEb (f:=f) hb2
 refine sb Tryz.func239 rfl (sq (rT [2,3,4] (s4 (sq (wa [tP 2 2,tP 3 3,tP 4 4,oB 2 27 [.d (.i (k).id),.d (.b (k).up),.d (.s (k).log),.d (.i (k).forced),.own 0 k.halves.length],oB 3 63 [.d (.i f.kind),.d (.i f.src),.d (.i f.dst),.d (.i f.frm),.d (.i f.num),.d (.i f.to),.d (.i f.til),.d (.i f.size),.d (.i f.mix),.d (.s f.data)],oB 4 27 [.d (.i 0),.d (.b false),.d (.s []),.d (.i 0),.nil],oR 0 85 6 (aY k.halves)] [] [] qz (rT [2,3,4,6] (s6 (bK (robj:=[(0,.row 85 6 (aY k.halves))]) (rl:=[]) (bor:=[0]) (zf k.halves f.frm f.num (by omega)) rfl rfl rfl rfl ⟨eW rfl rfl rfl (aF _) rfl (cI rfl rfl (cI rfl rfl trivial)),rfl⟩ rfl (.inr (fun p hp=>by simp at hp;subst hp;trivial)) (aI ⟨rfl,trivial⟩) (fun j hj=>nomatch hj) ?_))))))))
 refine s1 (SW.midW (fun q=>q=[tP 2 2,tP 3 3,tP 4 4,tI 6 ((dN k.halves f).2:Nat),oB 2 27 [.d (.i (k).id),.d (.b (k).up),.d (.s (k).log),.d (.i (k).forced),.own 50 (dN k.halves f).1.length],oB 3 63 [.d (.i f.kind),.d (.i f.src),.d (.i f.dst),.d (.i f.frm),.d (.i f.num),.d (.i f.to),.d (.i f.til),.d (.i f.size),.d (.i f.mix),.d (.s f.data)],oB 4 27 [.d (.i 0),.d (.b false),.d (.s []),.d (.i 0),.nil],oR 50 85 6 (aY (dN k.halves f).1)]) ?_ ?_)
 · refine sq (rT [2,3,4,6,18] (s2 (cd rfl (fun c18=> ?_) fun c18=> ?_)))
   · have hneg:gZ k.halves f.frm f.num<0:=by simpa using c18
     have hput:=de hneg
     refine SW.midW (fun q=>q=[tP 2 2,tP 3 3,tP 4 4,oB 2 27 [.d (.i (k).id),.d (.b (k).up),.d (.s (k).log),.d (.i (k).forced),.own 50 (gY k.halves).length],oB 3 63 [.d (.i f.kind),.d (.i f.src),.d (.i f.dst),.d (.i f.frm),.d (.i f.num),.d (.i f.to),.d (.i f.til),.d (.i f.size),.d (.i f.mix),.d (.s f.data)],oB 4 27 [.d (.i 0),.d (.b false),.d (.s []),.d (.i 0),.nil],oR 50 85 6 (aY (gY k.halves))]) ?_ ?_
     · refine sq (rT [2,3,4,22] (s2 (ai (by exact aF _) (s1 (cd rfl (fun c22=> ?_) fun c22=> ?_)))))
       · have h3:3≤k.halves.length:=by simp[aF] at c22;omega
         have hcut:gY k.halves=gK k.halves (0:Int).toNat:=by unfold gY;rw[if_pos h3];rfl
         refine rE [2,3,4] (s2 (zF 24 0 rfl rfl (aF _) (by rfl) (iD (bK (robj:=[]) (rl:=[(0,25)]) (bor:=[]) (zg k.halves 0 (by omega) (by omega)) rfl rfl rfl rfl ⟨cI rfl rfl (cI rfl rfl trivial),rfl⟩ rfl (.inl rfl) (fun p hp=>nomatch hp) (fun j hj=>by(obtain rfl:j=0:=by simpa[kN,cD,iO] using hj);rfl) (s2 ?_)))))
         first
         |(refine wq [(50,25)] [] (rfl) ?_
           repeat' apply ai
           all_goals first|exact qx|(rw[hcut];done)|(rw[hcut];simp[aF];done)|(simp[aF];done)|exact qz)
         |(refine wq [(50,0)] [] (rfl) ?_
           repeat' apply ai
           all_goals first|exact qx|(rw[hcut];done)|(rw[hcut];simp[aF];done)|(simp[aF];done)|exact qz)
       have h3: ¬3≤k.halves.length:=by simp[aF] at c22;omega
       have hcut:gY k.halves=k.halves:=by unfold gY;rw[if_neg h3]
       refine sk ?_
       first
       |(refine wq [(50,25)] [] (rfl) ?_
         repeat' apply ai
         all_goals first|exact qx|(rw[hcut];done)|(rw[hcut];simp[aF];done)|(simp[aF];done)|exact qz)
       |(refine wq [(50,0)] [] (rfl) ?_
         repeat' apply ai
         all_goals first|exact qx|(rw[hcut];done)|(rw[hcut];simp[aF];done)|(simp[aF];done)|exact qz)
     rintro s rfl
     have hc2:=mt k.halves hb
     refine sq (rT [2,3,4] (s9 (s5 (ai (by exact⟨rfl,aF _,by intro r hr;rw[aXo.1 hr];rfl,by show(_+1)*64≤_;omega⟩) (s2 (rT [2,3,4,6] (s2 (ai (by first|rfl|(simp[aF];done)) (s2 ?_)))))))))
     first
     |(refine wq [] [] (rfl) ?_
       repeat' apply ai
       all_goals first|exact qx|(rw[hput];done)|(rw[hput];rfl)|(rw[hput];simp[aF];done)|(rw[hput];exact pC _ (sS f))|(simp[aF];done)|(rw[hput];show D.i _=D.i (((gY k.halves).length:Nat):Int);refine congrArg D.i ?_;simp only[aW7,aW9,aXa,aF];rw[aB (by omega)];omega)|(rw[hput];show D.i _=D.i (((gZ k.halves f.frm f.num).toNat:Nat):Int);exact congrArg D.i (Int.toNat_of_nonneg (by omega)).symm)|exact qz)
     |(refine wq [(50,0)] [] (rfl) ?_
       repeat' apply ai
       all_goals first|exact qx|(rw[hput];done)|(rw[hput];rfl)|(rw[hput];simp[aF];done)|(rw[hput];exact pC _ (sS f))|(simp[aF];done)|(rw[hput];show D.i _=D.i (((gY k.halves).length:Nat):Int);refine congrArg D.i ?_;simp only[aW7,aW9,aXa,aF];rw[aB (by omega)];omega)|(rw[hput];show D.i _=D.i (((gZ k.halves f.frm f.num).toNat:Nat):Int);exact congrArg D.i (Int.toNat_of_nonneg (by omega)).symm)|exact qz)
   have hneg: ¬gZ k.halves f.frm f.num<0:=by simpa using c18
   have hput:=jb hneg
   refine sk ?_
   first
   |(refine wq [] [] (rfl) ?_
     repeat' apply ai
     all_goals first|exact qx|(rw[hput];done)|(rw[hput];rfl)|(rw[hput];simp[aF];done)|(rw[hput];exact pC _ (sS f))|(simp[aF];done)|(rw[hput];show D.i _=D.i (((gY k.halves).length:Nat):Int);refine congrArg D.i ?_;simp only[aW7,aW9,aXa,aF];rw[aB (by omega)];omega)|(rw[hput];show D.i _=D.i (((gZ k.halves f.frm f.num).toNat:Nat):Int);exact congrArg D.i (Int.toNat_of_nonneg (by omega)).symm)|exact qz)
   |(refine wq [(50,0)] [] (rfl) ?_
     repeat' apply ai
     all_goals first|exact qx|(rw[hput];done)|(rw[hput];rfl)|(rw[hput];simp[aF];done)|(rw[hput];exact pC _ (sS f))|(simp[aF];done)|(rw[hput];show D.i _=D.i (((gY k.halves).length:Nat):Int);refine congrArg D.i ?_;simp only[aW7,aW9,aXa,aF];rw[aB (by omega)];omega)|(rw[hput];show D.i _=D.i (((gZ k.halves f.frm f.num).toNat:Nat):Int);exact congrArg D.i (Int.toNat_of_nonneg (by omega)).symm)|exact qz)
 rintro s rfl
 refine sq (rT [2,3,4,6,7] (s3 (ai (by exact⟨aF _,by omega,by omega⟩) (ai (by rw[aW6,gE hlt.1];exact⟨⟨aF _,hlt.1⟩,aW8 rfl,rfl⟩) (s2 (sq (sq (wa [tP 2 2,tP 3 3,tP 4 4,tP 7 7,tI 6 ((dN k.halves f).2:Nat),oB 2 27 [.d (.i (k).id),.d (.b (k).up),.d (.s (k).log),.d (.i (k).forced),.own 50 (dN k.halves f).1.length],oB 3 63 [.d (.i f.kind),.d (.i f.src),.d (.i f.dst),.d (.i f.frm),.d (.i f.num),.d (.i f.to),.d (.i f.til),.d (.i f.size),.d (.i f.mix),.d (.s f.data)],oB 4 27 [.d (.i 0),.d (.b false),.d (.s []),.d (.i 0),.nil],oB 7 85 [.d (.i ((bW k.halves f)).frm),.d (.i ((bW k.halves f)).num),.d (.i ((bW k.halves f)).to),.d (.i ((bW k.halves f)).til),.d (.i ((bW k.halves f)).size),.d (.sl (cM ((bW k.halves f)).got))],oR 50 85 6 (aY (dN k.halves f).1)] [] [] ?_ ?_))))))))
 · repeat' apply ai
   all_goals first|exact qx|(rw[aW6,gE hlt.1];rfl)|rfl|exact qz
 refine rT [2,3,4,6,7,70] (s6 (y4 (y1 (ai pk (s1 (y4 (y1 (ai pk (cd rfl (fun c70=> ?_) fun c70=> ?_)))))))))
 · have hno: ¬rB (bW k.halves f) f=true:=by intro h;simp only[rB,aXb,beq_iff_eq] at h;simp[h.1.1,h.1.2,h.2] at c70
   have hadd:=jc hno
   refine sq (rT [4,5] (s3 (rt (rq [] [50] rfl ?_))))
   repeat' apply ai
   all_goals try exact qx
   all_goals(first|with_reducible rfl|(rw[hadd];done)|(rw[hadd];rfl)|exact aF _)
 have hyes:rB (bW k.halves f) f=true:=by simp at c70;simp[rB,c70]
 have hadd:=df hyes
 refine sk (sq (rT [2,3,4,6,7,8] (s2 (sq (sq (rT [2,3,4,6,7,8,9] (s1 (bk (SW.loopW (n:=(bW k.halves f).got.length) (fun m q=> ∃i:Nat,m=(bW k.halves f).got.length - i∧i≤(bW k.halves f).got.length∧q=[tP 2 2,tP 3 3,tP 4 4,tP 7 7,tI 6 ((dN k.halves f).2:Nat),tO 8 72 (iS ((bW k.halves f).got.take (i)) f.mix).length,tI 9 (i:Nat),oB 2 27 [.d (.i (k).id),.d (.b (k).up),.d (.s (k).log),.d (.i (k).forced),.own 50 (dN k.halves f).1.length],oB 3 63 [.d (.i f.kind),.d (.i f.src),.d (.i f.dst),.d (.i f.frm),.d (.i f.num),.d (.i f.to),.d (.i f.til),.d (.i f.size),.d (.i f.mix),.d (.s f.data)],oB 4 27 [.d (.i 0),.d (.b false),.d (.s []),.d (.i 0),.nil],oB 7 85 [.d (.i ((bW k.halves f)).frm),.d (.i ((bW k.halves f)).num),.d (.i ((bW k.halves f)).to),.d (.i ((bW k.halves f)).til),.d (.i ((bW k.halves f)).size),.d (.sl (cM ((bW k.halves f)).got))],oR 50 85 6 (aY (dN k.halves f).1),oR 72 68 2 (cM (iS ((bW k.halves f).got.take (i)) f.mix))]) ?_ ?_)))))))))
 · refine wq (σ':=[tP 2 2,tP 3 3,tP 4 4,tP 7 7,tI 6 ((dN k.halves f).2:Nat),tO 8 72 (iS ((bW k.halves f).got.take (0)) f.mix).length,tI 9 (0:Nat),oB 2 27 [.d (.i (k).id),.d (.b (k).up),.d (.s (k).log),.d (.i (k).forced),.own 50 (dN k.halves f).1.length],oB 3 63 [.d (.i f.kind),.d (.i f.src),.d (.i f.dst),.d (.i f.frm),.d (.i f.num),.d (.i f.to),.d (.i f.til),.d (.i f.size),.d (.i f.mix),.d (.s f.data)],oB 4 27 [.d (.i 0),.d (.b false),.d (.s []),.d (.i 0),.nil],oB 7 85 [.d (.i ((bW k.halves f)).frm),.d (.i ((bW k.halves f)).num),.d (.i ((bW k.halves f)).to),.d (.i ((bW k.halves f)).til),.d (.i ((bW k.halves f)).size),.d (.sl (cM ((bW k.halves f)).got))],oR 50 85 6 (aY (dN k.halves f).1),oR 72 68 2 (cM (iS ((bW k.halves f).got.take (0)) f.mix))]) [] [] (⟨0,rfl,aXd _,rfl⟩) ?_
   repeat' apply ai
   all_goals first|exact qx|rfl|exact qz
 rintro n s ⟨i,rfl,hi,rfl⟩
 refine sq (sq (rT [2,3,4,6,7,8,9,77] (s5 (cd rfl (fun c77=> ?_) fun c77=> ?_))))
 · have hi2:i< (bW k.halves f).got.length:=by simpa[bI] using c77
   have hg:=mI (l:=(bW k.halves f).got) hi2
   have hts:=eP (z:=iB.zero) hi2
   have hle:=ym ((bW k.halves f).got.take i) f.mix
   rw[aXc] at hle
   refine sk (sq (bk (sq (rD [2,3,4,6,7,8,9,88] (s3 (ai (by rw[aW6,hg];exact⟨⟨by omega,by rw[bI];omega⟩,rfl⟩) (s1 (ai (by rw[aW6,hg];exact⟨aW8 rfl,rfl⟩) (s3 (ai (by kernel_rfl) (cd rfl (fun c88=> ?_) fun c88=> ?_)))))))))))
   · have hlg:=aGz (l:=(bW k.halves f).got.take i) (m:=(bW k.halves f).got.getD i .zero) (n:=f.mix) (by rw[aW6,hg] at c88;exact c88)
     refine rT [2,3,4,6,7,8,9] (s4 (ai (by rw[aW6,hg];exact⟨⟨by omega,by rw[bI];omega⟩,rfl⟩) (ai (by rw[aW6,hg];exact⟨aW8 rfl,rfl⟩) (s1 (ai (by exact⟨rfl,bI _,by intro r hr;rw[aXo.1 hr];rfl,by show(_+1)*24≤_;omega⟩) (s1 (rT [2,3,4,6,7,8,9] (s3 (wq [] [] (⟨(bW k.halves f).got.length - (i+1),by omega,i+1,rfl,by omega,rfl⟩) ?_)))))))))
     repeat' apply ai
     all_goals first|exact qx|exact congrArg D.i (by rw[aB (by omega)];omega)|(rw[hts,hlg];done)|(rw[hts,hlg,aW7];rfl)|(rw[hts,hlg];simp[bI];done)|(rw[hts,hlg,aW6,hg];exact zU _ _)|exact qz
   have hlg:=aJc (l:=(bW k.halves f).got.take i) (m:=(bW k.halves f).got.getD i .zero) (n:=f.mix) (by rw[aW6,hg] at c88;exact c88)
   refine sk (rT [2,3,4,6,7,8,9] (s3 (wq [] [] (⟨(bW k.halves f).got.length - (i+1),by omega,i+1,rfl,by omega,rfl⟩) ?_)))
   repeat' apply ai
   all_goals first|exact qx|exact congrArg D.i (by rw[aB (by omega)];omega)|(rw[hts,hlg];done)|(rw[hts,hlg,aW7];rfl)|(rw[hts,hlg];simp[bI];done)|(rw[hts,hlg,aW6,hg];exact zU _ _)|exact qz
 have hi3:i=(bW k.halves f).got.length:=by simp[bI] at c77;omega
 subst hi3
 clear hi
 have hle:=ym (bW k.halves f).got f.mix
 refine xt (SW.midW (fun q=>q=[tP 2 2,tP 3 3,tP 4 4,tP 7 7,tI 6 ((dN k.halves f).2:Nat),tO 8 60 (sE (iS (bW k.halves f).got f.mix)).length,oB 2 27 [.d (.i (k).id),.d (.b (k).up),.d (.s (k).log),.d (.i (k).forced),.own 50 (dN k.halves f).1.length],oB 3 63 [.d (.i f.kind),.d (.i f.src),.d (.i f.dst),.d (.i f.frm),.d (.i f.num),.d (.i f.to),.d (.i f.til),.d (.i f.size),.d (.i f.mix),.d (.s f.data)],oB 4 27 [.d (.i 0),.d (.b false),.d (.s []),.d (.i 0),.nil],oB 7 85 [.d (.i ((bW k.halves f)).frm),.d (.i ((bW k.halves f)).num),.d (.i ((bW k.halves f)).to),.d (.i ((bW k.halves f)).til),.d (.i ((bW k.halves f)).size),.d (.sl (cM ((bW k.halves f)).got))],oR 50 85 6 (aY (dN k.halves f).1),oR 60 68 2 (cM (sE (iS (bW k.halves f).got f.mix)))]) ?_ ?_)
 · refine sq (rT [2,3,4,6,7,8,99] (s1 (ai (by exact bI _) (s1 (cd rfl (fun c99=> ?_) fun c99=> ?_)))))
   · have h14:14≤(iS (bW k.halves f).got f.mix).length:=by rw[aXn] at c99;simp[bI] at c99;omega
     have hcg:sE (iS (bW k.halves f).got f.mix)=(iS (bW k.halves f).got f.mix).drop 1:=by unfold sE;rw[if_pos h14]
     refine rE [2,3,4,6,7,8] (s2 (zF 101 72 rfl rfl (by simp[bI]) (by rfl) (iD (sx cV rfl (by exact⟨⟨by simp,by simp[bI] at *; omega,by simp⟩,qU _⟩) (ai (by rw[aXn];exact⟨trivial,rfl,aGg _ _ _,by have h9:=Nat.le_trans (show(((cM (iS (bW k.halves f).got f.mix)).take (gH none (cM (iS (bW k.halves f).got f.mix)).length)).drop (fE (some 1))).length≤(cM (iS (bW k.halves f).got f.mix)).length by rw[aXf,aXc];omega) (Nat.le_of_eq (bI _));simp only[aXa];show _*24≤_;omega⟩) (s1 ?_))))))
     first
     |(refine wq [(60,72)] [] (rfl) ?_
       repeat' apply ai
       all_goals first|exact qx|(rw[hcg];done)|(rw[hcg,aXn];done)|(rw[hcg];simp[bI,gH,fE];done)|(simp[bI];done)|(rw[hcg];simp[gH,fE,cM,List.map_drop];done)|(rw[hcg];simp[gH,fE,cM,List.map_drop];rw[List.take_of_length_le (by simp)];done)|exact qz)
     |(refine wq [(60,100)] [] (rfl) ?_
       repeat' apply ai
       all_goals first|exact qx|(rw[hcg];done)|(rw[hcg,aXn];done)|(rw[hcg];simp[bI,gH,fE];done)|(simp[bI];done)|(rw[hcg];simp[gH,fE,cM,List.map_drop];done)|(rw[hcg];simp[gH,fE,cM,List.map_drop];rw[List.take_of_length_le (by simp)];done)|exact qz)
   have h14: ¬14≤(iS (bW k.halves f).got f.mix).length:=by rw[aXn] at c99;simp[bI] at c99;omega
   have hcg:sE (iS (bW k.halves f).got f.mix)=(iS (bW k.halves f).got f.mix):=by unfold sE;rw[if_neg h14]
   refine sk ?_
   first
   |(refine wq [(60,72)] [] (rfl) ?_
     repeat' apply ai
     all_goals first|exact qx|(rw[hcg];done)|(rw[hcg,aXn];done)|(rw[hcg];simp[bI,gH,fE];done)|(simp[bI];done)|(rw[hcg];simp[gH,fE,cM,List.map_drop];done)|(rw[hcg];simp[gH,fE,cM,List.map_drop];rw[List.take_of_length_le (by simp)];done)|exact qz)
   |(refine wq [(60,100)] [] (rfl) ?_
     repeat' apply ai
     all_goals first|exact qx|(rw[hcg];done)|(rw[hcg,aXn];done)|(rw[hcg];simp[bI,gH,fE];done)|(simp[bI];done)|(rw[hcg];simp[gH,fE,cM,List.map_drop];done)|(rw[hcg];simp[gH,fE,cM,List.map_drop];rw[List.take_of_length_le (by simp)];done)|exact qz)
 rintro s rfl
 have hcl: (sE (iS (bW k.halves f).got f.mix)).length≤14:=by unfold sE;split<;>(try rw[aXf])<;>omega
 refine sq (rT [2,4,6,7] (s7 (ai (by exact⟨rfl,bI _,by intro r hr;rw[aXo.1 hr];rfl,by show(_+1)*24≤_;omega⟩) (s2 (sq (wa [tP 2 2,tP 4 4,tP 7 7,tI 6 ((dN k.halves f).2:Nat),oB 2 27 [.d (.i (k).id),.d (.b (k).up),.d (.s (k).log),.d (.i (k).forced),.own 50 (dN k.halves f).1.length],oB 3 63 [.d (.i f.kind),.d (.i f.src),.d (.i f.dst),.d (.i f.frm),.d (.i f.num),.d (.i f.to),.d (.i f.til),.d (.i f.size),.d (.i f.mix),.d (.s f.data)],oB 4 27 [.d (.i 0),.d (.b false),.d (.s []),.d (.i 0),.nil],oB 7 85 [.d (.i ((uN (bW k.halves f) f)).frm),.d (.i ((uN (bW k.halves f) f)).num),.d (.i ((uN (bW k.halves f) f)).to),.d (.i ((uN (bW k.halves f) f)).til),.d (.i ((uN (bW k.halves f) f)).size),.d (.sl (cM ((uN (bW k.halves f) f)).got))],oR 50 85 6 (aY (dN k.halves f).1)] [] [60] ?_ ?_))))))
 · repeat' apply ai
   all_goals first|exact qx|rfl|(exact congrArg D.sl (zU _ ⟨f.mix,f.data⟩).symm)|(simp[bI];done)|exact qz
 refine rT [2,4,6] (s4 (ai (by exact⟨aF _,by omega,by omega⟩) (ai (by rw[aW6,gE hlt.1];exact⟨aF _,hlt.1,rfl,aW8 rfl⟩) (sq (rT [4,5] (s4 (rt (rq [] [50] rfl ?_))))))))
 repeat' apply ai
 all_goals try exact qx
 all_goals(first|with_reducible rfl|(rw[hadd];done)|(rw[hadd];rfl)|(rw[aW6,hadd];exact congrArg D.sl (aEa (h:=uN (bW k.halves f) f) hlt.1).symm)|(simp[aF];done))
end Go.Proofs.YthbgjfegalcenaaGreatDoor
