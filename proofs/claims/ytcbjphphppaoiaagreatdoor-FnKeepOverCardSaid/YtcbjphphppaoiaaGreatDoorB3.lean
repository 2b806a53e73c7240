/- Plain functions, and contracts of the functions that the law reaches. -/
import Derived.Test.YtcbjphphppaoiaaGreatDoorB2
namespace Go.Proofs.YtcbjphphppaoiaaGreatDoor
open Int renaming toNat_natCast→aU4,tmod→aVg
open List renaming length_append→aU5,length_nil→aU8,length_cons→aU9,getD_eq_getElem?_getD→aVb,length_take→aVc,getElem?_eq_getElem→aVd,getElem?_eq_some_iff→aVe,range→aVh,all_eq_true→aVi,mem_map→aVj,length_drop→aVk,take_length→aVl,mem_cons→aVm,mem_singleton→aVn,mem_iff_getElem?→aVp
open Nat renaming le_of_ble_eq_true→aU6,zero_le→aVa,le_refl→aVf,add_mul→aVo
open Bool renaming and_eq_true→aU7
open Go Go.Ab Go.RowKit
set_option linter.unusedVariables false
set_option linter.unusedSimpArgs false
set_option maxRecDepth 9000
set_option maxHeartbeats 6400000 in
theorem ff (k:aL) (rec:List UInt8) (hb:k.held.length≤100000∧k.marks.length≤100000∧k.inbox.length≤100000) (hr:rec.length≤900000):Sp 36 2 [tV 0 k.V,tD 1 (.s rec)] [tV 0 (.tup [.agg [.d (.i ((fZ k rec).1).id),.d (.i ((fZ k rec).1).time),.d (.i ((fZ k rec).1).next),.d (.sl (aD ((fZ k rec).1).held)),.d (.sl (aJ ((fZ k rec).1).marks)),.d (.sl (aD ((fZ k rec).1).inbox))],.c (.d (.b (fZ k rec).2))])]:=by
 have hl1:=uG rec
 have hl2:=dj rec
 have hl3:=yR (aN rec)
 have e0:db (((cY (eX 3 (aN rec))).getD 0 []).getD 0 (.i 0))=dM (aN rec) 0:=tz (by omega)
 have e1:db (((cY (eX 3 (aN rec))).getD 1 []).getD 0 (.i 0))=dM (aN rec) 1:=tz (by omega)
 have e2:db (((cY (eX 3 (aN rec))).getD 2 []).getD 0 (.i 0))=dM (aN rec) 2:=tz (by omega)
 refine sb Tryz.func36 rfl (sq (rT [1,2,4,48,49,50,51,52,55,56,57,58,59,81,82,83,84,85,116,117,118,119,120,121,122,123,126,127,128,129,130,131,132,133,157,158,159,160,161,162,163,164,165,166,167,168,169,170,171,172,173,174,192,193,194,195,196,197,198,199,200,201,228,229,230,231,232,233,234,235,236,237] (s3 (sq (rT [2,4,6,7,48,49,50,51,52,55,56,57,58,59,81,82,83,84,85,116,117,118,119,120,121,122,123,126,127,128,129,130,131,132,133,157,158,159,160,161,162,163,164,165,166,167,168,169,170,171,172,173,174,192,193,194,195,196,197,198,199,200,201,228,229,230,231,232,233,234,235,236,237] (s1 (xp (ez rec (by omega)) (ai rfl ?_))))))))
 refine s5 (sq (sq (rT [2,4,6,7,25,48,49,50,51,52,55,56,57,58,59,81,82,83,84,85,116,117,118,119,120,121,122,123,126,127,128,129,130,131,132,133,157,158,159,160,161,162,163,164,165,166,167,168,169,170,171,172,173,174,192,193,194,195,196,197,198,199,200,201,228,229,230,231,232,233,234,235,236,237] (s1 (bk (sq (rT [2,4,6,7,25,26,48,49,50,51,52,55,56,57,58,59,81,82,83,84,85,116,117,118,119,120,121,122,123,126,127,128,129,130,131,132,133,157,158,159,160,161,162,163,164,165,166,167,168,169,170,171,172,173,174,192,193,194,195,196,197,198,199,200,201,228,229,230,231,232,233,234,235,236,237] (s2 (cd rfl (fun c26=> ?_) fun c26=> ?_)))))))))
 · refine sq (rT [2,4,8] (s1 (xp (tZ (aN rec) (by omega)) (ai rfl ?_))))
   refine s1 (sq (sq (rT [2,4,8,33] (s4 (cd rfl (fun c33=> ?_) fun c33=> ?_)))))
   · refine sq (rT [4,5] (s3 (rt ?_)))
     have hr:fZ k rec=(k,false):=(if_pos c26).trans (if_pos (by simpa using c33))
     refine bP rfl rfl ?_
     rw[hr]<;>rfl
   refine sk (sq (rT [4,5] (s2 (xp (wc k (gK (aN rec)) hb) (ai rfl ?_)))))
   refine s2 (rt ?_)
   have hr:fZ k rec=_:=(if_pos c26).trans (if_neg (by simpa using c33))
   refine bP rfl rfl ?_
   rw[hr]<;>rfl
 refine sq (rT [2,4,6,7,25,38,48,49,50,51,52,55,56,57,58,59,81,82,83,84,85,116,117,118,119,120,121,122,123,126,127,128,129,130,131,132,133,157,158,159,160,161,162,163,164,165,166,167,168,169,170,171,172,173,174,192,193,194,195,196,197,198,199,200,201,228,229,230,231,232,233,234,235,236,237] (s2 (cd rfl (fun c38=> ?_) fun c38=> ?_)))
 · refine sq (rT [2,4,9,10,48,49,50,51,52,55,56,57,58,59] (s1 (xp (tE (aN rec) (by omega)) (ai rfl ?_))))
   refine s6 (sq (sq (rT [2,4,9,60] (s3 (y4 (y1 (ai pk (s1 (y4 (y1 (ai pk (cd rfl (fun c60=> ?_) fun c60=> ?_))))))))))))
   · refine sq (rT [4,5] (s3 (rt ?_)))
     have hr:fZ k rec=(k,false):=(if_neg (bn c26)).trans ((if_pos c38).trans (if_pos c60))
     refine bP rfl rfl ?_
     rw[hr]<;>rfl
   refine sk (sq (rT [2,4,9] (s5 (sq (rT [4,5] (s2 (xp (cl {k with next:=wrap64 (k.next+1)} (cC (aN rec)).1 hb (by omega)) (ai rfl ?_))))))))
   refine s4 (rt ?_)
   have hr:fZ k rec=_:=(if_neg (bn c26)).trans ((if_pos c38).trans (if_neg (bn c60)))
   refine bP rfl rfl ?_
   rw[hr]<;>rfl
 refine sq (rT [2,4,6,7,25,71,81,82,83,84,85,116,117,118,119,120,121,122,123,126,127,128,129,130,131,132,133,157,158,159,160,161,162,163,164,165,166,167,168,169,170,171,172,173,174,192,193,194,195,196,197,198,199,200,201,228,229,230,231,232,233,234,235,236,237] (s2 (cd rfl (fun c71=> ?_) fun c71=> ?_)))
 · refine sq (rT [2,4,11,12,81,82,83,84,85] (s1 (xp (tE (aN rec) (by omega)) (ai rfl ?_))))
   refine s6 (sq (sq (rT [2,4,11,86] (s3 (y4 (y1 (ai pk (cd rfl (fun c86=> ?_) fun c86=> ?_))))))))
   · refine sq (rT [4,5] (s3 (rt ?_)))
     have hr:fZ k rec=(k,false):=(if_neg (bn c26)).trans ((if_neg (bn c38)).trans ((if_pos c71).trans (if_pos c86)))
     refine bP rfl rfl ?_
     rw[hr]<;>rfl
   refine sk (sq (rT [4,5] (s2 (xp (cl k (cC (aN rec)).1 hb (by omega)) (ai rfl ?_)))))
   refine s4 (rt ?_)
   have hr:fZ k rec=_:=(if_neg (bn c26)).trans ((if_neg (bn c38)).trans ((if_pos c71).trans (if_neg (bn c86))))
   refine bP rfl rfl ?_
   rw[hr]<;>rfl
 refine sq (rT [2,4,6,7,25,93,116,117,118,119,120,121,122,123,126,127,128,129,130,131,132,133,157,158,159,160,161,162,163,164,165,166,167,168,169,170,171,172,173,174,192,193,194,195,196,197,198,199,200,201,228,229,230,231,232,233,234,235,236,237] (s2 (cd rfl (fun c93=> ?_) fun c93=> ?_)))
 · refine sq (rT [2,4,13] (s1 (xp (tZ (aN rec) (by omega)) (ai rfl ?_))))
   refine s1 (sq (sq (rT [2,4,13,100] (s4 (cd rfl (fun c100=> ?_) fun c100=> ?_)))))
   · refine sq (rT [4,5] (s3 (rt ?_)))
     have hr:fZ k rec=(k,false):=(if_neg (bn c26)).trans ((if_neg (bn c38)).trans ((if_neg (bn c71)).trans ((if_pos c93).trans (if_pos (by simpa using c100)))))
     refine bP rfl rfl ?_
     rw[hr]<;>rfl
   refine sk (sq (rT [2,4] (s3 (sq (rT [4,5] (s3 (rt ?_)))))))
   have hr:fZ k rec=_:=(if_neg (bn c26)).trans ((if_neg (bn c38)).trans ((if_neg (bn c71)).trans ((if_pos c93).trans (if_neg (by simpa using c100)))))
   refine bP rfl rfl ?_
   rw[hr]<;>rfl
 refine SW.midW (fun q=>q=[tP 2 2,tP 4 4,tD 6 (.s (bA rec)),tD 7 (.s (aN rec)),tB 105 (bA rec==gU||bA rec==fT),oB 2 26 [.d (.i k.id),.d (.i k.time),.d (.i k.next),.d (.sl (aD k.held)),.d (.sl (aJ k.marks)),.d (.sl (aD k.inbox))],oB 4 26 [.d (.i 0),.d (.i 0),.d (.i 0),.nil,.nil,.nil]]) ?_ ?_
 · refine sq (rT [2,4,6,7,25,105,116,117,118,119,120,121,122,123,126,127,128,129,130,131,132,133,157,158,159,160,161,162,163,164,165,166,167,168,169,170,171,172,173,174,192,193,194,195,196,197,198,199,200,201,228,229,230,231,232,233,234,235,236,237] (s2 (cd rfl (fun c105=> ?_) fun c105=> ?_)))
   · refine sk (wq [] [] (rfl) ?_)
     repeat' apply ai
     all_goals first|exact qx|(refine congrArg D.b ?_;simp_all[gU,fT])|exact qz
   refine rT [2,4,6,7,105,116,117,118,119,120,121,122,123,126,127,128,129,130,131,132,133,157,158,159,160,161,162,163,164,165,166,167,168,169,170,171,172,173,174,192,193,194,195,196,197,198,199,200,201,228,229,230,231,232,233,234,235,236,237] (s2 (wq [] [] (rfl) ?_))
   repeat' apply ai
   all_goals first|exact qx|(refine congrArg D.b ?_;simp_all[gU,fT])|exact qz
 rintro s rfl
 refine cd rfl (fun c105=> ?_) fun c105=> ?_
 · refine sq (rT [2,4,6,14,15,116,117,118,119,120,121,122,123,126,127,128,129,130,131,132,133] (s1 (xp (tE (aN rec) (by omega)) (ai rfl ?_))))
   refine s6 (sq (sq (rT [2,4,6,14,134] (s3 (y4 (y2 (xc (fun h=>(gA k.held _ _ (by omega))) (ai rfl (ai rk ?_)))))))))
   refine y1 (ai pk (s1 (y4 (y2 (xc (fun h=>(gA k.inbox _ _ (by omega))) (ai rfl (ai rk ?_)))))))
   refine y1 (ai pk (cd rfl (fun c134=> ?_) fun c134=> ?_))
   · refine sq (rT [4,5] (s3 (rt ?_)))
     have hr:fZ k rec=(k,false):=(if_neg (bn c26)).trans ((if_neg (bn c38)).trans ((if_neg (bn c71)).trans ((if_neg (bn c93)).trans ((if_pos c105).trans (if_pos c134)))))
     refine bP rfl rfl ?_
     rw[hr]<;>rfl
   refine sk (sq (sq (rT [2,4,14,137] (s2 (cd rfl (fun c137=> ?_) fun c137=> ?_)))))
   · refine rT [2,4] (s3 (xp (mZ k.held (cC (aN rec)).1 hb.1) (ai rfl ?_)))
     refine s2 (sq (rT [4,5] (s3 (rt ?_))))
     first|have hr:fZ k rec=_:=(if_neg (bn c26)).trans ((if_neg (bn c38)).trans ((if_neg (bn c71)).trans ((if_neg (bn c93)).trans ((if_pos c105).trans ((if_neg (bn c134)).trans (if_pos c137))))))|have hr:fZ k rec=_:=(if_neg (bn c26)).trans ((if_neg (bn c38)).trans ((if_neg (bn c71)).trans ((if_neg (bn c93)).trans ((if_pos c105).trans ((if_neg (bn c134)).trans (if_neg (bn c137)))))))
     refine bP rfl rfl ?_
     rw[hr]<;>rfl
   refine rT [2,4] (s3 (xp (mZ k.inbox (cC (aN rec)).1 hb.2.2) (ai rfl ?_)))
   refine s2 (sq (rT [4,5] (s3 (rt ?_))))
   first|have hr:fZ k rec=_:=(if_neg (bn c26)).trans ((if_neg (bn c38)).trans ((if_neg (bn c71)).trans ((if_neg (bn c93)).trans ((if_pos c105).trans ((if_neg (bn c134)).trans (if_pos c137))))))|have hr:fZ k rec=_:=(if_neg (bn c26)).trans ((if_neg (bn c38)).trans ((if_neg (bn c71)).trans ((if_neg (bn c93)).trans ((if_pos c105).trans ((if_neg (bn c134)).trans (if_neg (bn c137)))))))
   refine bP rfl rfl ?_
   rw[hr]<;>rfl
 refine sk (sq (rT [2,4,6,7,16,17,157,158,159,160,161,162,163,164,165,166,167,168,169,170,171,172,173,174,192,193,194,195,196,197,198,199,200,201,228,229,230,231,232,233,234,235,236,237] (s1 (xp (fd (aN rec) 3 (by omega) (by omega)) (ai rfl ?_)))))
 refine s5 (sq (sq (rD [2,4,6,16,175,192,193,194,195,196,197,198,199,200,201,228,229,230,231,232,233,234,235,236,237] (s3 (y2 (ai (fun h=>(by exact jc (l:=eX 3 (aN rec)) (by omega) (by rw[bI];omega))) (ai rk (ai (fun h=>(by have:=iD (l:=eX 3 (aN rec)) (i:=0) (by rw[bI];omega);rw[show((0:Int)).toNat=((0:Nat):Int).toNat from rfl,this];exact⟨aU6 rfl,rfl⟩)) (ai rk (xc (fun h=>vG (dM (aN rec) 0) (gG _ _)) (ai (by exact aJc e0) (ai rk ?_))))))))))))
 refine ai (fun h=>(by have q0:=lN (gG (aN rec) 0);have q1:=lN (gG (aN rec) 1);have q2:=lN (gG (aN rec) 2);show _≤9223372036854775807;simp only[aU5,aU9,aU8];omega)) (ai rk (y1 (ai (fun h=>(by exact jc (l:=eX 3 (aN rec)) (by omega) (by rw[bI];omega))) (ai rk (ai (fun h=>(by have:=iD (l:=eX 3 (aN rec)) (i:=1) (by rw[bI];omega);rw[show((1:Int)).toNat=((1:Nat):Int).toNat from rfl,this];exact⟨aU6 rfl,rfl⟩)) (ai rk (xc (fun h=>vG (dM (aN rec) 1) (gG _ _)) (ai (by exact aJc e1) (ai rk ?_)))))))))
 refine ai (fun h=>(by have q0:=lN (gG (aN rec) 0);have q1:=lN (gG (aN rec) 1);have q2:=lN (gG (aN rec) 2);show _≤9223372036854775807;simp only[aU5,aU9,aU8];omega)) (ai rk (ai (fun h=>(by have q0:=lN (gG (aN rec) 0);have q1:=lN (gG (aN rec) 1);have q2:=lN (gG (aN rec) 2);show _≤9223372036854775807;simp only[aU5,aU9,aU8];omega)) (ai rk (y1 (ai (fun h=>(by exact jc (l:=eX 3 (aN rec)) (by omega) (by rw[bI];omega))) (ai rk (ai (fun h=>(by have:=iD (l:=eX 3 (aN rec)) (i:=2) (by rw[bI];omega);rw[show((2:Int)).toNat=((2:Nat):Int).toNat from rfl,this];exact⟨aU6 rfl,rfl⟩)) (ai rk (xc (fun h=>vG (dM (aN rec) 2) (gG _ _)) (ai (by exact aJc e2) (ai rk ?_)))))))))))
 refine ai (fun h=>(by have q0:=lN (gG (aN rec) 0);have q1:=lN (gG (aN rec) 1);have q2:=lN (gG (aN rec) 2);show _≤9223372036854775807;simp only[aU5,aU9,aU8];omega)) (ai rk (y1 (ai pk (ai (by kernel_rfl) (cd rfl (fun c175=> ?_) fun c175=> ?_)))))
 · refine sq (rT [4,5] (s3 (rt ?_)))
   have hr:fZ k rec=(k,false):=(if_neg (bn c26)).trans ((if_neg (bn c38)).trans ((if_neg (bn c71)).trans ((if_neg (bn c93)).trans ((if_neg (bn c105)).trans (if_pos c175)))))
   refine bP rfl rfl ?_
   rw[hr]<;>rfl
 refine sk (sq (sq (rT [2,4,16,177,192,193,194,195,196,197,198,199,200,201,228,229,230,231,232,233,234,235,236,237] (s1 (bk (sq (rT [2,4,16,177,178,192,193,194,195,196,197,198,199,200,201,228,229,230,231,232,233,234,235,236,237] (s2 (cd rfl (fun c178=> ?_) fun c178=> ?_)))))))))
 · refine sq (rD [2,4,16,18,192,193,194,195,196,197,198,199,200,201] (s3 (ai (by exact jc (l:=eX 3 (aN rec)) (by omega) (by rw[bI];omega)) (ai (by have:=iD (l:=eX 3 (aN rec)) (i:=0) (by rw[bI];omega);rw[show((0:Int)).toNat=((0:Nat):Int).toNat from rfl,this];exact⟨aU6 rfl,rfl⟩) (s1 (ai (by exact jc (l:=eX 3 (aN rec)) (by omega) (by rw[bI];omega)) (ai (by have:=iD (l:=eX 3 (aN rec)) (i:=1) (by rw[bI];omega);rw[show((1:Int)).toNat=((1:Nat):Int).toNat from rfl,this];exact⟨aU6 rfl,rfl⟩) (xp (gA k.held (dM (aN rec) 0) (dM (aN rec) 1) (by omega)) (ai (by exact tw e0 e1) ?_)))))))))
   refine s1 (ai (by kernel_rfl) (sq (sq (rD [2,4,16,202] (s3 (y3 (ai (fun h=>(by have hp:0≤aX k.held (dM (aN rec) 0) (dM (aN rec) 1):=(by have h8:=h;simp[gb] at h8;omega);have hr:=fR k.held (dM (aN rec) 0) (dM (aN rec) 1);rw[aQ (by omega)];exact⟨⟨hp,by rw[aA];omega⟩,rfl⟩)) (ai rk (y1 (ai (fun h=>(by have hp:0≤aX k.held (dM (aN rec) 0) (dM (aN rec) 1):=(by have h8:=h;simp[gb] at h8;omega);have hr:=fR k.held (dM (aN rec) 0) (dM (aN rec) 1);rw[aQ (by omega)];exact⟨aU6 rfl,rfl⟩)) (ai rk (y1 (ai (fun h=>(by exact jc (l:=eX 3 (aN rec)) (by omega) (by rw[bI];omega))) (ai rk (ai (fun h=>(by have:=iD (l:=eX 3 (aN rec)) (i:=2) (by rw[bI];omega);rw[show((2:Int)).toNat=((2:Nat):Int).toNat from rfl,this];exact⟨aU6 rfl,rfl⟩)) (ai rk (y1 (ai pk (ai (by kernel_rfl) (cd rfl (fun c202=> ?_) fun c202=> ?_))))))))))))))))))))
   · have hq:=dp (y:=(k.held.getD (aX k.held (dM (aN rec) 0) (dM (aN rec) 1)).toNat .zero).til != (dM (aN rec) 2)) c202 (fun hp=>by have hr:=fR k.held (dM (aN rec) 0) (dM (aN rec) 1);rw[aQ (by omega)];exact congrArg (fun z=>((k.held.getD (aX k.held (dM (aN rec) 0) (dM (aN rec) 1)).toNat .zero).til != z)) e2)
     refine sq (rT [4,5] (s3 (rt ?_)))
     have hr:fZ k rec=(k,false):=(if_neg (bn c26)).trans ((if_neg (bn c38)).trans ((if_neg (bn c71)).trans ((if_neg (bn c93)).trans ((if_neg (bn c105)).trans ((if_neg (bn c175)).trans ((if_pos c178).trans (if_pos hq)))))))
     refine bP rfl rfl ?_
     rw[hr]<;>rfl
   have hq:=dp (y:=(k.held.getD (aX k.held (dM (aN rec) 0) (dM (aN rec) 1)).toNat .zero).til != (dM (aN rec) 2)) c202 (fun hp=>by have hr:=fR k.held (dM (aN rec) 0) (dM (aN rec) 1);rw[aQ (by omega)];exact congrArg (fun z=>((k.held.getD (aX k.held (dM (aN rec) 0) (dM (aN rec) 1)).toNat .zero).til != z)) e2)
   refine sk (sq (rD [4,5] (s2 (ai (by exact jc (l:=eX 3 (aN rec)) (by omega) (by rw[bI];omega)) (ai (by have:=iD (l:=eX 3 (aN rec)) (i:=0) (by rw[bI];omega);rw[show((0:Int)).toNat=((0:Nat):Int).toNat from rfl,this];exact⟨aU6 rfl,rfl⟩) (s1 (ai (by exact jc (l:=eX 3 (aN rec)) (by omega) (by rw[bI];omega)) (ai (by have:=iD (l:=eX 3 (aN rec)) (i:=1) (by rw[bI];omega);rw[show((1:Int)).toNat=((1:Nat):Int).toNat from rfl,this];exact⟨aU6 rfl,rfl⟩) (xp (yl k (dM (aN rec) 0) (dM (aN rec) 1) hb) (ai (by exact tw e0 e1) ?_))))))))))
   refine s4 (ai (by kernel_rfl) (rt ?_))
   have hr:fZ k rec=_:=(if_neg (bn c26)).trans ((if_neg (bn c38)).trans ((if_neg (bn c71)).trans ((if_neg (bn c93)).trans ((if_neg (bn c105)).trans ((if_neg (bn c175)).trans ((if_pos c178).trans (if_neg (bn hq))))))))
   refine bP rfl rfl ?_
   rw[hr]<;>rfl
 refine sq (rT [2,4,16,177,214,228,229,230,231,232,233,234,235,236,237] (s2 (cd rfl (fun c214=> ?_) fun c214=> ?_)))
 · refine sq (rD [2,4,16,19,228,229,230,231,232,233,234,235,236,237] (s3 (ai (by exact jc (l:=eX 3 (aN rec)) (by omega) (by rw[bI];omega)) (ai (by have:=iD (l:=eX 3 (aN rec)) (i:=0) (by rw[bI];omega);rw[show((0:Int)).toNat=((0:Nat):Int).toNat from rfl,this];exact⟨aU6 rfl,rfl⟩) (s1 (ai (by exact jc (l:=eX 3 (aN rec)) (by omega) (by rw[bI];omega)) (ai (by have:=iD (l:=eX 3 (aN rec)) (i:=1) (by rw[bI];omega);rw[show((1:Int)).toNat=((1:Nat):Int).toNat from rfl,this];exact⟨aU6 rfl,rfl⟩) (xp (gA k.inbox (dM (aN rec) 0) (dM (aN rec) 1) (by omega)) (ai (by exact tw e0 e1) ?_)))))))))
   refine s1 (ai (by kernel_rfl) (sq (sq (rD [2,4,16,238] (s3 (y3 (ai (fun h=>(by have hp:0≤aX k.inbox (dM (aN rec) 0) (dM (aN rec) 1):=(by have h8:=h;simp[gb] at h8;omega);have hr:=fR k.inbox (dM (aN rec) 0) (dM (aN rec) 1);rw[aQ (by omega)];exact⟨⟨hp,by rw[aA];omega⟩,rfl⟩)) (ai rk (y1 (ai (fun h=>(by have hp:0≤aX k.inbox (dM (aN rec) 0) (dM (aN rec) 1):=(by have h8:=h;simp[gb] at h8;omega);have hr:=fR k.inbox (dM (aN rec) 0) (dM (aN rec) 1);rw[aQ (by omega)];exact⟨aU6 rfl,rfl⟩)) (ai rk (y1 (ai (fun h=>(by exact jc (l:=eX 3 (aN rec)) (by omega) (by rw[bI];omega))) (ai rk (ai (fun h=>(by have:=iD (l:=eX 3 (aN rec)) (i:=2) (by rw[bI];omega);rw[show((2:Int)).toNat=((2:Nat):Int).toNat from rfl,this];exact⟨aU6 rfl,rfl⟩)) (ai rk (y1 (ai pk (ai (by kernel_rfl) (cd rfl (fun c238=> ?_) fun c238=> ?_))))))))))))))))))))
   · have hq:=dp (y:=(k.inbox.getD (aX k.inbox (dM (aN rec) 0) (dM (aN rec) 1)).toNat .zero).til != (dM (aN rec) 2)) c238 (fun hp=>by have hr:=fR k.inbox (dM (aN rec) 0) (dM (aN rec) 1);rw[aQ (by omega)];exact congrArg (fun z=>((k.inbox.getD (aX k.inbox (dM (aN rec) 0) (dM (aN rec) 1)).toNat .zero).til != z)) e2)
     refine sq (rT [4,5] (s3 (rt ?_)))
     have hr:fZ k rec=(k,false):=(if_neg (bn c26)).trans ((if_neg (bn c38)).trans ((if_neg (bn c71)).trans ((if_neg (bn c93)).trans ((if_neg (bn c105)).trans ((if_neg (bn c175)).trans ((if_neg (bn c178)).trans ((if_pos c214).trans (if_pos hq))))))))
     refine bP rfl rfl ?_
     rw[hr]<;>rfl
   have hq:=dp (y:=(k.inbox.getD (aX k.inbox (dM (aN rec) 0) (dM (aN rec) 1)).toNat .zero).til != (dM (aN rec) 2)) c238 (fun hp=>by have hr:=fR k.inbox (dM (aN rec) 0) (dM (aN rec) 1);rw[aQ (by omega)];exact congrArg (fun z=>((k.inbox.getD (aX k.inbox (dM (aN rec) 0) (dM (aN rec) 1)).toNat .zero).til != z)) e2)
   refine sk (sq (rD [4,5] (s2 (ai (by exact jc (l:=eX 3 (aN rec)) (by omega) (by rw[bI];omega)) (ai (by have:=iD (l:=eX 3 (aN rec)) (i:=0) (by rw[bI];omega);rw[show((0:Int)).toNat=((0:Nat):Int).toNat from rfl,this];exact⟨aU6 rfl,rfl⟩) (s1 (ai (by exact jc (l:=eX 3 (aN rec)) (by omega) (by rw[bI];omega)) (ai (by have:=iD (l:=eX 3 (aN rec)) (i:=1) (by rw[bI];omega);rw[show((1:Int)).toNat=((1:Nat):Int).toNat from rfl,this];exact⟨aU6 rfl,rfl⟩) (xp (ym k (dM (aN rec) 0) (dM (aN rec) 1) hb) (ai (by exact tw e0 e1) ?_))))))))))
   refine s4 (ai (by kernel_rfl) (rt ?_))
   have hr:fZ k rec=_:=(if_neg (bn c26)).trans ((if_neg (bn c38)).trans ((if_neg (bn c71)).trans ((if_neg (bn c93)).trans ((if_neg (bn c105)).trans ((if_neg (bn c175)).trans ((if_neg (bn c178)).trans ((if_pos c214).trans (if_neg (bn hq)))))))))
   refine bP rfl rfl ?_
   rw[hr]<;>rfl
 refine sq (rT [2,4,16,250] (s2 (cd rfl (fun c250=> ?_) fun c250=> ?_)))
 · refine sq (sq (rD [2,4,16,261] (s3 (ai (by exact jc (l:=eX 3 (aN rec)) (by omega) (by rw[bI];omega)) (ai (by have:=iD (l:=eX 3 (aN rec)) (i:=0) (by rw[bI];omega);rw[show((0:Int)).toNat=((0:Nat):Int).toNat from rfl,this];exact⟨aU6 rfl,rfl⟩) (s1 (ai (by exact jc (l:=eX 3 (aN rec)) (by omega) (by rw[bI];omega)) (ai (by have:=iD (l:=eX 3 (aN rec)) (i:=1) (by rw[bI];omega);rw[show((1:Int)).toNat=((1:Nat):Int).toNat from rfl,this];exact⟨aU6 rfl,rfl⟩) (xp (nO k.marks (dM (aN rec) 0) (dM (aN rec) 1) (by omega)) (ai (by exact tw e0 e1) ?_))))))))))
   refine s1 (ai (by kernel_rfl) (cd rfl (fun c261=> ?_) fun c261=> ?_))
   · refine sq (rT [4,5] (s3 (rt ?_)))
     have hr:fZ k rec=(k,false):=(if_neg (bn c26)).trans ((if_neg (bn c38)).trans ((if_neg (bn c71)).trans ((if_neg (bn c93)).trans ((if_neg (bn c105)).trans ((if_neg (bn c175)).trans ((if_neg (bn c178)).trans ((if_neg (bn c214)).trans ((if_pos c250).trans (if_pos (of_decide_eq_true c261))))))))))
     refine bP rfl rfl ?_
     rw[hr]<;>rfl
   refine sk (sq (rD [2,4] (s3 (ai (by exact jc (l:=eX 3 (aN rec)) (by omega) (by rw[bI];omega)) (ai (by have:=iD (l:=eX 3 (aN rec)) (i:=0) (by rw[bI];omega);rw[show((0:Int)).toNat=((0:Nat):Int).toNat from rfl,this];exact⟨aU6 rfl,rfl⟩) (s1 (ai (by exact jc (l:=eX 3 (aN rec)) (by omega) (by rw[bI];omega)) (ai (by have:=iD (l:=eX 3 (aN rec)) (i:=1) (by rw[bI];omega);rw[show((1:Int)).toNat=((1:Nat):Int).toNat from rfl,this];exact⟨aU6 rfl,rfl⟩) (s1 (ai (by exact jc (l:=eX 3 (aN rec)) (by omega) (by rw[bI];omega)) (ai (by have:=iD (l:=eX 3 (aN rec)) (i:=2) (by rw[bI];omega);rw[show((2:Int)).toNat=((2:Nat):Int).toNat from rfl,this];exact⟨aU6 rfl,rfl⟩) (s1 (xp (qM k.marks ⟨(dM (aN rec) 0),(dM (aN rec) 1),(dM (aN rec) 2)⟩ hb.2.1) (ai (by exact aNm e0 e1 e2) ?_))))))))))))))
   refine s2 (ai (by kernel_rfl) (sq (rT [4,5] (s3 (rt ?_)))))
   have hr:fZ k rec=_:=(if_neg (bn c26)).trans ((if_neg (bn c38)).trans ((if_neg (bn c71)).trans ((if_neg (bn c93)).trans ((if_neg (bn c105)).trans ((if_neg (bn c175)).trans ((if_neg (bn c178)).trans ((if_neg (bn c214)).trans ((if_pos c250).trans (if_neg (of_decide_eq_false c261))))))))))
   refine bP rfl rfl ?_
   rw[hr]<;>rfl
 refine sk (sq (rT [4,5] (s3 (rt ?_))))
 have hr:fZ k rec=(k,false):=(if_neg (bn c26)).trans ((if_neg (bn c38)).trans ((if_neg (bn c71)).trans ((if_neg (bn c93)).trans ((if_neg (bn c105)).trans ((if_neg (bn c175)).trans ((if_neg (bn c178)).trans ((if_neg (bn c214)).trans (if_neg (bn c250)))))))))
 refine bP rfl rfl ?_
 rw[hr]<;>rfl
theorem nl (id:Int):Sp 63 1 [tI 0 id] [tV 0 ((bB id).V)]:=by
 refine sb Tryz.func63 rfl (sq (rT [0,2] (s1 (sq (sq (rT [0,2,5] (s1 (xp (dB _) (ai rfl ?_)))))))))
 refine s1 (cd rfl (fun c5=> ?_) fun c5=> ?_)
 · have hr:bB id= .zero:=if_neg (by simpa using c5)
   refine sq (rT [2] (s2 (rt ?_)))
   rw[hr]
   exact rq [] [] rfl qz
 have hr:bB id=⟨id,0,1,[],[],[]⟩:=if_pos (by simpa using c5)
 refine sk (sq (rT [2] (s3 (rt ?_))))
 rw[hr]
 exact rq [] [] rfl qz
set_option maxHeartbeats 1600000 in
theorem fg (k:aL) (rec:List UInt8) (hk:KB k) (hr:rec.length≤900000):Sp 15 2 [tV 0 k.V,tD 1 (.s rec)] [tV 0 (.tup [.agg [.d (.i ((hD k rec).1).id),.d (.i ((hD k rec).1).time),.d (.i ((hD k rec).1).next),.d (.sl (aD ((hD k rec).1).held)),.d (.sl (aJ ((hD k rec).1).marks)),.d (.sl (aD ((hD k rec).1).inbox))],.c (.d (.b (hD k rec).2))])]:=by
 refine sb Tryz.func15 rfl (sq (rT [1,2,4,22,23,24] (s3 (sq (sq (rT [1,2,4,10,22,23,24] (s1 (xp (jX k hk.1 hk.2.1 hk.2.2) (ai rfl ?_)))))))))
 refine s1 (cd rfl (fun c10=> ?_) fun c10=> ?_)
 · refine sq (rT [4,5] (s3 (rt ?_)))
   have hr:hD k rec=(.zero,false):=if_neg (by simpa using c10)
   rw[hr]
   exact rq [] [] rfl qz
 have hok:cO k=true:=by simpa using c10
 refine sk (sq (rT [2,4,6,7,22,23,24] (s1 (xp (qJ k (by have:=hk.1;omega)) (ai rfl ?_)))))
 refine s1 (xp (ff k rec hk.1 hr) (ai rfl ?_))
 refine s6 (sq (sq (rT [2,4,6,25] (s3 (y1 (xc (fun h=>jX (fZ k rec).1 (pJ (eL hok) (by omega)).big.1 (pJ (eL hok) (by omega)).2.1 (pJ (eL hok) (by omega)).2.2) (ai rfl (ai rk ?_))))))))
 refine y1 (ai pk (cd rfl (fun c25=> ?_) fun c25=> ?_))
 · refine sq (rT [4,5] (s1 (xp (qJ k (by have:=hk.1;omega)) (ai rfl ?_))))
   refine s2 (rt ?_)
   have hr:hD k rec=(k,false):=(if_pos hok).trans (if_neg (by intro h;rw[aU7] at h;rw[h.1,h.2] at c25;cases c25))
   rw[hr]
   exact rq [] [] rfl qz
 refine sk (sq (rT [4,5] (s1 (xp (qJ (fZ k rec).1 (by have:=(pJ (eL hok) (show rec.length≤1000000 by omega)).1;omega)) (ai rfl ?_)))))
 refine s2 (rt ?_)
 have hr:hD k rec=((fZ k rec).1,true):=(if_pos hok).trans (if_pos (by simpa using c25))
 rw[hr]
 exact rq [] [] rfl qz
theorem sU (k:aL) (rec:List UInt8) (hk:KB k) (hr:rec.length≤900000):Ab.Spec Tryz.prog 15 2 [(.t 0,.v (k.V)),(.t 1,.v (Dv (.s rec)))] [(.t 0,.v (.tup [.agg [.d (.i ((aO k rec).1).id),.d (.i ((aO k rec).1).time),.d (.i ((aO k rec).1).next),.d (.sl (aD ((aO k rec).1).held)),.d (.sl (aJ ((aO k rec).1).marks)),.d (.sl (aD ((aO k rec).1).inbox))],.c (.d (.b (aO k rec).2))]))]:=dq k rec▸fg k rec hk hr
set_option maxHeartbeats 1600000 in
theorem wV (id:Int) (l:List (List UInt8)) (hl:l.length≤900000) (hx: ∀x∈l,x.length≤900000):Sp 116 2 [tI 0 id,tD 1 (.sl (bO l))] [tV 0 (.tup [.agg [.d (.i ((iE id l).1).id),.d (.i ((iE id l).1).time),.d (.i ((iE id l).1).next),.d (.sl (aD ((iE id l).1).held)),.d (.sl (aJ ((iE id l).1).marks)),.d (.sl (aD ((iE id l).1).inbox))],.c (.d (.b (iE id l).2))])]:=by
 refine sb Tryz.func116 rfl (sq (rT [0,1,4] (s2 (sq (rT [0,1,4,6] (s1 (xp (nl id) (ai rfl ?_))))))))
 refine s2 (sq (sq (rT [1,4,6,14] (s1 (xp (dB _) (ai rfl ?_))))))
 refine s1 (cd rfl (fun c14=> ?_) fun c14=> ?_)
 · refine sq (rT [4,5] (s3 (rt ?_)))
   have hr:iE id l=(.zero,false):=if_neg (by simpa using c14)
   have hz:bB id= .zero:=if_neg (by simpa using c14)
   rw[hr,hz]
   exact rq [] [] rfl qz
 have hnode:eC id=true:=by simpa using c14
 refine sk (sq (sq (rT [1,4,6,7] (s1 (bk (SW.loopW (n:=l.length) (fun m s=> ∃(i:Nat) (q:aL),m=l.length - i∧i≤l.length∧K6 q∧oH (bB id) l=oH q (l.drop i)∧s=[tD 1 (.sl (bO l)),tP 4 4,tP 6 6,tI 7 (i:Nat),oB 4 26 [.d (.i 0),.d (.i 0),.d (.i 0),.nil,.nil,.nil],oB 6 26 [.d (.i (q).id),.d (.i (q).time),.d (.i (q).next),.d (.sl (aD (q).held)),.d (.sl (aJ (q).marks)),.d (.sl (aD (q).inbox))]]) ?_ ?_))))))
 · refine wq (σ':=[tD 1 (.sl (bO l)),tP 4 4,tP 6 6,tI 7 (0:Nat),oB 4 26 [.d (.i 0),.d (.i 0),.d (.i 0),.nil,.nil,.nil],oB 6 26 [.d (.i (bB id).id),.d (.i (bB id).time),.d (.i (bB id).next),.d (.sl (aD (bB id).held)),.d (.sl (aJ (bB id).marks)),.d (.sl (aD (bB id).inbox))]]) [] [] (⟨0,bB id,rfl,aVa _,jo id,rfl,rfl⟩) ?_
   repeat' apply ai
   all_goals first|exact qx|rfl|(rw[aW];done)|exact qz
 rintro n s ⟨i,q,rfl,hi,hq,hgo,rfl⟩
 refine sq (sq (rT [1,4,6,7,19] (s4 (cd rfl (fun c19=> ?_) fun c19=> ?_))))
 · have hi2:i<l.length:=by simpa[aW] using c19
   have hg:=gZ (l:=l) hi2
   have hmem:l.getD i []∈l:=cW hi2
   have es:toS (((bO l).getD (i:Int).toNat []).getD 0 (.i 0))=l.getD i []:=by rw[aU4,hg];rfl
   refine sk (sq (bk (sq (rD [1,4,6,7,8,9] (s3 (ai (by rw[aU4,hg];exact⟨⟨by omega,by rw[aW];omega⟩,rfl⟩) (ai (by rw[aU4,hg];exact⟨aU6 rfl,rfl⟩) (xp (sU q (l.getD i []) hq.seven.big (hx _ hmem)) (ai (by exact aUx es) ?_)))))))))
   refine s6 (ai (by kernel_rfl) (sq (sq (rT [1,4,6,7,8,32] (s2 (cd rfl (fun c32=> ?_) fun c32=> ?_))))))
   · have hno: (aO q (l.getD i [])).2=false:=by simpa using c32
     rw[List.drop_eq_getElem_cons hi2,oH,show l[i]=l.getD i [] by rw[aVb,aVd hi2];rfl,hno] at hgo
     refine sq (rT [4,5] (s3 (rt ?_)))
     have hr:iE id l=(.zero,false):=(if_pos hnode).trans (hgo.trans (if_neg (by simp)))
     rw[hr]
     exact rq [] [] rfl qz
   have hno: (aO q (l.getD i [])).2=true:=by simpa using c32
   rw[List.drop_eq_getElem_cons hi2,oH,show l[i]=l.getD i [] by rw[aVb,aVd hi2];rfl,if_pos hno] at hgo
   refine sk (rT [1,4,6,7] (s2 (rT [1,4,6,7] (s3 (wq [] [] (⟨l.length - (i+1),by omega,i+1,(aO q (l.getD i [])).1,rfl,by omega,lM,hgo,rfl⟩) ?_)))))
   repeat' apply ai
   all_goals first|exact qx|exact congrArg D.i (aE (by omega))|exact qz
 have hi3:i=l.length:=by simp[aW] at c19;omega
 subst hi3
 refine xt (sq (rT [4,5] (s3 (rt ?_))))
 have hr:iE id l=(q,true):=(if_pos hnode).trans (hgo.trans (by rw[List.drop_length];rfl))
 rw[hr]
 exact rq [] [] rfl qz
theorem fN (s:List UInt8) (hl:s.length≤1000000):Sp 115 1 [tD 0 (.s s)] [tV 0 (.tup [.c (.d (.sl (bO (dI s).1))),.c (.d (.i ((dI s).2:Nat)))])]:=by
 refine Spec.told (rl:=[]) (bor:=[0]) (ni s hl) ?_ rfl rfl
 refine qs ?_
 repeat' first|exact qx|apply ai
 all_goals first|rfl|exact aW _
theorem nP (l:List UInt8) (f:Int) (hl:l.length≤140737488355328):Sp 114 1 [tV 0 (.e (.agg [.d (.s l),.d (.i f)]))] [tB 0 (fL l f)]:=by
 refine sb Tryz.func114 rfl (sq (rT [1,12,13,14,15,16,17,18,41,42,43,44] (s2 (sq (sq (rT [1,19,41,42,43,44] (s5 (y4 (y1 (xc (fun h=>(dJ _ _ _)) (ai rfl (ai rk ?_))))))))))))
 refine y1 (ai pk (cd rfl (fun c19=> ?_) fun c19=> ?_))
 · refine sq (rT [2] (s1 (rt (bH rfl (congrArg D.b ?_)))))
   exact(aHk c19).symm
 obtain⟨⟨h1,h2,h3⟩,hs⟩:=aEq c19
 refine sk (sq (rT [1,4,41,42,43,44] (s2 (xp (fN l (by omega)) (ai rfl ?_)))))
 refine s5 (sq (rT [1,4,6,41,42,43,44] (s4 (ai (by exact⟨by simp,by simpa using h2,by simpa using h3⟩) (xp (fN (l.take f.toNat) (by rw[aVc];omega)) (ai rfl ?_))))))
 refine s5 (sq (rT [2] (s6 (y4 (ai pk (s1 (rt (bH rfl (congrArg D.b ?_)))))))))
 exact hs.symm
set_option maxHeartbeats 800000 in
theorem gX (k:aS) (hl:k.log.length≤900000):Sp 95 1 [tV 0 k.V] [tV 0 (.tup [.agg [.d (.i ((bC k).1).id),.d (.i ((bC k).1).time),.d (.i ((bC k).1).next),.d (.sl (aD ((bC k).1).held)),.d (.sl (aJ ((bC k).1).marks)),.d (.sl (aD ((bC k).1).inbox))],.c (.d (.b (bC k).2))])]:=by
 refine sb Tryz.func95 rfl (sq (rT [1,2] (s3 (sq (rT [1,2,4] (s3 (xp (fN k.log (by omega)) (ai rfl ?_))))))))
 refine s5 (sq (rT [2,3] (s3 (xp (wV k.id (dI k.log).1 (nI k.log hl).1 (nI k.log hl).2) (ai rfl ?_)))))
 exact s4 (rt (bP rfl rfl rfl))
theorem wD (b n:Int):Sp 146 2 [tI 0 b,tI 1 n] [tB 0 (sY b n)]:=by
 refine sb Tryz.func146 rfl (sq (rT [0,1,8,9] (s1 (sq (rT [4] (s1 (xp (dJ _ _ _) (ai rfl ?_))))))))
 refine s1 (y1 (xc (fun h=>(dJ _ _ _)) (ai rfl (ai rk ?_))))
 refine ai pk (s1 (rt (bH rfl ?_)))
 rfl
theorem oS (n:Int) (hn:0≤n∧n≤140737488355328):Sp 133 1 [tI 0 n] [tI 0 ((n+3) / 4)]:=by
 refine sb Tryz.func133 rfl (sq (rT [0] (s1 (sq (rT [2] (s3 (ai (by decide) (s1 (rt (bH rfl (congrArg D.i ?_)))))))))))
 rw[aE (n:=n+4) (by omega),aE (n:=n+4 - 1) (by omega),Int.tdiv_eq_ediv_of_nonneg (by omega),aE (by omega)]
 omega
theorem cm (b:Int) (m:hF):Sp 132 2 [tI 0 b,tV 1 m.V] [tB 0 (sY b m.num&&decide ((m.data.length:Int)=4))]:=by
 refine sb Tryz.func132 rfl (sq (rT [0,3,10,11,12,13] (s2 (sq (rT [4] (s3 (xp (wD _ _) (ai rfl ?_))))))))
 refine s1 (y4 (ai pk (s1 (rt (bH rfl (congrArg D.b ?_))))))
 show(_&&_)=_
 congr 1
set_option maxHeartbeats 1600000 in
theorem nm (h:eI):Sp 117 1 [tV 0 h.V] [tB 0 (rL h)]:=by
 refine sb Tryz.func117 rfl (sq (rT [1,10,11,12,13,16,17,18,19,22,23,24,25,28,29,30,31,34,35,36,37] (s2 (sq (sq (rT [1,38] (s2 (xp (dB _) (ai rfl ?_)))))))))
 refine s2 (y2 (xc (fun h=>(dB _)) (ai rfl (ai rk ?_))))
 refine y1 (ai pk (s1 (y2 (xc (fun h=>(dJ _ _ _)) (ai rfl (ai rk ?_))))))
 refine y1 (ai pk (s1 (y2 (xc (fun h=>(dJ _ _ _)) (ai rfl (ai rk ?_))))))
 refine y1 (ai pk (s1 (y2 (xc (fun h=>(dJ _ _ _)) (ai rfl (ai rk ?_))))))
 refine y1 (ai pk (s1 (y4 (ai pk (cd rfl (fun c38=> ?_) fun c38=> ?_)))))
 · have hh:=aEp c38
   refine sq (rT [2] (s1 (rt (bH rfl (congrArg D.b ?_)))))
   rw[rL,hh];rfl
 have hh:=aEp c38
 obtain⟨p1,p2,p3,p4,p5,p6⟩:=nJ hh
 have hb1:iB ((h.size+3) / 4) 1 6=true:=by simp only[iB,aU7,decide_eq_true_eq];omega
 refine sk (sq (sq (rT [1,3] (s1 (bk (SW.loopW (n:=h.got.length) (fun m q=> ∃i:Nat,m=h.got.length - i∧i≤h.got.length∧(∀k,k<i→oP h.got k=true)∧q=[tP 1 1,tI 3 (i:Nat),oB 1 136 [.d (.i (h).frm),.d (.i (h).num),.d (.i (h).to),.d (.i (h).til),.d (.i (h).size),.d (.sl (dU (h).got))]]) ?_ ?_))))))
 · exact wq (σ':=[tP 1 1,tI 3 (0:Nat),oB 1 136 [.d (.i (h).frm),.d (.i (h).num),.d (.i (h).to),.d (.i (h).til),.d (.i (h).size),.d (.sl (dU (h).got))]]) [] [] (⟨0,rfl,aVa _,fun k h=>absurd h (by omega),rfl⟩) qz
 rintro n s ⟨i,rfl,hi,hk,rfl⟩
 refine sq (sq (rT [1,3,43] (s5 (cd rfl (fun c43=> ?_) fun c43=> ?_))))
 · have hi2:i<h.got.length:=by simpa[bS] using c43
   have hg:=tT (l:=h.got) hi2
   refine sk (sq (bk (sq (sq (rD [1,3,55] (s2 (xp (oS h.size (by omega)) (ai rfl ?_))))))))
   refine s3 (ai (by rw[aU4,hg];exact⟨⟨by omega,by rw[bS];omega⟩,rfl⟩) (ai (by rw[aU4,hg];exact⟨aU6 rfl,rfl⟩) (xp (cm ((h.size+3) / 4) (h.got.getD i .zero)) (ai (by rw[aU4,hg];rfl) ?_))))
   refine s1 (ai (by kernel_rfl) (cd rfl (fun c55=> ?_) fun c55=> ?_))
   · have hm:bm (h.got.getD i .zero)=false:=by
      have h9:=c55
      rw[sY,hb1,Bool.true_and] at h9
      simpa only[bm,Bool.not_eq_true'] using h9
     have hs:=aEm hm
     refine sq (rT [2] (s1 (rt (bH rfl (congrArg D.b ?_)))))
     rw[rL,hh,Bool.not_false,Bool.true_and,gR hi2 hs]
   have hm:bm (h.got.getD i .zero)=true:=by
    have h9:=c55
    rw[sY,hb1,Bool.true_and] at h9
    simpa only[bm,Bool.not_eq_false'] using h9
   refine sk (sq (rT [1,3,4] (s1 (bk (SW.loopW (n:=i) (fun m q=> ∃j:Nat,m=i - j∧j≤i∧(∀k,k<j→((h.got.getD k .zero).num==(h.got.getD i .zero).num)=false)∧q=[tP 1 1,tI 3 (i:Nat),tI 4 (j:Nat),oB 1 136 [.d (.i (h).frm),.d (.i (h).num),.d (.i (h).to),.d (.i (h).til),.d (.i (h).size),.d (.sl (dU (h).got))]]) ?_ ?_)))))
   · exact wq (σ':=[tP 1 1,tI 3 (i:Nat),tI 4 (0:Nat),oB 1 136 [.d (.i (h).frm),.d (.i (h).num),.d (.i (h).to),.d (.i (h).til),.d (.i (h).size),.d (.sl (dU (h).got))]]) [] [] (⟨0,rfl,aVa _,fun k h=>absurd h (by omega),rfl⟩) qz
   rintro n s ⟨j,rfl,hj,hkj,rfl⟩
   refine sq (sq (rT [1,3,4,58] (s3 (cd rfl (fun c58=> ?_) fun c58=> ?_))))
   · have hj2:j<i:=by simpa using c58
     have hg2:=tT (l:=h.got) (i:=j) (by omega)
     refine sk (sq (bk (sq (rD [1,3,4,73] (s3 (ai (by rw[aU4,hg2];exact⟨⟨by omega,by rw[bS];omega⟩,rfl⟩) (s1 (ai (by rw[aU4,hg2];exact⟨aU6 rfl,rfl⟩) (s3 (ai (by rw[aU4,hg];exact⟨⟨by omega,by rw[bS];omega⟩,rfl⟩) (s1 (ai (by rw[aU4,hg];exact⟨aU6 rfl,rfl⟩) (s1 (ai (by kernel_rfl) (cd rfl (fun c73=> ?_) fun c73=> ?_)))))))))))))))
     · have hq: ((h.got.getD j .zero).num==(h.got.getD i .zero).num)=true:=by
        have h9:=c73
        rw[aU4,aU4,hg2,hg] at h9
        exact h9
       have hs:=aHj hj2 hq
       refine sq (rT [2] (s1 (rt (bH rfl (congrArg D.b ?_)))))
       rw[rL,hh,Bool.not_false,Bool.true_and,gR hi2 hs]
     refine sk (rT [1,3,4] (s3 ?_))
     have hq: ((h.got.getD j .zero).num==(h.got.getD i .zero).num)=false:=by
      have h9:=c73
      rw[aU4,aU4,hg2,hg] at h9
      exact h9
     refine wq [] [] (⟨i - (j+1),by omega,j+1,rfl,by omega,fun k h=>by by_cases e:k=j;exact e▸hq;exact hkj k (by omega),rfl⟩) ?_
     repeat' apply ai
     all_goals first|exact qx|exact congrArg D.i (aE (by omega))|exact qz
   have hj3:j=i:=by simp at c58;omega
   subst hj3
   have hs:=aEl hm hkj
   refine xt (rT [1,3] (s3 (wq [] [] (⟨h.got.length - (j+1),by omega,j+1,rfl,by omega,fun k h=>by by_cases e:k=j;exact e▸hs;exact hk k (by omega),rfl⟩) ?_)))
   repeat' apply ai
   all_goals first|exact qx|exact congrArg D.i (aE (by omega))|exact qz
 have hi3:i=h.got.length:=by simp[bS] at c43;omega
 refine xt (sq (rT [2] (s1 (rt (bH rfl (congrArg D.b ?_))))))
 rw[rL,hh,Bool.not_false,Bool.true_and]
 subst hi3
 exact(jJ hk).symm
set_option maxHeartbeats 3200000 in
theorem gH (k:aS) (hl:k.log.length≤140737488355328):Sp 94 1 [tV 0 k.V] [tB 0 (bG k)]:=by
 refine sb Tryz.func94 rfl (sq (rT [1,16,17,18,19,22,23,24,25,28,29,30,31,32,33,34,35,36,64,65,100,101,102,103,104,105,106,107,108,109,110,111,112] (s2 (sq (sq (rT [1,37,64,65,100,101,102,103,104,105,106,107,108,109,110,111,112] (s2 (xp (dB _) (ai rfl ?_)))))))))
 refine s2 (y2 (xc (fun h=>(nP k.log k.forced hl)) (ai rfl (ai rk ?_))))
 refine y1 (ai pk (s1 (y4 (ai pk (s1 (y4 (y4 (ai (fun h=>pk) (ai rk (ai pk (cd rfl (fun c37=> ?_) fun c37=> ?_)))))))))))
 · have hh:=ug c37
   refine sq (rT [2] (s1 (rt (bH rfl (congrArg D.b ?_)))))
   exact(em hh).symm
 have hh:=ug c37
 obtain⟨p1,p2,p3,p4⟩:=hZ hh
 obtain⟨q1,q2,q3,q4⟩:=sD p2
 refine sk (sq (rT [1,3,64,65,100,101,102,103,104,105,106,107,108,109,110,111,112] (s6 (ai (by exact⟨by simp,by simpa using q2.1,by simpa using q2.2⟩) (xp (fN (k.log.take k.forced.toNat) (by rw[aVc];omega)) (ai rfl ?_))))))
 refine s5 (sq (rT [1,6,64,65,100,101,102,103,104,105,106,107,108,109,110,111,112] (s3 (xp (wV k.id (dI (k.log.take k.forced.toNat)).1 (nI _ (by rw[aVc];omega)).1 (nI _ (by rw[aVc];omega)).2) (ai rfl ?_)))))
 refine s6 (sq (rT [1,6,8,64,65,100,101,102,103,104,105,106,107,108,109,110,111,112] (s1 (xp (gX k (by omega)) (ai rfl ?_)))))
 refine s6 (sq (sq (rT [1,66,100,101,102,103,104,105,106,107,108,109,110,111,112] (s3 (y2 (ai pk (cd rfl (fun c66=> ?_) fun c66=> ?_)))))))
 · have hn:=aEo (k:=k) c66 (.inl ⟨rfl,rfl⟩)
   refine sq (rT [2] (s1 (rt (bH rfl (congrArg D.b ?_)))))
   exact hn.symm
 have hy:=aB1 (k:=k) hh c66 (.inl ⟨rfl,rfl⟩)
 refine sk (sq (sq (rT [1,9,100,101,102,103,104,105,106,107,108,109,110,111,112] (s1 (bk (SW.loopW (n:=k.halves.length) (fun m q=> ∃i:Nat,m=k.halves.length - i∧i≤k.halves.length∧(∀j,j<i→kW k.halves j=true)∧q=[tP 1 1,tI 9 (i:Nat),oB 1 79 [.d (.i (k).id),.d (.b (k).up),.d (.s (k).log),.d (.i (k).forced),.d (.sl (bR (k).halves))]]) ?_ ?_))))))
 · exact wq (σ':=[tP 1 1,tI 9 (0:Nat),oB 1 79 [.d (.i (k).id),.d (.b (k).up),.d (.s (k).log),.d (.i (k).forced),.d (.sl (bR (k).halves))]]) [] [] (⟨0,rfl,aVa _,fun j h=>absurd h (by omega),rfl⟩) qz
 rintro n s ⟨i,rfl,hi,hk,rfl⟩
 refine sq (sq (rT [1,9,71,100,101,102,103,104,105,106,107,108,109,110,111,112] (s5 (cd rfl (fun c71=> ?_) fun c71=> ?_))))
 · have hi2:i<k.halves.length:=by simpa[aP] using c71
   have hg:=iW (l:=k.halves) hi2
   refine sk (sq (bk (sq (sq (rT [1,9,80,100,101,102,103,104,105,106,107,108,109,110,111,112] (s3 (ai (by rw[aU4,hg];exact⟨⟨by omega,by rw[aP];omega⟩,rfl⟩) (ai (by rw[aU4,hg];exact⟨aU6 rfl,rfl⟩) (xp (nm (k.halves.getD i .zero)) (ai (by rw[aU4,hg];rfl) ?_))))))))))
   refine s1 (cd rfl (fun c80=> ?_) fun c80=> ?_)
   · have hs:=aB0 (by simpa using c80)
     refine sq (rT [2] (s1 (rt (bH rfl (congrArg D.b ?_)))))
     rw[hy,gR hi2 hs]
   refine sk (sq (rT [1,9,10,100,101,102,103,104,105,106,107,108,109,110,111,112] (s1 (bk (SW.loopW (n:=i) (fun m q=> ∃j:Nat,m=i - j∧j≤i∧(∀k1,k1<j→lO k.halves (k.halves.getD i .zero).frm (k.halves.getD i .zero).num k1=false)∧q=[tP 1 1,tI 9 (i:Nat),tI 10 (j:Nat),oB 1 79 [.d (.i (k).id),.d (.b (k).up),.d (.s (k).log),.d (.i (k).forced),.d (.sl (bR (k).halves))]]) ?_ ?_)))))
   · exact wq (σ':=[tP 1 1,tI 9 (i:Nat),tI 10 (0:Nat),oB 1 79 [.d (.i (k).id),.d (.b (k).up),.d (.s (k).log),.d (.i (k).forced),.d (.sl (bR (k).halves))]]) [] [] (⟨0,rfl,aVa _,fun j h=>absurd h (by omega),rfl⟩) qz
   rintro n s ⟨j,rfl,hj,hkj,rfl⟩
   refine sq (sq (rT [1,9,10,83,100,101,102,103,104,105,106,107,108,109,110,111,112] (s3 (cd rfl (fun c83=> ?_) fun c83=> ?_))))
   · have hj2:j<i:=by simpa using c83
     have hg2:=iW (l:=k.halves) (i:=j) (by omega)
     refine sk (sq (bk (sq (rD [1,9,10,100,101,102,103,104,105,106,107,108,109,110,111,112,113] (s3 (ai (by rw[aU4,hg2];exact⟨⟨by omega,by rw[aP];omega⟩,rfl⟩) (s1 (ai (by rw[aU4,hg2];exact⟨aU6 rfl,rfl⟩) (s3 (ai (by rw[aU4,hg];exact⟨⟨by omega,by rw[aP];omega⟩,rfl⟩) (s1 (ai (by rw[aU4,hg];exact⟨aU6 rfl,rfl⟩) (s2 (y3 (ai (fun h=>(by rw[aU4,hg2];exact⟨⟨by omega,by rw[aP];omega⟩,rfl⟩)) (ai rk (y1 (ai (fun h=>(by rw[aU4,hg2];exact⟨aU6 rfl,rfl⟩)) (ai rk (y3 (ai (fun h=>(by rw[aU4,hg];exact⟨⟨by omega,by rw[aP];omega⟩,rfl⟩)) (ai rk (y1 (ai (fun h=>(by rw[aU4,hg];exact⟨aU6 rfl,rfl⟩)) (ai rk (y1 (ai pk (ai (by kernel_rfl) (cd rfl (fun c113=> ?_) fun c113=> ?_)))))))))))))))))))))))))))))
     · have hq:lO k.halves (k.halves.getD i .zero).frm (k.halves.getD i .zero).num j=true:=by
        have h9:=c113
        rw[aU4,aU4,hg2,hg] at h9
        exact h9
       have hs:=aEn hj2 hq
       refine sq (rT [2] (s1 (rt (bH rfl (congrArg D.b ?_)))))
       rw[hy,gR hi2 hs]
     refine sk (rT [1,9,10,100,101,102,103,104,105,106,107,108,109,110,111,112] (s3 ?_))
     have hq:lO k.halves (k.halves.getD i .zero).frm (k.halves.getD i .zero).num j=false:=by
      have h9:=c113
      rw[aU4,aU4,hg2,hg] at h9
      exact h9
     refine wq [] [] (⟨i - (j+1),by omega,j+1,rfl,by omega,fun m h=>by by_cases e:m=j;exact e▸hq;exact hkj m (by omega),rfl⟩) ?_
     repeat' apply ai
     all_goals first|exact qx|exact congrArg D.i (aE (by omega))|exact qz
   have hj3:j=i:=by simp at c83;omega
   subst hj3
   have hs:=aBz (by simpa using c80) hkj
   refine xt (rT [1,9,100,101,102,103,104,105,106,107,108,109,110,111,112] (s3 (wq [] [] (⟨k.halves.length - (j+1),by omega,j+1,rfl,by omega,fun m h=>by by_cases e:m=j;exact e▸hs;exact hk m (by omega),rfl⟩) ?_)))
   repeat' apply ai
   all_goals first|exact qx|exact congrArg D.i (aE (by omega))|exact qz
 have hi3:i=k.halves.length:=by simp[aP] at c71;omega
 refine xt (sq (rT [2] (s1 (rt (bH rfl (congrArg D.b ?_))))))
 subst hi3
 rw[hy,jJ hk]
theorem jH (l:List UInt8) (f:Int) (hl:l.length≤140737488355328):Sp 175 1 [tV 0 (.e (.agg [.d (.s l),.d (.i f)]))] [tV 0 (.e (.agg [.d (.s (nK l f).1),.d (.i (nK l f).2)]))]:=by
 refine sb Tryz.func175 rfl (sq (rT [1,2] (s2 (sq (sq (rT [1,2,5] (s1 (xp (nP l f hl) (ai rfl ?_)))))))))
 refine s1 (cd rfl (fun c5=> ?_) fun c5=> ?_)
 · refine sq (rT [2] (s2 (rt ?_)))
   have hr:nK l f=([],0):=if_neg (by simpa using c5)
   refine bP rfl rfl ?_
   rw[hr]<;>rfl
 refine sk (sq (rT [2] (s7 (rt ?_))))
 have hr:nK l f=(l,(l.length:Int)):=if_pos (by simpa using c5)
 refine bP rfl rfl ?_
 rw[hr]<;>rfl
set_option maxHeartbeats 800000 in
theorem nn (l:List UInt8) (f keep:Int) (hl:l.length≤140737488355328):Sp 173 2 [tV 0 (.e (.agg [.d (.s l),.d (.i f)])),tI 1 keep] [tV 0 (.e (.agg [.d (.s (jY l f keep).1),.d (.i (jY l f keep).2)]))]:=by
 refine sb Tryz.func173 rfl (sq (rT [1,2,4] (s2 (sq (sq (rT [1,2,4,8] (s1 (xp (nP l f hl) (ai rfl ?_)))))))))
 refine s1 (cd rfl (fun c8=> ?_) fun c8=> ?_)
 · refine sq (rT [4] (s2 (rt ?_)))
   have hr:jY l f keep=([],0):=if_neg (by simpa using c8)
   refine bP rfl rfl ?_
   rw[hr]<;>rfl
 have hok:fL l f=true:=by simpa using c8
 obtain⟨q1,q2,q3,q4⟩:=sD hok
 have hfa:=aB2 (keep:=keep) q2
 have hfl: (dI (List.take (kO l f keep).toNat l)).2≤l.length:=aHl l f keep
 refine sk (sq (rT [1,2,4,5] (s3 (sq (sq (rT [1,2,4,5,18] (s7 (cd rfl (fun c18=> ?_) fun c18=> ?_))))))))
 · have hd:=of_decide_eq_true c18
   rw[aE (by omega)] at hd
   refine rT [1,2,4,5] (s6 (sq (sq (rT [1,2,4,5,25] (s2 (cd rfl (fun c25=> ?_) fun c25=> ?_))))))
   · have hz:=of_decide_eq_true c25
     refine rT [2,4,5] (s4 (sq (wa [tP 2 2,tP 4 4,tI 5 (kO l f keep),oB 2 76 [.d (.s l),.d (.i f)],oB 4 76 [.d (.s []),.d (.i 0)]] [] [] ?_ ?_)))
     · repeat' apply ai
       all_goals first|exact qx|exact congrArg D.i (by unfold kO;(try rw[aE (n:=(l.length:Int) - f) (by omega)] at*);split<;>first|omega|(rw[aE (by omega)];omega))|exact qz
     refine rT [2,4,5] (s3 (ai (by exact⟨by simp,by simpa using(by omega:0≤kO l f keep),by simpa using hfa.2⟩) (xp (fN (l.take (kO l f keep).toNat) (by rw[aVc];omega)) (ai rfl ?_))))
     refine s4 (sq (rT [4] (s3 (ai (by exact⟨by simp,by simp,by simpa using hfl⟩) (s3 (rt ?_))))))
     have hr:jY l f keep=_:=if_pos hok
     refine bP rfl rfl ?_
     rw[hr]
     rfl
   have hz:=of_decide_eq_false c25
   refine sk (sq (wa [tP 2 2,tP 4 4,tI 5 (kO l f keep),oB 2 76 [.d (.s l),.d (.i f)],oB 4 76 [.d (.s []),.d (.i 0)]] [] [] ?_ ?_))
   · repeat' apply ai
     all_goals first|exact qx|exact congrArg D.i (by unfold kO;(try rw[aE (n:=(l.length:Int) - f) (by omega)] at*);split<;>first|omega|(rw[aE (by omega)];omega))|exact qz
   refine rT [2,4,5] (s3 (ai (by exact⟨by simp,by simpa using(by omega:0≤kO l f keep),by simpa using hfa.2⟩) (xp (fN (l.take (kO l f keep).toNat) (by rw[aVc];omega)) (ai rfl ?_))))
   refine s4 (sq (rT [4] (s3 (ai (by exact⟨by simp,by simp,by simpa using hfl⟩) (s3 (rt ?_))))))
   have hr:jY l f keep=_:=if_pos hok
   refine bP rfl rfl ?_
   rw[hr]
   rfl
 have hd:=of_decide_eq_false c18
 rw[aE (by omega)] at hd
 refine sk (sq (sq (rT [1,2,4,5,25] (s2 (cd rfl (fun c25=> ?_) fun c25=> ?_)))))
 · have hz:=of_decide_eq_true c25
   refine rT [2,4,5] (s4 (sq (wa [tP 2 2,tP 4 4,tI 5 (kO l f keep),oB 2 76 [.d (.s l),.d (.i f)],oB 4 76 [.d (.s []),.d (.i 0)]] [] [] ?_ ?_)))
   · repeat' apply ai
     all_goals first|exact qx|exact congrArg D.i (by unfold kO;(try rw[aE (n:=(l.length:Int) - f) (by omega)] at*);split<;>first|omega|(rw[aE (by omega)];omega))|exact qz
   refine rT [2,4,5] (s3 (ai (by exact⟨by simp,by simpa using(by omega:0≤kO l f keep),by simpa using hfa.2⟩) (xp (fN (l.take (kO l f keep).toNat) (by rw[aVc];omega)) (ai rfl ?_))))
   refine s4 (sq (rT [4] (s3 (ai (by exact⟨by simp,by simp,by simpa using hfl⟩) (s3 (rt ?_))))))
   have hr:jY l f keep=_:=if_pos hok
   refine bP rfl rfl ?_
   rw[hr]
   rfl
 have hz:=of_decide_eq_false c25
 refine sk (sq (wa [tP 2 2,tP 4 4,tI 5 (kO l f keep),oB 2 76 [.d (.s l),.d (.i f)],oB 4 76 [.d (.s []),.d (.i 0)]] [] [] ?_ ?_))
 · repeat' apply ai
   all_goals first|exact qx|exact congrArg D.i (by unfold kO;(try rw[aE (n:=(l.length:Int) - f) (by omega)] at*);split<;>first|omega|(rw[aE (by omega)];omega))|exact qz
 refine rT [2,4,5] (s3 (ai (by exact⟨by simp,by simpa using(by omega:0≤kO l f keep),by simpa using hfa.2⟩) (xp (fN (l.take (kO l f keep).toNat) (by rw[aVc];omega)) (ai rfl ?_))))
 refine s4 (sq (rT [4] (s3 (ai (by exact⟨by simp,by simp,by simpa using hfl⟩) (s3 (rt ?_))))))
 have hr:jY l f keep=_:=if_pos hok
 refine bP rfl rfl ?_
 rw[hr]
 rfl
theorem oT (n:Int):Sp 191 1 [tI 0 n] [tI 0 (eT n)]:=by
 refine sb Tryz.func191 rfl (sq (rT [0] (s1 (sq (sq (rT [0,5] (s1 (xp (dJ _ _ _) (ai rfl ?_)))))))))
 refine s1 (cd rfl (fun c5=> ?_) fun c5=> ?_)
 · refine sq (rT [2] (s1 (rt (bH rfl (congrArg D.i ?_)))))
   simp at c5
   simp[eT,c5,Int.mul_comm]
 refine sk (sq (rT [2] (s5 (rt (bH rfl (congrArg D.i ?_))))))
 simp at c5
 simp[eT,c5,Int.mul_comm]
theorem zZ (b d:Int) (hb:1≤b∧b≤6) (hd:1≤d∧d≤6):Sp 194 2 [tI 0 b,tI 1 d] [tI 0 (nG b d)]:=by
 refine sb Tryz.func194 rfl (sq (rT [0,1] (s1 (sq (sq (rT [0,1,6] (s2 (cd rfl (fun c6=> ?_) fun c6=> ?_))))))))
 · have h1:d=1:=by simpa using c6
   refine sq (rT [4] (s1 (ai (by omega) (s2 (rt (bH rfl (congrArg D.i ?_)))))))
   exact(if_pos h1).symm
 have h1: ¬d=1:=by simpa using c6
 have h2:wrap64 (d*wrap64 (d - 1))≠0:=aB5 (by omega)
 refine sk (sq (rT [4] (s4 (ai (h2) (s1 (rt (bH rfl (congrArg D.i ?_))))))))
 exact(if_neg h1).symm
set_option maxHeartbeats 800000 in
theorem np (b n:Int) (hok:sY b n=true):Sp 192 2 [tI 0 b,tI 1 n] [tI 0 (kQ b n)]:=by
 obtain⟨hb,hn⟩:=xG hok
 refine sb Tryz.func192 rfl (sq (rT [0,1] (s1 (sq (sq (rT [0,1,12] (s2 (xp (wD _ _) (ai rfl ?_)))))))))
 refine s1 (cd rfl (fun c12=> ?_) fun c12=> ?_)
 · rw[hok] at c12
   cases c12
 refine sk (sq (sq (rT [0,1,15] (s3 (cd rfl (fun c15=> ?_) fun c15=> ?_)))))
 · have hs:n<b:=by simpa using c15
   refine sq (rT [4] (s1 (rt (bH rfl (congrArg D.i ?_)))))
   exact(qf hok hs).symm
 have hs: ¬n<b:=by simpa using c15
 refine sk (sq (rT [0,1,5] (s1 (sq (sq (rT [0,1,5,6] (s1 (bk (SW.loopW (n:=7) (fun m s=> ∃i:Nat,m=7 - i∧(i:Int)≤b∧s=[tI 0 b,tI 1 n,tI 5 (wQ b (i)),tI 6 ((i+1:Nat):Int)]) ?_ ?_)))))))))
 · refine wq [] [] (⟨0,rfl,by omega,rfl⟩) ?_
   repeat' apply ai
   all_goals first|exact qx|rfl|exact congrArg D.i (by rw[aE (by omega)];omega)|(simp;done)|omega|exact qz
 rintro n s ⟨i,rfl,hi,rfl⟩
 refine sq (sq (rT [0,1,5,6,18] (s3 (cd rfl (fun c18=> ?_) fun c18=> ?_))))
 · have hi2: ((i+1:Nat):Int)≤b:=by simpa using c18
   have hr1:=vC hb (d:=i) (by omega)
   have hw1:=uS (b:=b) (d:=((i+1:Nat):Int)) hb (by omega)
   refine sk (sq (bk (rT [0,1,5,6] (s3 (xp (zZ b _ (by omega) (by omega)) (ai rfl ?_))))))
   refine s2 (rT [0,1,5,6] (s3 (wq [] [] (⟨7 - (i+1),by omega,i+1,rfl,by omega,rfl⟩) ?_)))
   repeat' apply ai
   all_goals first|exact qx|(show D.i _=D.i (wQ b i+nG b ((i+1:Nat):Int));exact congrArg D.i (aE (by omega)))|exact congrArg D.i (by rw[aE (by omega)];omega)|(simp;done)|omega|exact qz
 have hi3: ¬((i+1:Nat):Int)≤b:=by simpa using c18
 have hie:i=b.toNat:=by omega
 subst hie
 have hq:=vC hb (d:=b.toNat) (by omega)
 refine xt (sq (rT [0,7] (s4 (xp (oT _) (ai rfl ?_)))))
 refine xp (oT _) (ai rfl ?_)
 refine ai (by decide) (s1 (ai (by omega) (s1 (sq (sq (rT [0,7,8] (s1 (bk ?_))))))))
 have hdr:=aHm (n:=n) hb
 refine SW.loopW (n:=7) (fun m s=> ∃j:Nat,m=7 - j∧((j:Int)≤b∧(j+1:Int)≤b)∧aj b (mv b n) (6 - j) (j+1)=kQ b n∧s=[tI 0 b,tI 7 (mv b n - wQ b (j)),tI 8 ((j+1:Nat):Int)]) ?_ ?_
 · refine wq [] [] (⟨0,rfl,by omega,(xr hok hs).symm,rfl⟩) ?_
   repeat' apply ai
   all_goals first|exact qx|(show D.i (mv b n)=D.i (mv b n - 0);rw[Int.sub_zero])|rfl|exact congrArg D.i (by rw[aE (by omega)];omega)|(simp;done)|omega|exact qz
 rintro n s ⟨j,rfl,hj,hdg,rfl⟩
 refine sq (sq (rT [0,7,8,37] (s3 (cd rfl (fun c37=> ?_) fun c37=> ?_))))
 · have hj2: ((j+1:Nat):Int)<b:=by simpa using c37
   have hr1:=vC hb (d:=j) (by omega)
   have hw1:=uS (b:=b) (d:=((j+1:Nat):Int)) hb (by omega)
   have hsum:wrap64 (mv b n - wQ b j - nG b ((j+1:Nat):Int))=mv b n - wQ b (j+1):=by
    show _=mv b n - (wQ b j+nG b ((j+1:Nat):Int))
    rw[aE (by omega)];omega
   refine sk (sq (bk (sq (rT [0,7,8] (s3 (xp (zZ b _ (by omega) (by omega)) (ai rfl ?_)))))))
   refine s2 (sq (rT [0,7,8,46] (s2 (cd rfl (fun c46=> ?_) fun c46=> ?_))))
   · have hlt:mv b n<wQ b (j+1):=by
      have h9:=of_decide_eq_true c46
      rw[hsum] at h9;omega
     refine sq (rT [4] (s2 (rt (bH rfl (congrArg D.i ?_)))))
     rw[← hdg]
     exact(aK7 (by omega) (by omega) hlt).symm
   have hnl: ¬mv b n<wQ b (j+1):=by
    have h9:=of_decide_eq_false c46
    rw[hsum] at h9;omega
   have hst:=aK6 (by omega) (by omega) hnl
   refine sk (rT [0,7,8] (s3 (wq [] [] (⟨7 - (j+1),by omega,j+1,rfl,by omega,hst▸hdg,rfl⟩) ?_)))
   repeat' apply ai
   all_goals first|exact qx|(rw[hsum];done)|exact congrArg D.i (by rw[aE (by omega)];omega)|(simp;done)|omega|exact qz
 have hj3: ¬((j+1:Nat):Int)<b:=by simpa using c37
 refine xt (sq (rT [4] (s2 (rt (bH rfl (congrArg D.i ?_))))))
 rw[← hdg]
 rw[jv (by omega)]
set_option maxHeartbeats 1600000 in
theorem kv (b n:Int):Sp 184 2 [tI 0 b,tI 1 n] [tD 0 (.sl (cY (cQ b n)))]:=by
 refine sb Tryz.func184 rfl (sq (rT [0,1] (s1 (sq (rT [0,1,5] (s2 (sq (sq (rT [0,1,5,15] (s2 (xp (wD _ _) (ai rfl ?_))))))))))))
 refine s1 (cd rfl (fun c15=> ?_) fun c15=> ?_)
 · have hok: ¬sY b n=true:=by simpa using c15
   refine sq (rT [4] (s2 (rt (eN _ [] [11] rfl (gE rfl rfl rfl ?_ (congrArg D.sl ?_) trivial) rfl rfl))))
   · rfl
   rw[zB hok];rfl
 have hok:sY b n=true:=by simpa using c15
 obtain⟨hb,hn⟩:=xG hok
 have hmd:=tC hok
 refine sk (sq (sq (rT [0,1,5,19] (s3 (cd rfl (fun c19=> ?_) fun c19=> ?_)))))
 · have hs:n<b:=by simpa using c19
   refine sq (rT [4] (s5 (rt (eN _ [] [11] rfl (gE rfl rfl rfl ?_ (congrArg D.sl ?_) trivial) rfl rfl))))
   · rfl
   rw[bp hok hs];rfl
 have hs: ¬n<b:=by simpa using c19
 refine sk (sq (rT [0,1,5,6] (s1 (ai (by refine⟨rfl,by omega,?_⟩;show((1:Nat):Int)*_≤_;omega) (s1 (sq (rT [0,1,5,6,7] (s3 (xp (oT _) (ai rfl ?_))))))))))
 refine s1 (sq (sq (rT [0,5,6,7,8] (s2 (xp (np b n hok) (ai rfl ?_))))))
 refine s1 (bk (SW.loopW (n:=(kQ b n).toNat*1) (fun m s=> ∃(x:Int) (k:Nat) (u:List Bool),m=k*1∧(UOk b u∧(u.count true:Int)+k≤b)∧aEr b k x u=wR b n∧s=[tI 0 b,tO 5 11 (([]:List Int)).length,tO 6 25 b.toNat,tI 7 (x),tI 8 (k:Nat),oR 11 3 1 (cY ([])),oR 25 4 1 (aM ((u).take b.toNat))]) ?_ ?_))
 · refine wq (σ':=[tI 0 b,tO 5 11 (([]:List Int)).length,tO 6 25 b.toNat,tI 7 (eT (wrap64 (wrap64 (n*7)+1))),tI 8 ((kQ b n).toNat:Nat),oR 11 3 1 (cY ([])),oR 25 4 1 (aM ((List.replicate 6 false).take b.toNat))]) [] [] (⟨_,_,_,rfl,⟨(xN b).1,by rw[(xN b).2];omega⟩,rfl,rfl⟩) ?_
   repeat' apply ai
   all_goals first|exact qx|rfl|exact congrArg D.i (by omega)|(rw[List.take_replicate,Nat.min_eq_left (by omega)];exact repT _)|exact qz
 rintro n s ⟨x,k,u,rfl,⟨hu,hc⟩,hp,rfl⟩
 refine sq (sq (rT [0,5,6,7,8,34] (s2 (cd rfl (fun c34=> ?_) fun c34=> ?_))))
 · have hk1:0<k:=by simpa using c34
   obtain⟨f,hf,hfree⟩:=aEs hb hu (by omega)
   refine sk (sq (bk (sq (rT [0,5,6,7,8] (s1 (xp (oT _) (ai rfl ?_)))))))
   refine s1 (sq (rT [0,5,6,7,8,9] (s1 (ai (by decide) (s1 (ai (by omega) (s1 (sq (bk ?_)))))))))
   have ha0:=aAp (x:=x) hb
   have hul:=hu.1
   have htl: (u.take b.toNat).length=b.toNat:=by rw[aVc];omega
   refine SW.loopW (n:=((f+b - (aVg (wrap64 (Int.tdiv (eT x) 16)) b)) % b).toNat) (fun m s=> ∃at_:Int,m=((f+b - at_) % b).toNat∧(0≤at_∧at_<b)∧sR u b 6 at_=sR u b 6 (aVg (wrap64 (Int.tdiv (eT x) 16)) b)∧s=[tI 0 b,tO 5 11 (([]:List Int)).length,tO 6 25 b.toNat,tI 7 (eT x),tI 8 (k:Nat),tI 9 (at_),oR 11 3 1 (cY ([])),oR 25 4 1 (aM ((u).take b.toNat))]) ?_ ?_
   · refine wq (σ':=[tI 0 b,tO 5 11 (([]:List Int)).length,tO 6 25 b.toNat,tI 7 (eT x),tI 8 (k:Nat),tI 9 ((aVg (wrap64 (Int.tdiv (eT x) 16)) b)),oR 11 3 1 (cY ([])),oR 25 4 1 (aM ((u).take b.toNat))]) [] [] (⟨_,rfl,ha0,rfl,rfl⟩) ?_
     repeat' apply ai
     all_goals first|exact qx|rfl|exact qz
   rintro n s ⟨at_,rfl,hat,hga,rfl⟩
   have hbo:=lB (l:=u.take b.toNat) (i:=at_.toNat) (by omega)
   rw[dk (by omega)] at hbo
   refine sq (sq (rT [0,5,6,7,8,9,46] (s2 (ai (by exact⟨by rw[cS];exact htl,by omega,by omega⟩) (ai (by rw[hbo];exact⟨⟨by rw[cS];exact htl,by omega⟩,aVf _,rfl⟩) (cd rfl (fun c46=> ?_) fun c46=> ?_))))))
   · have c40:u.getD at_.toNat false=true:=by
      rw[hbo] at c46;exact c46
     refine sk (bk (rT [0,5,6,7,8,9] (s3 (ai (by omega) (s1 ?_)))))
     have hne:at_≠f:=by
      rintro rfl
      rw[hfree] at c40
      cases c40
     obtain⟨q1,q2⟩:=aG5 hb hf hat hne
     have hgo:=aNu hb hf hfree hat c40
     refine wq (σ':=[tI 0 b,tO 5 11 (([]:List Int)).length,tO 6 25 b.toNat,tI 7 (eT x),tI 8 (k:Nat),tI 9 (aVg (wrap64 (at_+1)) b),oR 11 3 1 (cY ([])),oR 25 4 1 (aM ((u).take b.toNat))]) [] [] (⟨_,q1,_,rfl,q2,hgo▸hga,rfl⟩) ?_
     repeat' apply ai
     all_goals first|exact qx|rfl|exact qz
   have c40:u.getD at_.toNat false=false:=by
    rw[hbo] at c46;exact c46
   have hz:at_=sR u b 6 (aVg (wrap64 (Int.tdiv (eT x) 16)) b):=by rw[← hga,dt c40]
   have hpo:yX b x u=u.set at_.toNat true:=by rw[yX,← hz]
   have huk:=aEt (x:=x) hb hu (by omega)
   rw[hpo] at huk
   refine xt (rT [0,5,6,7,8] (s2 (ai (by exact⟨by rw[cS];exact htl,by omega,by omega⟩) (ai (by rw[hbo];exact⟨by rw[cS];exact htl,by omega,rfl,aVf _⟩) (rT [0,5,6,7,8] (s3 ?_))))))
   obtain⟨k,rfl⟩: ∃k2,k=k2+1:=⟨k - 1,by omega⟩
   have hpp:aEr b k (eT x) (u.set at_.toNat true)=wR b n:=by
    rw[← hpo];exact hp
   refine wq [] [] (⟨k*1,by omega,eT x,k,u.set at_.toNat true,rfl,⟨huk.1,by rw[huk.2];omega⟩,hpp,rfl⟩) ?_
   repeat' apply ai
   all_goals first|exact qx|exact congrArg D.i (by rw[aE (by omega)];omega)|(rw[List.take_set];exact aKf (by omega))|exact qz
 have hk1:k=0:=by simp at c34;omega
 subst hk1
 have hue:u=wR b n:=hp
 have hul:=hu.1
 have htl: (u.take b.toNat).length=b.toNat:=by rw[aVc];omega
 refine xt (sq (sq (rT [0,5,6,10] (s1 (bk (SW.loopW (n:=b.toNat) (fun m s=> ∃i:Nat,m=b.toNat - i∧(i:Int)≤b∧s=[tI 0 b,tO 5 11 (pB u (i)).length,tO 6 25 b.toNat,tI 10 (i:Nat),oR 11 3 1 (cY (pB u (i))),oR 25 4 1 (aM (u.take b.toNat))]) ?_ ?_))))))
 · refine wq [] [] (⟨0,rfl,by omega,rfl⟩) ?_
   repeat' apply ai
   all_goals first|exact qx|rfl|exact qz
 rintro n s ⟨i,rfl,hi,rfl⟩
 refine sq (sq (rT [0,5,6,10,56] (s3 (cd rfl (fun c56=> ?_) fun c56=> ?_))))
 · have hi2: (i:Int)<b:=by simpa using c56
   have hbo:=lB (l:=u.take b.toNat) (i:=i) (by omega)
   rw[dk (by omega)] at hbo
   refine sk (sq (bk (sq (rT [0,5,6,10,62] (s2 (ai (by exact⟨by rw[cS];exact htl,by omega,by omega⟩) (ai (by rw[aU4];rw[hbo];exact⟨⟨by rw[cS];exact htl,by omega⟩,aVf _,rfl⟩) (cd rfl (fun c62=> ?_) fun c62=> ?_))))))))
   · have c52:u.getD i false=true:=by
      rw[aU4,hbo] at c62;exact c62
     refine rT [0,5,6,10] (s3 (ai (by refine⟨rfl,cF _,by simp,?_⟩;have:=en u i;show(_+1)*8≤_;omega) (s1 (rT [0,5,6,10] (s3 ?_)))))
     first
     |(have hx:=uk c52
       refine wq [] [] (⟨b.toNat - (i+1),by omega,i+1,rfl,by omega,rfl⟩) ?_
       repeat' apply ai
       all_goals first|exact qx|exact congrArg D.i (by rw[aE (by omega)];omega)|omega|(simp;done)|(rw[hx,aU5];rfl)|(rw[hx];exact nU _ _)|(rw[hx];simp[cY,aU5];done)|exact qz)
     |(have hx:=mw c52
       refine wq [] [] (⟨b.toNat - (i+1),by omega,i+1,rfl,by omega,rfl⟩) ?_
       repeat' apply ai
       all_goals first|exact qx|exact congrArg D.i (by rw[aE (by omega)];omega)|omega|(simp;done)|(rw[hx];done)|exact qz)
   have c52:u.getD i false=false:=by
    rw[aU4,hbo] at c62;exact c62
   refine sk (rT [0,5,6,10] (s3 ?_))
   first
   |(have hx:=uk c52
     refine wq [] [] (⟨b.toNat - (i+1),by omega,i+1,rfl,by omega,rfl⟩) ?_
     repeat' apply ai
     all_goals first|exact qx|exact congrArg D.i (by rw[aE (by omega)];omega)|omega|(simp;done)|(rw[hx,aU5];rfl)|(rw[hx];exact nU _ _)|(rw[hx];simp[cY,aU5];done)|exact qz)
   |(have hx:=mw c52
     refine wq [] [] (⟨b.toNat - (i+1),by omega,i+1,rfl,by omega,rfl⟩) ?_
     repeat' apply ai
     all_goals first|exact qx|exact congrArg D.i (by rw[aE (by omega)];omega)|omega|(simp;done)|(rw[hx];done)|exact qz)
 have hi3:i=b.toNat:=by simp at c56;omega
 subst hi3
 refine xt (sq (rT [4] (s2 (rt (eN _ [] [11] rfl (gE rfl rfl rfl ?_ (congrArg D.sl ?_) trivial) rfl rfl)))))
 · exact cF _
 rw[my hok hs,← hue,← ul,pj (i:=b.toNat) (fun j hj=>hu.2 j (by omega)) (by omega)]
theorem yn:Sp 185 0 [] [tD 0 (.s [0,0,0,0])]:=by
 refine sb Tryz.func185 rfl (sq (rT [] (s1 (sq (rT [0] (ai (by exact⟨rfl,by decide,by decide⟩) (ai (by exact⟨rfl,rfl⟩) (s1 (rt (bH rfl (congrArg D.s ?_)))))))))))
 rfl
theorem kw (a c:List UInt8) (ha:a.length=4) (hc:c.length=4):Sp 186 2 [tD 0 (.s a),tD 1 (.s c)] [tD 0 (.s (xq a c))]:=by
 refine sb Tryz.func186 rfl (sq (rT [0,1] (s1 (sq (rT [0,1,5] (s2 (sq (sq (rT [0,1,5,6] (s1 (bk (SW.loopW (n:=4) (fun m s=> ∃i:Nat,m=4 - i∧i≤4∧s=[tD 0 (.s a),tD 1 (.s c),tO 5 7 (um a c (i)).length,tI 6 (i:Nat),oR 7 5 1 (aC (um a c (i)))]) ?_ ?_))))))))))))
 · refine wq [] [] (⟨0,rfl,by omega,rfl⟩) ?_
   repeat' apply ai
   all_goals first|exact qx|rfl|exact qz
 rintro n s ⟨i,rfl,hi,rfl⟩
 refine sq (sq (rT [0,1,5,6,9] (s2 (cd rfl (fun c9=> ?_) fun c9=> ?_))))
 · have hi2:i<4:=by simp at c9;omega
   refine sk (sq (bk (rD [0,1,5,6] (s3 (ai (by omega) (s2 (ai (by omega) (s2 (ai (by refine⟨rfl,aV _,by simp,?_⟩;rw[jy];show(_+1)*1≤_;omega) (s1 (ai (by kernel_rfl) (rT [0,1,5,6] (s3 ?_)))))))))))))
   have hx:=aHp a c i
   refine wq [] [] (⟨4 - (i+1),by omega,i+1,rfl,by omega,rfl⟩) ?_
   repeat' apply ai
   all_goals first|exact qx|(rw[hx,aU5];rfl)|(rw[hx,aU4];exact aKh _ _ _)|(simp[aV,jy];done)|exact congrArg D.i (by rw[aE (by omega)];omega)|omega|(simp;done)|exact qz
 have hi2:i=4:=by simp at c9;omega
 subst hi2
 refine xt (sq (rT [4] (s1 (ai (by exact⟨aV _,(congrArg aC (cE _)).symm⟩) (s1 (rt (bH rfl (congrArg D.s ?_))))))))
 exact cE _
set_option maxHeartbeats 800000 in
theorem yo (l:List UInt8) (hl:l.length≤140737488355328):Sp 183 1 [tD 0 (.s l)] [tD 0 (.sl (bO (dS l)))]:=by
 refine sb Tryz.func183 rfl (sq (rT [0,12,13,14] (s1 (sq (rT [0,3,12,13,14] (s2 (sq (sq (rT [0,3,15] (s4 (y3 (ai pk (cd rfl (fun c15=> ?_) fun c15=> ?_)))))))))))))
 · have hin: ¬iB l.length 1 24=true:=by
    have h1: (l.length:Int)<1∨(l.length:Int)>24:=by simpa only[Bool.or_eq_true,decide_eq_true_eq] using c15
    simp[iB];omega
   refine sq (rT [2] (s2 (rt (eN _ [] [7] rfl (gE rfl rfl rfl ?_ (congrArg D.sl ?_) trivial) rfl rfl))))
   · rfl
   rw[aAq hin];rfl
 have hl2:1≤l.length∧l.length≤24:=by
  have h1: ¬(l.length:Int)<1∧ ¬(l.length:Int)>24:=by simpa only[Bool.or_eq_false_iff,decide_eq_false_iff_not] using c15
  omega
 have hin:iB l.length 1 24=true:=by simp[iB];omega
 refine sk (sq (sq (rT [0,3,4] (s1 (bk (SW.loopW (n:=((l.length+3) / 4)) (fun m s=> ∃i:Nat,m=((l.length+3) / 4) - i∧i≤((l.length+3) / 4)∧s=[tD 0 (.s l),tO 3 7 (vW l (i)).length,tI 4 (i:Nat),oR 7 9 1 (bO (vW l (i)))]) ?_ ?_))))))
 · refine wq (σ':=[tD 0 (.s l),tO 3 7 (vW l (0)).length,tI 4 (0:Nat),oR 7 9 1 (bO (vW l (0)))]) [] [] (⟨0,rfl,aVa _,rfl⟩) ?_
   repeat' apply ai
   all_goals first|exact qx|rfl|exact qz
 rintro n s ⟨i,rfl,hi,rfl⟩
 refine sq (sq (rT [0,3,4,21] (s3 (xp (oS _ (by omega)) (ai rfl ?_)))))
 refine s1 (cd rfl (fun c21=> ?_) fun c21=> ?_)
 · have hi2:i< ((l.length+3) / 4):=by simp at c21;omega
   refine sk (sq (bk (sq (rT [0,3,4,5] (s2 (sq (sq (rT [0,3,4,5,6] (s3 (bk (SW.loopW (n:=4) (fun m s=> ∃c:Nat,m=4 - c∧c≤4∧s=[tD 0 (.s l),tO 3 7 (vW l i).length,tI 4 (i:Nat),tO 5 24 (bq l i (c)).length,tI 6 (4*i+c:Nat),oR 7 9 1 (bO (vW l i)),oR 24 5 1 (aC (bq l i (c)))]) ?_ ?_)))))))))))
   · refine wq (σ':=[tD 0 (.s l),tO 3 7 (vW l i).length,tI 4 (i:Nat),tO 5 24 (bq l i (0)).length,tI 6 (4*i+0:Nat),oR 7 9 1 (bO (vW l i)),oR 24 5 1 (aC (bq l i (0)))]) [] [] (⟨0,rfl,aVa _,rfl⟩) ?_
     repeat' apply ai
     all_goals first|exact qx|rfl|exact congrArg D.i (by rw[aE (by omega)];omega)|exact qz
   rintro n s ⟨c,rfl,hc,rfl⟩
   refine sq (sq (rT [0,3,4,5,6,31] (s5 (cd rfl (fun c31=> ?_) fun c31=> ?_))))
   · have hc2:c<4:=by
      have h:=c31
      rw[aE (n:=(i:Int)+1) (by omega),aE (by omega)] at h
      simp at h;omega
     refine sk (sq (bk (sq (rT [0,3,4,5,6,37] (s4 (cd rfl (fun c37=> ?_) fun c37=> ?_))))))
     · have hk3:4*i+c<l.length:=by simp at c37;omega
       refine rT [0,3,4,5,6] (s3 (ai (by omega) (s1 (ai (by refine⟨rfl,aV _,by simp,?_⟩;rw[lZ];show(_+1)*1≤_;omega) (s1 (rT [0,3,4,5,6] (s3 ?_)))))))
       first
       |(have hk4:4*i+c<l.length:=hk3
         have hbs:=zC l i c
         refine wq [] [] (⟨4 - (c+1),by omega,c+1,rfl,by omega,rfl⟩) ?_
         repeat' apply ai
         all_goals first|exact qx|exact congrArg D.i (by rw[aE (by omega)];omega)|(rw[hbs,aU5];rfl)|(rw[hbs,aU4];exact gJ _ [_])|(simp[aV,lZ];done)|exact qz)
       |(have hbs:=zC l i c
         rw[hk3] at hbs
         refine wq [] [] (⟨4 - (c+1),by omega,c+1,rfl,by omega,rfl⟩) ?_
         repeat' apply ai
         all_goals first|exact qx|exact congrArg D.i (by rw[aE (by omega)];omega)|(rw[hbs,aU5];rfl)|(rw[hbs];exact gJ _ [0])|(simp[aV,lZ];done)|exact qz)
     have hk3:l.getD (4*i+c) 0=0:=getD_none (by simp at c37;omega)
     refine rT [0,3,4,5,6] (s2 (ai (by refine⟨rfl,aV _,by simp,?_⟩;rw[lZ];show(_+1)*1≤_;omega) (s1 (rT [0,3,4,5,6] (s3 ?_)))))
     first
     |(have hk4:4*i+c<l.length:=hk3
       have hbs:=zC l i c
       refine wq [] [] (⟨4 - (c+1),by omega,c+1,rfl,by omega,rfl⟩) ?_
       repeat' apply ai
       all_goals first|exact qx|exact congrArg D.i (by rw[aE (by omega)];omega)|(rw[hbs,aU5];rfl)|(rw[hbs,aU4];exact gJ _ [_])|(simp[aV,lZ];done)|exact qz)
     |(have hbs:=zC l i c
       rw[hk3] at hbs
       refine wq [] [] (⟨4 - (c+1),by omega,c+1,rfl,by omega,rfl⟩) ?_
       repeat' apply ai
       all_goals first|exact qx|exact congrArg D.i (by rw[aE (by omega)];omega)|(rw[hbs,aU5];rfl)|(rw[hbs];exact gJ _ [0])|(simp[aV,lZ];done)|exact qz)
   have hc2:c=4:=by
    have h:=c31
    rw[aE (n:=(i:Int)+1) (by omega),aE (by omega)] at h
    simp at h;omega
   subst hc2
   refine xt (rT [0,3,4] (s2 (ai (by exact⟨aV _,(congrArg aC (cE _)).symm⟩) (s1 (ai (by refine⟨rfl,aW _,by simp,?_⟩;rw[zD];show(_+1)*16≤_;omega) (s1 (rT [0,3,4] (s3 ?_))))))))
   have hcs:=aHo l i
   refine wq [] [] (⟨((l.length+3) / 4) - (i+1),by omega,i+1,rfl,by omega,rfl⟩) ?_
   repeat' apply ai
   all_goals first|exact qx|(rw[hcs,cE];exact jN _ _)|(rw[hcs,aU5];rfl)|(simp[aW,zD];done)|exact congrArg D.i (by rw[aE (by omega)];omega)|omega|(simp;done)|exact qz
 have hi3:i=((l.length+3) / 4):=by simp at c21;omega
 refine xt (sq (rT [2] (s2 (rt (eN _ [] [7] rfl (gE rfl rfl rfl ?_ (congrArg D.sl ?_) trivial) rfl rfl)))))
 · exact aW _
 rw[un hin,hi3]
set_option maxHeartbeats 800000 in
theorem wd (l:List UInt8) (n:Int) (hl:l.length≤140737488355328):Sp 172 2 [tD 0 (.s l),tI 1 n] [tD 0 (.s (yZ l n))]:=by
 refine sb Tryz.func172 rfl (sq (rT [0,1,19,20,21] (s1 (sq (rT [1,5,19,20,21] (s1 (xp (yo l hl) (ai rfl ?_))))))))
 refine s1 (sq (rT [5,6,19,20,21] (s3 (xp (kv ((dS l).length:Nat) n) (ai (by rw[aW];rfl) ?_)))))
 refine s1 (sq (sq (rT [5,6,22] (s4 (y3 (ai pk (cd rfl (fun c22=> ?_) fun c22=> ?_)))))))
 · have hn:dS l=[]∨(cQ (dS l).length n)=[]:=by simpa[bO,cY] using c22
   refine sq (rT [4] (s1 (rt (bH rfl (congrArg D.s ?_)))))
   exact(ka hn).symm
 have hn: ¬(dS l=[]∨(cQ (dS l).length n)=[]):=by simpa[bO,cY] using c22
 refine sk (sq (rT [5,6,7] (xp yn (ai rfl ?_))))
 refine s1 (sq (sq (rT [5,6,7,8] (s1 (bk (SW.loopW (n:=(cQ (dS l).length n).length) (fun m s=> ∃i:Nat,m=(cQ (dS l).length n).length - i∧i≤(cQ (dS l).length n).length∧s=[tD 5 (.sl (bO (dS l))),tD 6 (.sl (cY (cQ (dS l).length n))),tD 7 (.s (xO (dS l) [0,0,0,0] ((cQ (dS l).length n).take i))),tI 8 (i:Nat)]) ?_ ?_))))))
 · refine wq (σ':=[tD 5 (.sl (bO (dS l))),tD 6 (.sl (cY (cQ (dS l).length n))),tD 7 (.s (xO (dS l) [0,0,0,0] ((cQ (dS l).length n).take 0))),tI 8 (0:Nat)]) [] [] (⟨0,rfl,aVa _,rfl⟩) ?_
   repeat' apply ai
   all_goals first|exact qx|rfl|exact qz
 rintro n s ⟨i,rfl,hi,rfl⟩
 refine sq (sq (rT [5,6,7,8,27] (s4 (cd rfl (fun c27=> ?_) fun c27=> ?_))))
 · have hi2:i< (cQ (dS l).length n).length:=by simp[cF] at c27;omega
   have hml:=jx (dS l).length n
   have hj:=aS4 (t:=l) (n:=n) hi2
   have hio:=dL (l:=(cQ (dS l).length n)) (i:=i) hi2
   have hv:=aPo (l:=dS l) hj.1 hj.2.1
   refine sk (sq (bk (rT [5,6,7,8] (s4 (ai (by rw[aU4,hio];exact⟨⟨by omega,by rw[cF];omega⟩,rfl⟩) (ai (by rw[aU4,hio];exact⟨aU6 rfl,rfl⟩) (ai (by rw[aU4,hio];exact ixS hj.1 hj.2.1) (ai (by rw[aU4,hio];exact ldS hj.1 hj.2.1) (xp (kw (xO (dS l) [0,0,0,0] ((cQ (dS l).length n).take i)) ((dS l).getD ((cQ (dS l).length n).getD i 0).toNat []) (jz rfl) hj.2.2) (ai (by rw[aU4,hio];exact(congrArg (fun z=>eS 0 [Dv (.s (xO (dS l) [0,0,0,0] ((cQ (dS l).length n).take i))),Dv (.s z)]) hv).symm) ?_))))))))))
   refine s1 (rT [5,6,7,8] (s3 ?_))
   have hgt:=aHr (bl:=dS l) hi2 (x:=[0,0,0,0])
   refine wq [] [] (⟨(cQ (dS l).length n).length - (i+1),by omega,i+1,rfl,by omega,rfl⟩) ?_
   repeat' apply ai
   all_goals first|exact qx|(rw[hgt];done)|exact congrArg D.i (by rw[aE (by omega)];omega)|omega|(simp;done)|exact qz
 have hi3:i=(cQ (dS l).length n).length:=by simp[cF] at c27;omega
 refine xt (sq (rT [4] (s2 (rt (bH rfl (congrArg D.s ?_))))))
 rw[kc hn,hi3,aVl]
theorem tG (a b:Int):Sp 171 2 [tI 0 a,tI 1 b] [tI 0 (iN a b)]:=by
 refine sb Tryz.func171 rfl (sq (rT [0,1,10,11,12,15,16,17] (s1 (sq (bk (sq (rT [0,1,5] (s1 (xp (dB _) (ai rfl ?_))))))))))
 refine s2 (y1 (xc (fun h=>(dB _)) (ai rfl (ai rk ?_))))
 refine y1 (ai pk (s1 (y3 (ai pk (s1 (cd rfl (fun c5=> ?_) fun c5=> ?_))))))
 · refine sq (rT [4] (s1 (rt (bH rfl ?_))))
   simp only[iN,wrap64,eC,iB,gb] at*
   grind
 refine sq (rT [0,19] (s4 (cd rfl (fun c19=> ?_) fun c19=> ?_)))
 · refine sq (rT [4] (s3 (rt (bH rfl ?_))))
   simp only[iN,wrap64,eC,iB,gb] at*
   grind
 refine sk (sq (rT [4] (s3 (rt (bH rfl ?_)))))
 simp only[iN,wrap64,eC,iB,gb] at*
 grind
set_option maxHeartbeats 1600000 in
theorem nq (k:aS) (f n mix:Int) (hl:k.log.length≤140737488355328):Sp 159 4 [tV 0 k.V,tI 1 f,tI 2 n,tI 3 mix] [tV 0 (.tup [.agg [.d (.i ((eK k f n mix).1).kind),.d (.i ((eK k f n mix).1).src),.d (.i ((eK k f n mix).1).dst),.d (.i ((eK k f n mix).1).frm),.d (.i ((eK k f n mix).1).num),.d (.i ((eK k f n mix).1).to),.d (.i ((eK k f n mix).1).til),.d (.i ((eK k f n mix).1).size),.d (.i ((eK k f n mix).1).mix),.d (.s ((eK k f n mix).1).data)],.c (.d (.b (eK k f n mix).2))])]:=by
 refine sb Tryz.func159 rfl (sq (rT [1,2,3,4,8,18,19,20,36,37,38] (s3 (sq (sq (rT [1,2,3,4,8,21,36,37,38] (s1 (xp (gH k hl) (ai rfl ?_)))))))))
 refine s2 (y3 (ai pk (cd rfl (fun c21=> ?_) fun c21=> ?_)))
 · have hn:eK k f n mix=(.zero,false):=ke (by
    intro h9
    simp only[aU7] at h9
    rw[h9.1.1.1,h9.1.1.2] at c21
    cases c21)
   refine sq (rT [8,9] (s3 (rt ?_)))
   have hr:=hn
   refine bP rfl rfl ?_
   rw[hr]
   rfl
 have hok:bG k=true∧k.up=true:=by
  revert c21
  cases bG k<;>cases k.up<;>simp
 obtain⟨hok,hup⟩:=hok
 have hlg:=(gL hok).2.1
 have h6:=eL (iA hok)
 refine sk (sq (rT [1,2,3,4,8,10,36,37,38] (s1 (xp (gX k (by omega)) (ai rfl ?_)))))
 refine s6 (sq (rT [3,4,8,10,12,36,37,38] (s4 (xp (gA (bC k).1.held f n (by have:=h6.1;omega)) (ai rfl ?_)))))
 refine s1 (sq (sq (rT [3,4,8,10,12,39] (s3 (y1 (xc (fun h=>(dJ _ _ _)) (ai rfl (ai rk ?_))))))))
 refine y1 (ai pk (cd rfl (fun c39=> ?_) fun c39=> ?_))
 · have hn:eK k f n mix=(.zero,false):=ke (by
    intro h9
    simp only[aU7,decide_eq_true_eq] at h9
    rw[h9.1.2,decide_eq_false (show ¬aX (bC k).1.held f n<0 by omega)] at c39
    cases c39)
   refine sq (rT [8,9] (s3 (rt ?_)))
   have hr:=hn
   refine bP rfl rfl ?_
   rw[hr]
   rfl
 have hpm:0≤aX (bC k).1.held f n∧iB mix 0 999=true:=by
  by_cases h8:aX (bC k).1.held f n<0
  · rw[decide_eq_true h8] at c39;cases c39
  · refine⟨by omega,?_⟩
    rw[decide_eq_false h8] at c39
    simpa using c39
 obtain⟨hp,hmx⟩:=hpm
 have hy:=xu hok hup hmx hp
 obtain⟨j,hj,hjl,hjt⟩:=rM hok hp
 have hg:=aQ (l:=(bC k).1.held) hjl
 rw[hj,aU4] at hy
 refine sk (sq (rT [3,4,8,13] (s3 (ai (by rw[hj,aU4,hg];exact⟨⟨by omega,by rw[aA];omega⟩,rfl⟩) (ai (by rw[hj,aU4,hg];exact⟨aU6 rfl,rfl⟩) (s2 (sq (wa [tP 4 4,tP 8 8,tP 13 13,tI 3 mix,oB 4 79 [.d (.i (k).id),.d (.b (k).up),.d (.s (k).log),.d (.i (k).forced),.d (.sl (bR (k).halves))],oB 8 178 [.d (.i 0),.d (.i 0),.d (.i 0),.d (.i 0),.d (.i 0),.d (.i 0),.d (.i 0),.d (.i 0),.d (.i 0),.d (.s [])],oB 13 29 [.d (.i (((bC k).1.held.getD j .zero)).frm),.d (.i (((bC k).1.held.getD j .zero)).num),.d (.i (((bC k).1.held.getD j .zero)).to),.d (.i (((bC k).1.held.getD j .zero)).til),.d (.s (((bC k).1.held.getD j .zero)).text)]] [] [] ?_ ?_))))))))
 · repeat' apply ai
   all_goals first|exact qx|(rw[hj,aU4,hg];rfl)|exact qz
 refine rD [8,9] (s6 (xp (tG _ _) (ai rfl ?_)))
 refine s9 (s6 (xp (wd ((bC k).1.held.getD j .zero).text mix hjt) (ai rfl ?_)))
 refine s3 (ai (by kernel_rfl) (rt ?_))
 have hr:=hy
 refine bP rfl rfl ?_
 rw[hr]
 rfl
theorem aa (rec:List UInt8):Sp 187 1 [tD 0 (.s rec)] [tB 0 (vU rec)]:=by
 refine sb Tryz.func187 rfl (sq (rT [0] (s1 (sq (rT [2] (s2 (xp (dJ _ _ _) (ai rfl ?_))))))))
 refine s1 (rt (bH rfl ?_))
 rfl
theorem wW (rec:List UInt8) (hrec:rec.length≤900000):Sp 188 1 [tD 0 (.s rec)] [tD 0 (.s (lX rec))]:=by
 have hdl:=bZ (k:=5) (n:=rec.length) (by simp;omega)
 refine sb Tryz.func188 rfl (sq (rT [0] (s1 (sq (rT [2] (s2 (xp (tY rec.length (by omega)) (ai rfl ?_))))))))
 refine ai (by show _≤9223372036854775807;(try simp only[aU5,aU9,aU8]);omega) (s1 (ai (by show _≤9223372036854775807;(try simp only[aU5,aU9,aU8]);omega) (ai (by show _≤9223372036854775807;(try simp only[aU5,aU9,aU8]);omega) (s1 (rt (bH rfl ?_))))))
 rfl
set_option maxHeartbeats 800000 in
theorem ab (l:List UInt8) (f:Int) (rec:List UInt8) (hl:l.length≤140737488355328) (hrec:rec.length≤900000):Sp 182 2 [tV 0 (.e (.agg [.d (.s l),.d (.i f)])),tD 1 (.s rec)] [tV 0 (.tup [.agg [.d (.s (cD l f rec).1.1),.d (.i (cD l f rec).1.2)],.c (.d (.b (cD l f rec).2))])]:=by
 refine sb Tryz.func182 rfl (sq (rT [1,2,4,14,15,16,17,18,19,20,21] (s3 (sq (sq (rT [1,2,4,8,14,15,16,17,18,19,20,21] (s1 (xp (nP l f hl) (ai rfl ?_)))))))))
 refine s1 (cd rfl (fun c8=> ?_) fun c8=> ?_)
 · have hr:cD l f rec=(([],0),false):=aB7 (by simpa using c8)
   refine sq (rT [4,5] (s3 (rt (bP rfl rfl ?_))))
   rw[hr]
   rfl
 have hok:fL l f=true:=by simpa using c8
 have hl2:=(sD hok).1
 have hst:=bo hrec
 refine sk (sq (sq (rD [1,2,4,22] (s1 (xp (aa rec) (ai rfl ?_))))))
 refine s2 (y4 (xc (fun h=>(wW rec hrec)) (ai rfl (ai rk ?_))))
 refine y3 (ai pk (ai (by kernel_rfl) (cd rfl (fun c22=> ?_) fun c22=> ?_)))
 · have hr:cD l f rec=((l,f),false):=aEv hok (fun h9=>by have:=(aEw c22 hl2 (by omega)).1 h9;cases this)
   refine sq (rT [4,5] (s3 (rt (bP rfl rfl ?_))))
   rw[hr]
   rfl
 have hr:cD l f rec=((l++lX rec,f),true):=aB8 hok ((aEw c22 hl2 (by omega)).2 rfl)
 refine sk (sq (rD [4,5] (s3 (xp (wW rec hrec) (ai rfl ?_)))))
 refine ai (by show _≤9223372036854775807;(try simp only[aU5,aU9,aU8]);omega) (s5 (ai (by kernel_rfl) (rt (bP rfl rfl ?_))))
 rw[hr]
 rfl
set_option maxHeartbeats 800000 in
theorem xP (l:List UInt8) (f:Int) (recs:List (List UInt8)) (hl:l.length≤140737488355328) (hn:recs.length≤900000) (hrec: ∀r∈recs,r.length≤900000):Sp 174 2 [tV 0 (.e (.agg [.d (.s l),.d (.i f)])),tD 1 (.sl (bO recs))] [tV 0 (.tup [.agg [.d (.s (fC l f recs).1.1),.d (.i (fC l f recs).1.2)],.c (.d (.b (fC l f recs).2))])]:=by
 refine sb Tryz.func174 rfl (sq (rT [1,2,4] (s3 (sq (sq (rT [1,2,4,10] (s1 (xp (nP l f hl) (ai rfl ?_)))))))))
 refine s1 (cd rfl (fun c10=> ?_) fun c10=> ?_)
 · have hr:fC l f recs=(([],0),false):=xv (by simpa using c10)
   refine sq (rT [4,5] (s3 (rt (bP rfl rfl ?_))))
   rw[hr]
   rfl
 have hok:fL l f=true:=by simpa using c10
 refine sk (sq (rT [1,2,4,6] (s1 (sq (sq (rT [1,2,4,6,7] (s1 (bk (SW.loopW (n:=recs.length) (fun m q=> ∃i:Nat,m=recs.length - i∧i≤recs.length∧(∀k,k<i→vU (recs.getD k [])=true)∧q=[tP 2 2,tP 4 4,tD 1 (.sl (bO recs)),tD 6 (.s (iF (recs.take (i)))),tI 7 (i:Nat),oB 2 76 [.d (.s l),.d (.i f)],oB 4 76 [.d (.s []),.d (.i 0)]]) ?_ ?_)))))))))
 · refine wq (σ':=[tP 2 2,tP 4 4,tD 1 (.sl (bO recs)),tD 6 (.s (iF (recs.take (0)))),tI 7 (0:Nat),oB 2 76 [.d (.s l),.d (.i f)],oB 4 76 [.d (.s []),.d (.i 0)]]) [] [] (⟨0,rfl,aVa _,fun k h=>absurd h (by omega),rfl⟩) ?_
   repeat' apply ai
   all_goals first|exact qx|rfl|exact qz
 rintro n s ⟨i,rfl,hi,hk,rfl⟩
 refine sq (sq (rT [1,2,4,6,7,15] (s4 (cd rfl (fun c15=> ?_) fun c15=> ?_))))
 · have hi2:i<recs.length:=by simpa[aW] using c15
   have hg:=gZ (l:=recs) hi2
   have hmem: (recs.getD i [])∈recs:=cW hi2
   have hrq:=hrec _ hmem
   have hpt:=aB9 hi2
   have hple:=aHu recs i
   have hps:=ep hrec
   have hsl:=bo hrq
   refine sk (sq (bk (sq (sq (rT [1,2,4,6,7,23] (s2 (ai (by rw[aU4,hg];exact⟨⟨by omega,by rw[aW];omega⟩,rfl⟩) (ai (by rw[aU4,hg];exact⟨aU6 rfl,rfl⟩) (xp (aa (recs.getD i [])) (ai (by rw[aU4,hg];rfl) ?_))))))))))
   refine s1 (cd rfl (fun c23=> ?_) fun c23=> ?_)
   · have hs:vU (recs.getD i [])=false:=by
      simpa using c23
     have hr:fC l f recs=((l,f),false):=kf hok (fun h9=>aNw hi2 hs h9.1)
     refine sq (rT [4,5] (s3 (rt (bP rfl rfl ?_))))
     rw[hr]
     rfl
   refine sk (rT [1,2,4,6,7] (s3 (ai (by rw[aU4,hg];exact⟨⟨by omega,by rw[aW];omega⟩,rfl⟩) (ai (by rw[aU4,hg];exact⟨aU6 rfl,rfl⟩) (xp (wW (recs.getD i []) hrq) (ai (by rw[aU4,hg];rfl) ?_))))))
   refine ai (by show _≤9223372036854775807;(try simp only[aU5,aU9,aU8]);omega) (s1 (rT [1,2,4,6,7] (s3 ?_)))
   have hs:vU (recs.getD i [])=true:=by
    simpa using c23
   refine wq [] [] (⟨recs.length - (i+1),by omega,i+1,rfl,by omega,fun k h=>by by_cases e:k=i;exact e▸hs;exact hk k (by omega),rfl⟩) ?_
   repeat' apply ai
   all_goals first|exact qx|exact congrArg D.i (by rw[aE (by omega)];omega)|(rw[hpt];done)|(rw[hpt,aU4,hg];rfl)|omega|exact qz
 have hi3:i=recs.length:=by simp[aW] at c15;omega
 subst hi3
 have hall:=aK9 hk
 rw[aVl]
 refine xt (sq (sq (rT [2,4,6,34] (s3 (cd rfl (fun c34=> ?_) fun c34=> ?_)))))
 · have hr:fC l f recs=((l,f),false):=kf hok (fun h9=>by have h8:=of_decide_eq_true c34;omega)
   refine sq (rT [4,5] (s3 (rt (bP rfl rfl ?_))))
   rw[hr]
   rfl
 have hr:=xw hok ⟨hall,by have h8:=of_decide_eq_false c34;omega⟩
 refine sk (sq (rT [4,5] (s6 (rt (bP rfl rfl ?_)))))
 rw[hr]
 rfl
theorem ae (a b c:Int) (h: (0≤a∧a≤1000000)∧(0≤b∧b≤1000000)∧(0≤c∧c≤1000000)):Sp 89 3 [tI 0 a,tI 1 b,tI 2 c] [tD 0 (.s (kC a.toNat++[32]++kC b.toNat++[32]++kC c.toNat))]:=by
 have q1:=bZ (k:=6) (n:=a.toNat) (by simp;omega)
 have q2:=bZ (k:=6) (n:=b.toNat) (by simp;omega)
 have q3:=bZ (k:=6) (n:=c.toNat) (by simp;omega)
 refine sb Tryz.func89 rfl (sq (rT [0,1,2] (s1 (sq (rT [6] (s1 (xp (kH a h.1) (ai rfl ?_))))))))
 refine ai (by show _≤9223372036854775807;(try simp only[aU5,aU9,aU8]);omega) (s1 (xp (kH b h.2.1) (ai rfl ?_)))
 refine ai (by show _≤9223372036854775807;(try simp only[aU5,aU9,aU8]);omega) (ai (by show _≤9223372036854775807;(try simp only[aU5,aU9,aU8]);omega) (s1 (xp (kH c h.2.2) (ai rfl ?_))))
 refine ai (by show _≤9223372036854775807;(try simp only[aU5,aU9,aU8]);omega) (s1 (rt (bH rfl ?_)))
 rfl
set_option maxHeartbeats 1600000 in
theorem we (k:aS) (hb:k.halves.length≤100000∧ ∀x∈k.halves,x.got.length≤100000):Sp 166 1 [tV 0 k.V] [tV 0 (.e (.agg [.d (.i k.id),.d (.b k.up),.d (.s k.log),.d (.i k.forced),.own 0 k.halves.length])),oR 0 136 6 (bR k.halves)]:=by
 refine sb Tryz.func166 rfl (sq (rT [1,2] (s2 (sq (rT [1,2,3] (s2 (sq (sq (rT [1,2,3,4] (s1 (bk (SW.loopW (n:=k.halves.length) (fun m q=> ∃i:Nat,m=k.halves.length - i∧i≤k.halves.length∧q=[tP 1 1,tP 2 2,tO 3 6 (k.halves.take (i)).length,tI 4 (i:Nat),oB 1 79 [.d (.i (k).id),.d (.b (k).up),.d (.s (k).log),.d (.i (k).forced),.d (.sl (bR (k).halves))],oB 2 79 [.d (.i 0),.d (.b false),.d (.s []),.d (.i 0),.nil],oR 6 136 6 (bR (k.halves.take (i)))]) ?_ ?_))))))))))))
 · refine wq (σ':=[tP 1 1,tP 2 2,tO 3 6 (k.halves.take (0)).length,tI 4 (0:Nat),oB 1 79 [.d (.i (k).id),.d (.b (k).up),.d (.s (k).log),.d (.i (k).forced),.d (.sl (bR (k).halves))],oB 2 79 [.d (.i 0),.d (.b false),.d (.s []),.d (.i 0),.nil],oR 6 136 6 (bR (k.halves.take (0)))]) [] [] (⟨0,rfl,aVa _,rfl⟩) ?_
   repeat' apply ai
   all_goals first|exact qx|rfl|exact qz
 rintro n s ⟨i,rfl,hi,rfl⟩
 refine sq (sq (rT [1,2,3,4,11] (s5 (cd rfl (fun c11=> ?_) fun c11=> ?_))))
 · have hi2:i<k.halves.length:=by simpa[aP] using c11
   have hg:=iW (l:=k.halves) hi2
   have hmem:k.halves.getD i .zero∈k.halves:=cW hi2
   refine sk (sq (bk (sq (rT [1,2,3,4,5] (s3 (ai (by rw[aU4,hg];exact⟨⟨by omega,by rw[aP];omega⟩,rfl⟩) (ai (by rw[aU4,hg];exact⟨aU6 rfl,rfl⟩) (s2 (sq (wa [tP 1 1,tP 2 2,tO 3 6 (k.halves.take i).length,tI 4 (i:Nat),tP 5 5,oB 1 79 [.d (.i (k).id),.d (.b (k).up),.d (.s (k).log),.d (.i (k).forced),.d (.sl (bR (k).halves))],oB 2 79 [.d (.i 0),.d (.b false),.d (.s []),.d (.i 0),.nil],oB 5 136 [.d (.i (k.halves.getD i .zero).frm),.d (.i (k.halves.getD i .zero).num),.d (.i (k.halves.getD i .zero).to),.d (.i (k.halves.getD i .zero).til),.d (.i (k.halves.getD i .zero).size),.d (.sl (dU (k.halves.getD i .zero).got))],oR 6 136 6 (bR (k.halves.take i))] [] [] ?_ ?_))))))))))
   · repeat' apply ai
     all_goals first|exact qx|(rw[aU4,hg];rfl)|exact qz
   refine rT [1,2,3,4,5] (ai (by simp) (s2 (ai (by refine⟨trivial,rfl,?_,?_⟩<;>first|exact yV _|(simp only[bS,aU8,Nat.zero_add];have:=hb.2 _ hmem;show _*24≤_;omega)) (s2 (wa [tP 1 1,tP 2 2,tO 3 6 (k.halves.take i).length,tI 4 (i:Nat),tP 5 5,oB 1 79 [.d (.i (k).id),.d (.b (k).up),.d (.s (k).log),.d (.i (k).forced),.d (.sl (bR (k).halves))],oB 2 79 [.d (.i 0),.d (.b false),.d (.s []),.d (.i 0),.nil],oB 5 136 [.d (.i (k.halves.getD i .zero).frm),.d (.i (k.halves.getD i .zero).num),.d (.i (k.halves.getD i .zero).to),.d (.i (k.halves.getD i .zero).til),.d (.i (k.halves.getD i .zero).size),.d (.sl (dU (k.halves.getD i .zero).got))],oR 6 136 6 (bR (k.halves.take i))] [] [19] ?_ ?_)))))
   · repeat' apply ai
     all_goals first|exact qx|(simp[bS];done)|rfl|exact qz
   refine rT [1,2,3,4] (s2 (ai (by exact⟨by simp,aU6 rfl⟩) (ai (by exact⟨rfl,aP _,by intro r hr;rw[aVn.1 hr];rfl,by simp only[aU5,aU9,aU8,aP,aVc];show _*64≤_;omega⟩) (s1 (rT [1,2,3,4] (s3 ?_))))))
   have hts:=fQ (z:=eI.zero) hi2
   refine wq [] [] (⟨k.halves.length - (i+1),by omega,i+1,rfl,by omega,rfl⟩) ?_
   repeat' apply ai
   all_goals first|exact qx|exact congrArg D.i (by rw[aE (by omega)];omega)|(rw[hts,aU5];rfl)|(rw[hts];simp only[bR,List.map_append,List.map_cons,List.map_nil];rfl)|(rw[aP];done)|(simp[aP];done)|(simp[aP,aVc];omega)|exact qz
 have hi3:i=k.halves.length:=by simp[aP] at c11;omega
 subst hi3
 refine xt (sq (rT [1,2] (s3 (sq (rT [2] (s2 (rt ?_)))))))
 rw[aVl]
 exact eN _ [(0,6)] [] rfl (dD rfl (aF rfl (aF rfl (aF rfl (aF rfl (bK rfl rfl rfl aH))))) (bW rfl rfl trivial)) rfl rfl
theorem gB (k:aS) (hb:k.halves.length≤100000∧ ∀x∈k.halves,x.got.length≤100000):Ab.Spec Tryz.prog 166 1 [(.t 0,.v k.V)] [(.t 0,.v k.V)]:=
 Spec.told (rl:=[]) (bor:=[0]) (we k hb) (dD rfl (aF rfl (aF rfl (aF rfl (aF rfl (dc rfl rfl (aP _) rfl aH))))) trivial) rfl rfl
set_option maxHeartbeats 3200000 in
theorem af (k:aL) (hk:KB k):Sp 28 1 [tV 0 k.V] [tD 0 (.sl (bO (jK k)))]:=by
 refine sb Tryz.func28 rfl (sq (rT [1] (s2 (sq (rT [1,3] (s2 (sq (sq (rT [1,3,11] (s1 (xp (jX k hk.1 hk.2.1 hk.2.2) (ai rfl ?_))))))))))))
 refine s1 (cd rfl (fun c11=> ?_) fun c11=> ?_)
 · have hno: ¬cO k=true:=by simpa using c11
   refine sq (rT [2] (s2 (rt (eN _ [] [8] rfl (gE rfl rfl rfl ?_ (congrArg D.sl ?_) trivial) rfl rfl))))
   · rfl
   rw[po hno];rfl
 have hok:cO k=true:=by simpa using c11
 have h6:=eL hok
 obtain⟨⟨_,ht,hn,_,_,_⟩,_⟩:=(bX k).1 hok
 have q1:=bZ (k:=6) (n:=k.time.toNat) (by simp;omega)
 have q2:=bZ (k:=6) (n:=k.next.toNat) (by simp;omega)
 have hnl:=aEx k
 refine sk (SW.midW (fun q=>q=[tP 1 1,tO 3 8 (br k).length,oB 1 26 [.d (.i k.id),.d (.i k.time),.d (.i k.next),.d (.sl (aD k.held)),.d (.sl (aJ k.marks)),.d (.sl (aD k.inbox))],oR 8 9 1 (bO (br k))]) ?_ ?_)
 · refine sq (rT [1,3,15] (s3 (cd rfl (fun c15=> ?_) fun c15=> ?_)))
   · have hq:=aLa (of_decide_eq_true c15)
     refine rT [1,3] (s3 (xp (kH k.time (by omega)) (ai rfl ?_)))
     refine ai (by show _≤9223372036854775807;(try simp only[aU5,aU9,aU8]);omega) (s1 (ai (by exact⟨rfl,rfl,by simp,by show(0+1)*16≤_;omega⟩) (s1 (wq [] [] (rfl) ?_))))
     repeat' apply ai
     all_goals first|exact qx|exact congrArg D.i (by rw[aE (by omega)];omega)|(rw[hq];done)|(rw[hq];rfl)|(rw[hq,aU5];rfl)|(rw[hq,aU5];done)|(rw[hq];simp[aW];done)|(rw[hq];exact jN _ _)|(rw[aW];done)|(simp[aW];done)|exact qz
   have hq:=aNx (of_decide_eq_false c15)
   refine sk (wq [] [] (rfl) ?_)
   repeat' apply ai
   all_goals first|exact qx|exact congrArg D.i (by rw[aE (by omega)];omega)|(rw[hq];done)|(rw[hq];rfl)|(rw[hq,aU5];rfl)|(rw[hq,aU5];done)|(rw[hq];simp[aW];done)|(rw[hq];exact jN _ _)|(rw[aW];done)|(simp[aW];done)|exact qz
 rintro s rfl
 refine SW.midW (fun q=>q=[tP 1 1,tO 3 8 (bs k).length,oB 1 26 [.d (.i k.id),.d (.i k.time),.d (.i k.next),.d (.sl (aD k.held)),.d (.sl (aJ k.marks)),.d (.sl (aD k.inbox))],oR 8 9 1 (bO (bs k))]) ?_ ?_
 · refine sq (rT [1,3,25] (s3 (cd rfl (fun c25=> ?_) fun c25=> ?_)))
   · have hq:=aLb (of_decide_eq_true c25)
     have hnl2: (br k).length≤1:=by unfold br;split<;>simp
     refine rT [1,3] (s3 (xp (kH k.next (by omega)) (ai rfl ?_)))
     refine ai (by show _≤9223372036854775807;(try simp only[aU5,aU9,aU8]);omega) (s1 (ai (by refine⟨rfl,aW _,by simp,?_⟩;skip;show(_+1)*16≤_;omega) (s1 (wq [] [] (rfl) ?_))))
     repeat' apply ai
     all_goals first|exact qx|exact congrArg D.i (by rw[aE (by omega)];omega)|(rw[hq];done)|(rw[hq];rfl)|(rw[hq,aU5];rfl)|(rw[hq,aU5];done)|(rw[hq];simp[aW];done)|(rw[hq];exact jN _ _)|(rw[aW];done)|(simp[aW];done)|exact qz
   have hq:=aNy (of_decide_eq_false c25)
   refine sk (wq [] [] (rfl) ?_)
   repeat' apply ai
   all_goals first|exact qx|exact congrArg D.i (by rw[aE (by omega)];omega)|(rw[hq];done)|(rw[hq];rfl)|(rw[hq,aU5];rfl)|(rw[hq,aU5];done)|(rw[hq];simp[aW];done)|(rw[hq];exact jN _ _)|(rw[aW];done)|(simp[aW];done)|exact qz
 rintro s rfl
 refine sq (sq (rT [1,3,4] (s1 (bk (SW.loopW (n:=k.marks.length) (fun m q=> ∃i:Nat,m=k.marks.length - i∧i≤k.marks.length∧q=[tP 1 1,tO 3 8 (tJ k (i)).length,tI 4 (i:Nat),oB 1 26 [.d (.i k.id),.d (.i k.time),.d (.i k.next),.d (.sl (aD k.held)),.d (.sl (aJ k.marks)),.d (.sl (aD k.inbox))],oR 8 9 1 (bO (tJ k (i)))]) ?_ ?_)))))
 · refine wq (σ':=[tP 1 1,tO 3 8 (tJ k (0)).length,tI 4 (0:Nat),oB 1 26 [.d (.i k.id),.d (.i k.time),.d (.i k.next),.d (.sl (aD k.held)),.d (.sl (aJ k.marks)),.d (.sl (aD k.inbox))],oR 8 9 1 (bO (tJ k (0)))]) [] [] (⟨0,rfl,aVa _,rfl⟩) ?_
   repeat' apply ai
   all_goals first|exact qx|rfl|(rw[aHv];done)|(rw[aB];done)|(rw[aA];done)|exact qz
 rintro n s ⟨i,rfl,hi,rfl⟩
 refine sq (sq (rT [1,3,4,37] (s5 (cd rfl (fun c37=> ?_) fun c37=> ?_))))
 · have hi2:i<k.marks.length:=by simp[aB] at c37;omega
   have hg:=bM (l:=k.marks) hi2
   have hms:=aH1 hok hi2
   have hml:=aEy k i
   have w1:=bZ (k:=6) (n:=(k.marks.getD i .zero).frm.toNat) (by show _<10000000;omega)
   have w2:=bZ (k:=6) (n:=(k.marks.getD i .zero).num.toNat) (by show _<10000000;omega)
   have w3:=bZ (k:=6) (n:=(k.marks.getD i .zero).til.toNat) (by show _<10000000;omega)
   refine sk (sq (bk (sq (rT [1,3,4,5] (s3 (ai (by rw[aU4,hg];exact⟨⟨by omega,by rw[aB];omega⟩,rfl⟩) (ai (by rw[aU4,hg];exact⟨aU6 rfl,rfl⟩) (s2 (wa [tP 1 1,tO 3 8 (tJ k i).length,tI 4 (i:Nat),tP 5 5,oB 1 26 [.d (.i k.id),.d (.i k.time),.d (.i k.next),.d (.sl (aD k.held)),.d (.sl (aJ k.marks)),.d (.sl (aD k.inbox))],oB 5 39 [.d (.i ((k.marks.getD i .zero)).frm),.d (.i ((k.marks.getD i .zero)).num),.d (.i ((k.marks.getD i .zero)).til)],oR 8 9 1 (bO (tJ k i))] [] [] ?_ ?_)))))))))
   · repeat' apply ai
     all_goals first|exact qx|(rw[aU4,hg];rfl)|exact qz
   refine rD [1,3,4] (s3 (xp (kH (k.marks.getD i .zero).frm (by omega)) (ai rfl ?_)))
   refine ai (by show _≤9223372036854775807;(try simp only[aU5,aU9,aU8]);omega) (ai (by show _≤9223372036854775807;(try simp only[aU5,aU9,aU8]);omega) (s2 (xp (kH (k.marks.getD i .zero).num (by omega)) (ai rfl ?_))))
   refine ai (by show _≤9223372036854775807;(try simp only[aU5,aU9,aU8]);omega) (ai (by show _≤9223372036854775807;(try simp only[aU5,aU9,aU8]);omega) (s2 (xp (kH (k.marks.getD i .zero).til (by omega)) (ai rfl ?_))))
   refine ai (by show _≤9223372036854775807;(try simp only[aU5,aU9,aU8]);omega) (s1 (ai (by refine⟨rfl,aW _,by simp,?_⟩;skip;show(_+1)*16≤_;omega) (s1 (ai (by kernel_rfl) (rT [1,3,4] (s3 ?_))))))
   have hq:=aHy hi2
   refine wq [] [] (⟨k.marks.length - (i+1),by omega,i+1,rfl,by omega,rfl⟩) ?_
   repeat' apply ai
   all_goals first|exact qx|exact congrArg D.i (by rw[aE (by omega)];omega)|(rw[hq];done)|(rw[hq];rfl)|(rw[hq,aU5];rfl)|(rw[hq,aU5];done)|(rw[hq];simp[aW];done)|(rw[hq];exact jN _ _)|(rw[aW];done)|(simp[aW];done)|exact qz
 have hi3:i=k.marks.length:=by simp[aB] at c37;omega
 subst hi3
 clear hi
 refine xt (sq (sq (rT [1,3,6] (s1 (bk (SW.loopW (n:=k.held.length) (fun m q=> ∃i:Nat,m=k.held.length - i∧i≤k.held.length∧q=[tP 1 1,tO 3 8 (vX k (i)).length,tI 6 (i:Nat),oB 1 26 [.d (.i k.id),.d (.i k.time),.d (.i k.next),.d (.sl (aD k.held)),.d (.sl (aJ k.marks)),.d (.sl (aD k.inbox))],oR 8 9 1 (bO (vX k (i)))]) ?_ ?_))))))
 · refine wq (σ':=[tP 1 1,tO 3 8 (vX k (0)).length,tI 6 (0:Nat),oB 1 26 [.d (.i k.id),.d (.i k.time),.d (.i k.next),.d (.sl (aD k.held)),.d (.sl (aJ k.marks)),.d (.sl (aD k.inbox))],oR 8 9 1 (bO (vX k (0)))]) [] [] (⟨0,rfl,aVa _,rfl⟩) ?_
   repeat' apply ai
   all_goals first|exact qx|rfl|(rw[aHw];done)|(rw[aB];done)|(rw[aA];done)|exact qz
 rintro n s ⟨i,rfl,hi,rfl⟩
 refine sq (sq (rT [1,3,6,66] (s5 (cd rfl (fun c66=> ?_) fun c66=> ?_))))
 · have hi2:i<k.held.length:=by simp[aA] at c66;omega
   have hg:=aQ (l:=k.held) hi2
   have hmem: (k.held.getD i .zero)∈k.held:=cW hi2
   have hnt:=hk.2.1 _ hmem
   have hwl:=iS (k.held.getD i .zero)
   have hml:=aEz k i
   refine sk (sq (bk (rT [1,3,6] (s4 (ai (by rw[aU4,hg];exact⟨⟨by omega,by rw[aA];omega⟩,rfl⟩) (ai (by rw[aU4,hg];exact⟨aU6 rfl,rfl⟩) (xp (fH (k.held.getD i .zero) hnt) (ai (by rw[aU4,hg];rfl) ?_))))))))
   refine ai (by show _≤9223372036854775807;(try simp only[aU5,aU9,aU8]);omega) (s1 (ai (by refine⟨rfl,aW _,by simp,?_⟩;skip;show(_+1)*16≤_;omega) (s1 (rT [1,3,6] (s3 ?_)))))
   have hq:=aHz hi2
   refine wq [] [] (⟨k.held.length - (i+1),by omega,i+1,rfl,by omega,rfl⟩) ?_
   repeat' apply ai
   all_goals first|exact qx|exact congrArg D.i (by rw[aE (by omega)];omega)|(rw[hq];done)|(rw[hq];rfl)|(rw[hq,aU5];rfl)|(rw[hq,aU5];done)|(rw[hq];simp[aW];done)|(rw[hq];exact jN _ _)|(rw[aW];done)|(simp[aW];done)|exact qz
 have hi3:i=k.held.length:=by simp[aA] at c66;omega
 subst hi3
 clear hi
 refine xt (sq (sq (rT [1,3,7] (s1 (bk (SW.loopW (n:=k.inbox.length) (fun m q=> ∃i:Nat,m=k.inbox.length - i∧i≤k.inbox.length∧q=[tP 1 1,tO 3 8 (vY k (i)).length,tI 7 (i:Nat),oB 1 26 [.d (.i k.id),.d (.i k.time),.d (.i k.next),.d (.sl (aD k.held)),.d (.sl (aJ k.marks)),.d (.sl (aD k.inbox))],oR 8 9 1 (bO (vY k (i)))]) ?_ ?_))))))
 · refine wq (σ':=[tP 1 1,tO 3 8 (vY k (0)).length,tI 7 (0:Nat),oB 1 26 [.d (.i k.id),.d (.i k.time),.d (.i k.next),.d (.sl (aD k.held)),.d (.sl (aJ k.marks)),.d (.sl (aD k.inbox))],oR 8 9 1 (bO (vY k (0)))]) [] [] (⟨0,rfl,aVa _,rfl⟩) ?_
   repeat' apply ai
   all_goals first|exact qx|rfl|(rw[aHx];done)|(rw[aB];done)|(rw[aA];done)|exact qz
 rintro n s ⟨i,rfl,hi,rfl⟩
 refine sq (sq (rT [1,3,7,83] (s5 (cd rfl (fun c83=> ?_) fun c83=> ?_))))
 · have hi2:i<k.inbox.length:=by simp[aA] at c83;omega
   have hg:=aQ (l:=k.inbox) hi2
   have hmem: (k.inbox.getD i .zero)∈k.inbox:=cW hi2
   have hnt:=hk.2.2 _ hmem
   have hwl:=iS (k.inbox.getD i .zero)
   have hml:=aE0 k i
   refine sk (sq (bk (rT [1,3,7] (s4 (ai (by rw[aU4,hg];exact⟨⟨by omega,by rw[aA];omega⟩,rfl⟩) (ai (by rw[aU4,hg];exact⟨aU6 rfl,rfl⟩) (xp (fH (k.inbox.getD i .zero) hnt) (ai (by rw[aU4,hg];rfl) ?_))))))))
   refine ai (by show _≤9223372036854775807;(try simp only[aU5,aU9,aU8]);omega) (s1 (ai (by refine⟨rfl,aW _,by simp,?_⟩;skip;show(_+1)*16≤_;omega) (s1 (rT [1,3,7] (s3 ?_)))))
   have hq:=aH0 hi2
   refine wq [] [] (⟨k.inbox.length - (i+1),by omega,i+1,rfl,by omega,rfl⟩) ?_
   repeat' apply ai
   all_goals first|exact qx|exact congrArg D.i (by rw[aE (by omega)];omega)|(rw[hq];done)|(rw[hq];rfl)|(rw[hq,aU5];rfl)|(rw[hq,aU5];done)|(rw[hq];simp[aW];done)|(rw[hq];exact jN _ _)|(rw[aW];done)|(simp[aW];done)|exact qz
 have hi3:i=k.inbox.length:=by simp[aA] at c83;omega
 subst hi3
 clear hi
 refine xt (sq (rT [2] (s2 (rt (eN _ [] [8] rfl (gE rfl rfl rfl ?_ (congrArg D.sl ?_) trivial) rfl rfl)))))
 · exact aW _
 rw[kg hok]
set_option maxHeartbeats 1600000 in
theorem mN (k:aS) (rec:List UInt8) (fc:Bool) (hok:bG k=true) (hrec:rec.length≤900000):Sp 169 3 [tV 0 k.V,tD 1 (.s rec),tB 2 fc] [tV 0 (.tup [.agg [.d (.i ((fU k rec fc).1).id),.d (.b ((fU k rec fc).1).up),.d (.s ((fU k rec fc).1).log),.d (.i ((fU k rec fc).1).forced),.d (.sl (bR ((fU k rec fc).1).halves))],.c (.d (.b (fU k rec fc).2))])]:=by
 have hlg:=gL hok
 have hkb:=vD hok
 have hrs:=bu (k:=(bC k).1)
 have hsk:fL k.log k.forced=true:=(hZ hlg.1).2.1
 have hpl:=ut (k:=k) (by omega)
 refine sb Tryz.func169 rfl (sq (rT [1,2,3,6] (s3 (sq (rT [1,2,3,6,8] (s1 (xp (gX k (by omega)) (ai rfl ?_))))))))
 refine s6 (sq (rT [1,2,3,6,8,11] (s2 (xp (fg (bC k).1 rec hkb hrec) (ai rfl ?_)))))
 refine s6 (sq (sq (rT [1,2,3,6,8,26] (s2 (cd rfl (fun c26=> ?_) fun c26=> ?_)))))
 · have h1: ¬(aO (bC k).1 rec).2=true:=by rw[← dq];exact sT c26
   refine sq (rT [6,7] (s3 (rt ?_)))
   have hr:fU k rec fc=(k,false):=by rw[fU,aJd h1];rfl
   refine bP rfl rfl ?_
   rw[hr]
   rfl
 have h1: (aO (bC k).1 rec).2=true:=by rw[← dq];exact kG c26
 refine sk (sq (rT [1,2,3,6,8,12,13] (s3 (xp (ab k.log k.forced rec (by omega) hrec) (ai rfl ?_)))))
 refine s6 (sq (sq (rT [1,2,3,6,8,12,13,36] (s2 (cd rfl (fun c36=> ?_) fun c36=> ?_)))))
 · have h2: ¬(cD k.log k.forced rec).2=true:=sT c36
   refine sq (rD [1,2,3,6,12] (s3 (xp (af (bC k).1 hkb) (ai rfl ?_))))
   refine xp (xP k.log k.forced (jK (bC k).1) (by omega) (by omega) (fun r hr=>by have:=hrs.2 r hr;omega)) (ai rfl ?_)
   refine s4 (ai (by kernel_rfl) (rT [2,3,6,12,13] (s2 (xp (ab (dO k).1.1 (dO k).1.2 rec hpl hrec) (ai rfl ?_)))))
   refine s5 (sq (sq (rT [2,3,6,12,52] (s2 (cd rfl (fun c52=> ?_) fun c52=> ?_)))))
   · refine sq (rT [6,7] (s3 (rt ?_)))
     first
     |exact absurd (c36.symm.trans c52) (by decide)
     |(have hr:=(show fU k rec fc=(k,false) by rw[fU,uu hsk h1 h2 (sT c52)];rfl)
       refine bP rfl rfl ?_
       rw[hr]
       rfl)
   refine sk (sq (sq (rT [3,6,12,54] (s1 (cd rfl (fun c54=> ?_) fun c54=> ?_)))))
   · obtain rfl:=c54
     refine rT [3,6,12] (s1 ?_)
     first
     |refine iu (jH (cD (dO k).1.1 (dO k).1.2 rec).1.1 (cD (dO k).1.1 (dO k).1.2 rec).1.2 (nZ hpl)) rfl rfl rfl rfl rfl rfl rfl rfl ?_
     |refine iu (jH (cD k.log k.forced rec).1.1 (cD k.log k.forced rec).1.2 (nZ (by omega))) rfl rfl rfl rfl rfl rfl rfl rfl ?_
     refine s1 (sq (rT [3,6] (s3 (sq (rT [6,7] (s3 (rt ?_)))))))
     have hlr:pL k rec=(lY k (cD (dO k).1.1 (dO k).1.2 rec).1,true)∨pL k rec=(lY k (cD k.log k.forced rec).1,true):=by
      first
      |exact .inl (nM hsk h1 h2 (kG c52))
      |exact .inr (sS h1 h2)
     first
     |(have hr:=nM hsk h1 h2 (kG c52)
       refine bP rfl rfl ?_
       rw[fU,hr]
       rfl)
     |(have hr:=sS h1 h2
       refine bP rfl rfl ?_
       rw[fU,hr]
       rfl)
   obtain rfl:=c54
   refine sk (sq (rT [3,6] (s3 (sq (rT [6,7] (s3 (rt ?_)))))))
   have hlr:pL k rec=(lY k (cD (dO k).1.1 (dO k).1.2 rec).1,true)∨pL k rec=(lY k (cD k.log k.forced rec).1,true):=by
    first
    |exact .inl (nM hsk h1 h2 (kG c52))
    |exact .inr (sS h1 h2)
   first
   |(have hr:=nM hsk h1 h2 (kG c52)
     refine bP rfl rfl ?_
     rw[fU,hr]
     rfl)
   |(have hr:=sS h1 h2
     refine bP rfl rfl ?_
     rw[fU,hr]
     rfl)
 have h2: (cD k.log k.forced rec).2=true:=kG c36
 refine sk (sq (sq (rT [2,3,6,12,52] (s2 (cd rfl (fun c52=> ?_) fun c52=> ?_)))))
 · refine sq (rT [6,7] (s3 (rt ?_)))
   first
   |exact absurd (c36.symm.trans c52) (by decide)
   |(have hr:=(show fU k rec fc=(k,false) by rw[fU,uu hsk h1 h2 (sT c52)];rfl)
     refine bP rfl rfl ?_
     rw[hr]
     rfl)
 refine sk (sq (sq (rT [3,6,12,54] (s1 (cd rfl (fun c54=> ?_) fun c54=> ?_)))))
 · obtain rfl:=c54
   refine rT [3,6,12] (s1 ?_)
   first
   |refine iu (jH (cD (dO k).1.1 (dO k).1.2 rec).1.1 (cD (dO k).1.1 (dO k).1.2 rec).1.2 (nZ hpl)) rfl rfl rfl rfl rfl rfl rfl rfl ?_
   |refine iu (jH (cD k.log k.forced rec).1.1 (cD k.log k.forced rec).1.2 (nZ (by omega))) rfl rfl rfl rfl rfl rfl rfl rfl ?_
   refine s1 (sq (rT [3,6] (s3 (sq (rT [6,7] (s3 (rt ?_)))))))
   have hlr:pL k rec=(lY k (cD (dO k).1.1 (dO k).1.2 rec).1,true)∨pL k rec=(lY k (cD k.log k.forced rec).1,true):=by
    first
    |exact .inl (nM hsk h1 h2 (kG c52))
    |exact .inr (sS h1 h2)
   first
   |(have hr:=nM hsk h1 h2 (kG c52)
     refine bP rfl rfl ?_
     rw[fU,hr]
     rfl)
   |(have hr:=sS h1 h2
     refine bP rfl rfl ?_
     rw[fU,hr]
     rfl)
 obtain rfl:=c54
 refine sk (sq (rT [3,6] (s3 (sq (rT [6,7] (s3 (rt ?_)))))))
 have hlr:pL k rec=(lY k (cD (dO k).1.1 (dO k).1.2 rec).1,true)∨pL k rec=(lY k (cD k.log k.forced rec).1,true):=by
  first
  |exact .inl (nM hsk h1 h2 (kG c52))
  |exact .inr (sS h1 h2)
 first
 |(have hr:=nM hsk h1 h2 (kG c52)
   refine bP rfl rfl ?_
   rw[fU,hr]
   rfl)
 |(have hr:=sS h1 h2
   refine bP rfl rfl ?_
   rw[fU,hr]
   rfl)
set_option maxHeartbeats 1600000 in
theorem kx (k:aS) (hl:k.log.length≤140737488355328):Sp 158 1 [tV 0 k.V] [tV 0 (.tup [.agg [.d (.i ((eM k).1).id),.d (.b ((eM k).1).up),.d (.s ((eM k).1).log),.d (.i ((eM k).1).forced),.d (.sl (bR ((eM k).1).halves))],.c (.d (.b (eM k).2))])]:=by
 refine sb Tryz.func158 rfl (sq (rT [1,2,19,20,21] (s3 (sq (sq (rT [1,2,8,19,20,21] (s1 (xp (gH k hl) (ai rfl ?_)))))))))
 refine s1 (cd rfl (fun c8=> ?_) fun c8=> ?_)
 · have hno: ¬bG k=true:=sT c8
   refine sq (rT [2,3] (s3 (rt ?_)))
   have hr:eM k=(.zero,false):=uw hno
   rw[hr]
   exact rq [] [] rfl qz
 have hok:bG k=true:=kG c8
 have hlg:=gL hok
 have hK:=lE hok
 have h6:=eL (iA hok)
 have hkb:=vD hok
 have hsk:fL k.log k.forced=true:=(hZ hlg.1).2.1
 obtain⟨⟨_,htm,hnx,_⟩,_⟩:=(bX _).1 (iA hok)
 have hrl:=pq (n:=((bC k).1.time+1).toNat) (by omega)
 have hdl:=bZ (k:=6) (n:=((bC k).1.time+1).toNat) (by show _<10000000;omega)
 have hw:wrap64 ((bC k).1.time+1)=(bC k).1.time+1:=aE (by omega)
 refine sk (sq (rT [1,2,4,19,20,21] (s1 (xp (gX k (by omega)) (ai rfl ?_)))))
 refine s6 (sq (sq (rT [1,2,4,22] (s4 (y3 (ai pk (cd rfl (fun c22=> ?_) fun c22=> ?_)))))))
 · have hr0:eM k=(k,false):=by
    by_cases hu:k.up=true
    · rw[hu] at c22
      exact qg hok (of_decide_eq_true (by simpa using c22))
    · exact zU hok hu
   refine sq (rT [2,3] (s1 (xp (gB k (⟨by omega,fun x hx=>by have:=hlg.2.2.2.2.2 x hx;omega⟩)) (ai rfl ?_))))
   refine s2 (rt ?_)
   have hr:=hr0
   refine bP rfl rfl ?_
   rw[hr]<;>rfl
 have hu:k.up=true:=by
  cases hq:k.up with
  |true=>rfl
  |false=>rw[hq] at c22;cases c22
 refine sk (sq (rD [2,3] (s1 (xp (gB k (⟨by omega,fun x hx=>by have:=hlg.2.2.2.2.2 x hx;omega⟩)) (ai rfl ?_)))))
 refine s3 (xp (kH ((bC k).1.time+1) (by omega)) (ai (by rw[hw];rfl) ?_))
 refine ai (by show _≤9223372036854775807;(try simp only[aU5,aU9,aU8]);omega) (xp (mN k (jS ((bC k).1.time+1).toNat) true hok (by omega)) (ai rfl ?_))
 refine s4 (ai (by kernel_rfl) (rt ?_))
 have hr:=er hok hu
 refine bP rfl rfl ?_
 rw[hr]<;>rfl
set_option maxHeartbeats 1600000 in
theorem nr (k:aS) (tu til:Int) (tx:List UInt8) (hl:k.log.length≤140737488355328) (htx:tx.length≤140737488355328):Sp 170 4 [tV 0 k.V,tI 1 tu,tI 2 til,tD 3 (.s tx)] [tV 0 (.tup [.agg [.d (.i ((eE k tu til tx).1).id),.d (.b ((eE k tu til tx).1).up),.d (.s ((eE k tu til tx).1).log),.d (.i ((eE k tu til tx).1).forced),.d (.sl (bR ((eE k tu til tx).1).halves))],.c (.d (.i (eE k tu til tx).2))])]:=by
 refine sb Tryz.func170 rfl (sq (rT [1,2,3,4,8,37,38] (s3 (sq (sq (rT [1,2,3,4,8,17,37,38] (s1 (xp (gH k hl) (ai rfl ?_)))))))))
 refine s1 (cd rfl (fun c17=> ?_) fun c17=> ?_)
 · have hno: ¬bG k=true:=sT c17
   refine sq (rT [8,9] (s3 (rt ?_)))
   have hr:eE k tu til tx=(.zero,0):=xx hno
   rw[hr]
   exact rq [] [] rfl qz
 have hok:bG k=true:=kG c17
 have hlg:=gL hok
 have hK:=lE hok
 have h6:=eL (iA hok)
 have hkb:=vD hok
 have hsk:fL k.log k.forced=true:=(hZ hlg.1).2.1
 obtain⟨⟨_,htm,hnx,_⟩,_⟩:=(bX _).1 (iA hok)
 have hnl:=iS (oQ k tu til tx)
 have hrl:=vZ fS (oQ k tu til tx)
 have hwo:fS.length=3:=rfl
 refine sk (sq (rT [1,2,3,4,8,10,37,38] (s1 (xp (gX k (by omega)) (ai rfl ?_)))))
 refine s6 (sq (rT [4,8,10,12,37,38] (s8 (xp (fH (oQ k tu til tx) htx) (ai rfl ?_)))))
 refine s1 (sq (sq (rT [4,8,10,12,39] (s4 (y2 (ai pk (cd rfl (fun c39=> ?_) fun c39=> ?_)))))))
 · have hr0:eE k tu til tx=(k,0):=by
    by_cases hu:k.up=true
    · rw[hu] at c39
      exact uy hok (by simpa using c39)
    · exact ux hok hu
   refine sq (rT [8,9] (s1 (xp (gB k (⟨by omega,fun x hx=>by have:=hlg.2.2.2.2.2 x hx;omega⟩)) (ai rfl ?_))))
   refine s2 (rt ?_)
   have hr:=hr0
   refine bP rfl rfl ?_
   rw[hr]<;>rfl
 have hu:k.up=true:=by
  cases hq:k.up with
  |true=>rfl
  |false=>rw[hq] at c39;cases c39
 refine sk (sq (rT [4,8,10,13,14] (s1 (xp (gB k (⟨by omega,fun x hx=>by have:=hlg.2.2.2.2.2 x hx;omega⟩)) (ai rfl ?_)))))
 refine s1 (ai (by show _≤9223372036854775807;(try simp only[aU5,aU9,aU8]);omega) (xp (mN k (cI fS (oQ k tu til tx)) true hok (by omega)) (ai rfl ?_)))
 refine s6 (sq (sq (rT [4,8,10,13,51] (s2 (cd rfl (fun c51=> ?_) fun c51=> ?_)))))
 · have hq: ¬(jT k (cI fS (oQ k tu til tx))).2=true:=sT c51
   have hr0:eE k tu til tx=_:=ki hok hq
   refine sq (rT [8,9] (s1 (xp (gB k (⟨by omega,fun x hx=>by have:=hlg.2.2.2.2.2 x hx;omega⟩)) (ai rfl ?_))))
   refine s2 (rt ?_)
   have hr:=hr0
   refine bP rfl rfl ?_
   rw[hr]<;>rfl
 have hq: (jT k (cI fS (oQ k tu til tx))).2=true:=kG c51
 refine sk (sq (rD [8,9] (s5 (ai (by kernel_rfl) (rt ?_)))))
 have hr:=aCa hok hu hq
 refine bP rfl rfl ?_
 rw[hr]<;>rfl
set_option maxHeartbeats 1600000 in
theorem nt (k:aS) (f n:Int) (hl:k.log.length≤140737488355328):Sp 162 3 [tV 0 k.V,tI 1 f,tI 2 n] [tV 0 (.tup [.agg [.d (.i ((cL k f n).1).id),.d (.b ((cL k f n).1).up),.d (.s ((cL k f n).1).log),.d (.i ((cL k f n).1).forced),.d (.sl (bR ((cL k f n).1).halves))],.agg [.d (.i ((cL k f n).2.1).frm),.d (.i ((cL k f n).2.1).num),.d (.i ((cL k f n).2.1).to),.d (.i ((cL k f n).2.1).til),.d (.s ((cL k f n).2.1).text)],.c (.d (.b (cL k f n).2.2))])]:=by
 refine sb Tryz.func162 rfl (sq (rT [1,2,3,6,7,33,34] (s4 (sq (sq (rT [1,2,3,6,7,16,33,34] (s1 (xp (gH k hl) (ai rfl ?_)))))))))
 refine s1 (cd rfl (fun c16=> ?_) fun c16=> ?_)
 · have hno: ¬bG k=true:=sT c16
   refine sq (rT [6,7,8] (s5 (rt ?_)))
   have hr:cL k f n=(.zero,.zero,false):=xy hno
   rw[hr]
   exact rq [] [] rfl qz
 have hok:bG k=true:=kG c16
 have hlg:=gL hok
 have hK:=lE hok
 have h6:=eL (iA hok)
 have hkb:=vD hok
 have hsk:fL k.log k.forced=true:=(hZ hlg.1).2.1
 obtain⟨⟨_,htm,hnx,_⟩,_⟩:=(bX _).1 (iA hok)
 refine sk (sq (rT [1,2,3,6,7,9,33,34] (s1 (xp (gX k (by omega)) (ai rfl ?_)))))
 refine s6 (sq (rT [1,2,3,6,7,9,11,33,34] (s4 (xp (gA (bC k).1.inbox f n (by have:=h6.1;omega)) (ai rfl ?_)))))
 refine s1 (sq (sq (rT [1,2,3,6,7,9,11,35] (s4 (y2 (ai pk (cd rfl (fun c35=> ?_) fun c35=> ?_)))))))
 · have hcn: ¬(k.up=true∧0≤aX (bC k).1.inbox f n):=by
    rintro⟨hu,hp⟩
    rw[hu,decide_eq_false (show ¬aX (bC k).1.inbox f n<0 by omega)] at c35
    cases c35
   have hr0:=aCb hok hcn
   refine sq (rT [6,7,8] (s1 (xp (gB k (⟨by omega,fun x hx=>by have:=hlg.2.2.2.2.2 x hx;omega⟩)) (ai rfl ?_))))
   refine s4 (rt ?_)
   have hr:=hr0
   refine bP rfl rfl ?_
   rw[hr]<;>rfl
 have hcy:k.up=true∧0≤aX (bC k).1.inbox f n:=by
  have h9:=c35
  skip
  cases hu:k.up with
  |false=>rw[hu] at h9;cases h9
  |true=>
   rw[hu] at h9
   refine⟨rfl,?_⟩
   by_cases hp:aX (bC k).1.inbox f n<0
   · rw[decide_eq_true hp] at h9;cases h9
   · omega
 obtain⟨j,hj,hjl,hjb⟩:=vd hok hcy.2
 have hg:=aQ (l:=(bC k).1.inbox) hjl
 have her:zA k f n=iK lD ⟨f,n,((bC k).1.inbox.getD j .zero).til⟩:=by rw[zA,hj,aU4]
 have hrl:=bt (w:=lD) (m:=⟨f,n,((bC k).1.inbox.getD j .zero).til⟩) hjb
 have hwe:lD.length=3:=rfl
 have d1:=bZ (k:=6) (n:=f.toNat) (by show _<10000000;omega)
 have d2:=bZ (k:=6) (n:=n.toNat) (by show _<10000000;omega)
 have d3:=bZ (k:=6) (n:=((bC k).1.inbox.getD j .zero).til.toNat) (by show _<10000000;omega)
 refine sk (sq (rD [3,6,7,9,11,12,13] (s1 (xp (gB k (⟨by omega,fun x hx=>by have:=hlg.2.2.2.2.2 x hx;omega⟩)) (ai rfl ?_)))))
 refine s5 (ai (by rw[hj,aU4,hg];exact⟨⟨by omega,by rw[aA];omega⟩,rfl⟩) (s1 (ai (by rw[hj,aU4,hg];exact⟨aU6 rfl,rfl⟩) (xp (ae f n ((bC k).1.inbox.getD j .zero).til hjb) (ai (by rw[hj,aU4,hg];rfl) ?_)))))
 refine ai (by show _≤9223372036854775807;(try simp only[aU5,aU9,aU8]);omega) (xp (mN k (iK lD ⟨f,n,((bC k).1.inbox.getD j .zero).til⟩) true hok (by omega)) (ai rfl ?_))
 refine s6 (ai (by kernel_rfl) (sq (sq (rT [3,6,7,9,11,12,56] (s2 (cd rfl (fun c56=> ?_) fun c56=> ?_))))))
 · have hq: ¬(jT k (zA k f n)).2=true:=by rw[her];exact sT c56
   have hr0:=uz hok hcy hq
   refine sq (rT [6,7,8] (s1 (xp (gB k (⟨by omega,fun x hx=>by have:=hlg.2.2.2.2.2 x hx;omega⟩)) (ai rfl ?_))))
   refine s4 (rt ?_)
   have hr:=hr0
   refine bP rfl rfl ?_
   rw[hr]<;>rfl
 have hq: (jT k (zA k f n)).2=true:=by rw[her];exact kG c56
 have hr0:=aCc hok hcy hq
 rw[her,hj,aU4] at hr0
 refine sk (sq (rD [6,7,8] (s4 (ai (by rw[hj,aU4,hg];exact⟨⟨by omega,by rw[aA];omega⟩,rfl⟩) (ai (by rw[hj,aU4,hg];exact⟨aU6 rfl,rfl⟩) (s3 (ai (by kernel_rfl) (rt (bP rfl rfl ?_)))))))))
 rw[hr0,hj,aU4,hg]
 rfl
set_option maxHeartbeats 1600000 in
theorem ky (k:aS) (hl:k.log.length≤140737488355328):Sp 163 1 [tV 0 k.V] [tV 0 (.tup [.agg [.d (.i ((eG k).1).id),.d (.b ((eG k).1).up),.d (.s ((eG k).1).log),.d (.i ((eG k).1).forced),.d (.sl (bR ((eG k).1).halves))],.c (.d (.b (eG k).2))])]:=by
 refine sb Tryz.func163 rfl (sq (rT [1,2,32,33] (s3 (sq (sq (rT [1,2,11,32,33] (s1 (xp (gH k hl) (ai rfl ?_)))))))))
 refine s1 (cd rfl (fun c11=> ?_) fun c11=> ?_)
 · have hno: ¬bG k=true:=sT c11
   refine sq (rT [2,3] (s3 (rt ?_)))
   have hr:eG k=(.zero,false):=ve hno
   rw[hr]
   exact rq [] [] rfl qz
 have hok:bG k=true:=kG c11
 have hlg:=gL hok
 have hK:=lE hok
 have h6:=eL (iA hok)
 have hkb:=vD hok
 have hsk:fL k.log k.forced=true:=(hZ hlg.1).2.1
 obtain⟨⟨_,htm,hnx,_⟩,_⟩:=(bX _).1 (iA hok)
 have hrs:=bu (k:=(bC k).1)
 refine sk (sq (rT [1,2,4,32,33] (s1 (xp (gB k (⟨by omega,fun x hx=>by have:=hlg.2.2.2.2.2 x hx;omega⟩)) (ai rfl ?_)))))
 refine s2 (sq (rT [1,2,4,5,32,33] (s1 (xp (gX k (by omega)) (ai rfl ?_)))))
 refine s6 (sq (rD [1,2,4,7,8,32,33] (s3 (xp (af (bC k).1 hkb) (ai rfl ?_)))))
 refine xp (xP k.log k.forced (jK (bC k).1) (by omega) (by have:=hrs.1;omega) (fun r hr=>by have:=hrs.2 r hr;omega)) (ai rfl ?_)
 refine s6 (ai (by kernel_rfl) (sq (sq (rT [2,4,7,34] (s4 (y2 (ai pk (cd rfl (fun c34=> ?_) fun c34=> ?_))))))))
 · have hr0:eG k=(k,false):=by
    by_cases hu:k.up=true
    · rw[hu] at c34
      exact xz hok (sT c34)
    · exact qh hok hu
   refine sq (rT [2,3] (s3 (rt ?_)))
   have hr:=hr0
   refine bP rfl rfl ?_
   rw[hr]<;>rfl
 have hu:k.up=true:=by
  cases hq:k.up with
  |true=>rfl
  |false=>rw[hq] at c34;cases c34
 have hp: (dO k).2=true:=by
  rw[hu] at c34
  exact kG c34
 refine sk (sq (rT [2,4] (s3 (sq (rT [2,3] (s3 (rt ?_)))))))
 have hr:=ya hok hu hp
 refine bP rfl rfl ?_
 rw[hr]<;>rfl
set_option maxHeartbeats 1600000 in
theorem yp (b:Int) (m:hF) (kn:List (List UInt8)) (hk:ak b kn) (hm:m.data.length=4):Sp 193 3 [tI 0 b,tV 1 m.V,tD 2 (.sl (bO kn))] [tV 0 (.tup [.c (.own 0 (jA kn (cQ b m.num)).length),.c (.d (.s (qD kn m.data (cQ b m.num))))]),oR 0 3 1 (cY (jA kn (cQ b m.num)))]:=by
 refine sb Tryz.func193 rfl (sq (rT [0,2,4] (s3 (sq (rT [0,2,4,8] (s2 (sq (rT [0,2,4,8,9] (s3 (sq (rT [2,8,9,10] (s3 (xp (kv b m.num) (ai rfl ?_))))))))))))))
 refine s1 (sq (sq (rT [2,8,9,10,11] (s1 (bk (SW.loopW (n:=(cQ b m.num).length) (fun q s=> ∃i:Nat,q=(cQ b m.num).length - i∧i≤(cQ b m.num).length∧s=[tD 2 (.sl (bO kn)),tO 8 12 (jA kn ((cQ b m.num).take i)).length,tD 9 (.s (qD kn m.data ((cQ b m.num).take i))),tD 10 (.sl (cY (cQ b m.num))),tI 11 (i:Nat),oR 12 3 1 (cY (jA kn ((cQ b m.num).take i)))]) ?_ ?_))))))
 · refine wq (σ':=[tD 2 (.sl (bO kn)),tO 8 12 (jA kn ((cQ b m.num).take 0)).length,tD 9 (.s (qD kn m.data ((cQ b m.num).take 0))),tD 10 (.sl (cY (cQ b m.num))),tI 11 (0:Nat),oR 12 3 1 (cY (jA kn ((cQ b m.num).take 0)))]) [] [] (⟨0,rfl,aVa _,rfl⟩) ?_
   repeat' apply ai
   all_goals first|exact qx|rfl|exact qz
 rintro n s ⟨i,rfl,hi,rfl⟩
 refine sq (sq (rT [2,8,9,10,11,22] (s4 (cd rfl (fun c22=> ?_) fun c22=> ?_))))
 · have hi2:i< (cQ b m.num).length:=by simp[cF] at c22;omega
   have hml:=jx b m.num
   have hts:=fQ (z:=(0:Int)) hi2
   have hio:=dL (l:=(cQ b m.num)) (i:=i) hi2
   have hjr:=vV ((cQ b m.num).getD i 0) (cW hi2)
   have hkl:=hk.1
   have hj3: ((cQ b m.num).getD i 0)< (kn.length:Int):=by omega
   have hv:=aPo (l:=kn) hjr.1 hj3
   have hat:=hk.at (j:=((cQ b m.num).getD i 0).toNat) (by omega)
   refine sk (sq (bk (sq (rT [2,8,9,10,11,32] (s3 (ai (by rw[aU4,hio];exact⟨⟨by omega,by rw[cF];omega⟩,rfl⟩) (ai (by rw[aU4,hio];exact⟨aU6 rfl,rfl⟩) (ai (by rw[aU4,hio];exact ixS hjr.1 hj3) (ai (by rw[aU4,hio];exact ldS hjr.1 hj3) (s1 (cd rfl (fun c32=> ?_) fun c32=> ?_)))))))))))
   · have hu:unk kn ((cQ b m.num).getD i 0)=true:=by
      have h9:=c32
      rw[aU4,hio] at h9
      have h9: (toS (((bO kn).getD ((cQ b m.num).getD i 0).toNat []).getD 0 (.i 0))==[])=true:=h9
      rw[hv] at h9
      unfold unk;rw[beq_iff_eq.1 h9];rfl
     have hL:=vf (ks:=(cQ b m.num).take i) hu
     have hX:=aLi (x:=m.data) (ks:=(cQ b m.num).take i) hu
     refine rT [2,8,9,10,11] (s3 (ai (by rw[aU4,hio];exact⟨⟨by omega,by rw[cF];omega⟩,rfl⟩) (ai (by rw[aU4,hio];exact⟨aU6 rfl,rfl⟩) (s1 (ai (by refine⟨rfl,cF _,by simp,?_⟩;have h9: (jA kn ((cQ b m.num).take i)).length≤6:=Nat.le_trans (List.length_filter_le _ _) (by rw[aVc];omega);show(_+1)*8≤_;omega) (s1 (rT [2,8,9,10,11] (s3 (wq [] [] (⟨(cQ b m.num).length - (i+1),by omega,i+1,rfl,by omega,rfl⟩) ?_)))))))))
     repeat' apply ai
     all_goals first|exact qx|exact congrArg D.i (by rw[aE (by omega)];omega)|(rw[hts,hL,aU5];rfl)|(rw[hts,hL,aU4,hio];exact nU _ _)|(rw[hts,hL];done)|(rw[hts,hX];done)|(rw[hts,hL,aU5];done)|(simp[cF];done)|(rw[hts,hL];simp[cF];done)|exact qz
   have hne: ¬(kn.getD ((cQ b m.num).getD i 0).toNat [])=[]:=by
    have h9:=c32
    rw[aU4,hio] at h9
    have h9: (toS (((bO kn).getD ((cQ b m.num).getD i 0).toNat []).getD 0 (.i 0))==[])=false:=h9
    rw[hv] at h9
    exact beq_eq_false_iff_ne.1 h9
   have hu:unk kn ((cQ b m.num).getD i 0)=false:=by unfold unk;simpa using hne
   have h4: (kn.getD ((cQ b m.num).getD i 0).toNat []).length=4:=by rcases hat with h9|h9;exact absurd (List.eq_nil_of_length_eq_zero h9) hne;exact h9
   have hL:=yb (ks:=(cQ b m.num).take i) hu
   have hX:=aN0 (x:=m.data) (ks:=(cQ b m.num).take i) hu
   refine rT [2,8,9,10,11] (s4 (ai (by rw[aU4,hio];exact⟨⟨by omega,by rw[cF];omega⟩,rfl⟩) (ai (by rw[aU4,hio];exact⟨aU6 rfl,rfl⟩) (ai (by rw[aU4,hio];exact ixS hjr.1 hj3) (ai (by rw[aU4,hio];exact ldS hjr.1 hj3) (xp (kw (qD kn m.data ((cQ b m.num).take i)) (kn.getD ((cQ b m.num).getD i 0).toNat []) (zE hm) h4) (ai (by rw[aU4,hio];exact(congrArg (fun z=>eS 0 [Dv (.s (qD kn m.data ((cQ b m.num).take i))),Dv (.s z)]) hv).symm) ?_)))))))
   refine s1 (rT [2,8,9,10,11] (s3 (wq [] [] (⟨(cQ b m.num).length - (i+1),by omega,i+1,rfl,by omega,rfl⟩) ?_)))
   repeat' apply ai
   all_goals first|exact qx|exact congrArg D.i (by rw[aE (by omega)];omega)|(rw[hts,hL,aU5];rfl)|(rw[hts,hL,aU4,hio];exact nU _ _)|(rw[hts,hL];done)|(rw[hts,hX];done)|(rw[hts,hL,aU5];done)|(simp[cF];done)|(rw[hts,hL];simp[cF];done)|exact qz
 have hi3:i=(cQ b m.num).length:=by simp[cF] at c22;omega
 subst hi3
 refine xt (sq (rT [6,7] (s4 (rt ?_))))
 rw[aVl]
 exact eN _ [(0,12)] [] rfl ⟨⟨_,rfl,⟨rfl,rfl,_,_,_,rfl⟩,rfl,trivial⟩,bW rfl rfl trivial⟩ rfl rfl
theorem aP6 (kn:List (List UInt8)) (ks:List Int) (x:List UInt8):nB [tV 0 (.tup [.c (.own 0 (jA kn ks).length),.c (.d (.s (qD kn x ks)))]),oR 0 3 1 (cY (jA kn ks))]:=by
 intro p hp
 simp at hp
 rcases hp with rfl|rfl
 · first|trivial|(simp[nB];done)|(intro c hc;simp at hc;rcases hc with rfl|rfl<;>trivial)|exact⟨trivial,trivial,trivial⟩
 intro r hr d hd
 obtain⟨y,_,rfl⟩:=aVj.1 hr
 simp at hd;subst hd;trivial
set_option maxHeartbeats 3200000 in
theorem wg (b:Int) (l:List hF) (hl:l.length≤1000000):Sp 190 2 [tI 0 b,tD 1 (.sl (dU l))] [tD 0 (.sl (bO (eB b l)))]:=by
 refine sb Tryz.func190 rfl (sq (rT [0,1] (s1 (sq (sq (rT [0,1,12] (s1 (xp (dJ _ _ _) (ai rfl ?_)))))))))
 refine s1 (cd rfl (fun c12=> ?_) fun c12=> ?_)
 · have hno: ¬iB b 1 6=true:=by simpa using c12
   refine sq (rT [4] (s2 (rt (eN _ [] [13] rfl (gE rfl rfl rfl ?_ (congrArg D.sl ?_) trivial) rfl rfl))))
   · rfl
   rw[aH5 hno];rfl
 have hin:iB b 1 6=true:=by simpa using c12
 have hb:1≤b∧b≤6:=by simpa[iB] using hin
 have hst:=ak.start (b:=b) (by omega)
 refine sk (sq (rT [0,1,5] (s1 (ai (by refine⟨rfl,by omega,?_⟩;show((16:Nat):Int)*_≤_;omega) (s1 (sq (rT [0,1,5,6] (s1 (sq (bk (SW.loopW (n:=tU (List.replicate b.toNat ([]:List UInt8))+1) (fun q s=> ∃(kn:List (List UInt8)) (ag:Bool),q=(if ag then tU kn+1 else 0)∧ak b kn∧(ag=true→rN b l 7 kn=eB b l)∧(ag=false→kn=eB b l)∧s=[tI 0 b,tD 1 (.sl (dU l)),tO 5 15 b.toNat,tB 6 (ag),oR 15 9 1 (bO (kn))]) ?_ ?_)))))))))))
 · refine wq (σ':=[tI 0 b,tD 1 (.sl (dU l)),tO 5 15 b.toNat,tB 6 (true),oR 15 9 1 (bO (List.replicate b.toNat []))]) [] [] (⟨_,true,rfl,hst,fun _=>(if_pos hin).symm,fun h=>(by cases h),rfl⟩) ?_
   repeat' apply ai
   all_goals first|exact qx|rfl|(simp[bO];done)|exact qz
 rintro n s ⟨kn,ag,rfl,hk,hp1,hp2,rfl⟩
 refine sq (sq (rT [0,1,5,16] (s1 (cd rfl (fun c16=> ?_) fun c16=> ?_))))
 · have hag:ag=true:=c16
   have hgo:=hp1 hag
   refine sk (bk (sq (rT [0,1,5,6] (s1 (sq (rT [0,1,5,6,7] (s1 (bk (SW.loopW (n:=l.length) (fun q s=> ∃i:Nat,q=l.length - i∧i≤l.length∧s=[tI 0 b,tD 1 (.sl (dU l)),tO 5 15 b.toNat,tB 6 (cN b (l.take i) (kn,false)).2,tI 7 (i:Nat),oR 15 9 1 (bO ((cN b (l.take i) (kn,false)).1))]) ?_ ?_)))))))))
   · refine wq (σ':=[tI 0 b,tD 1 (.sl (dU l)),tO 5 15 b.toNat,tB 6 (cN b (l.take 0) (kn,false)).2,tI 7 (0:Nat),oR 15 9 1 (bO ((cN b (l.take 0) (kn,false)).1))]) [] [] (⟨0,rfl,aVa _,rfl⟩) ?_
     repeat' apply ai
     all_goals first|exact qx|rfl|exact qz
   rintro n s ⟨i,rfl,hi,rfl⟩
   refine sq (sq (rT [0,1,5,6,7,20] (s4 (cd rfl (fun c20=> ?_) fun c20=> ?_))))
   · have hi2:i<l.length:=by simp[bS] at c20;omega
     have hg:=tT (l:=l) hi2
     have hki:=(rO (l:=l.take i) (s:=(kn,false)) hk).1
     have hsn:=kj (b:=b) (m:=(l.getD i .zero)) (l:=l.take i) (s:=(kn,false))
     rw[← fQ (z:=hF.zero) hi2] at hsn
     have hkl:=hki.1
     refine sk (sq (bk (sq (sq (rT [0,1,5,6,7,29] (s3 (ai (by rw[aU4,hg];exact⟨⟨by omega,by rw[bS];omega⟩,rfl⟩) (ai (by rw[aU4,hg];exact⟨aU6 rfl,rfl⟩) (xp (cm b (l.getD i .zero)) (ai (by rw[aU4,hg];rfl) ?_))))))))))
     refine s1 (cd rfl (fun c29=> ?_) fun c29=> ?_)
     · have hmx:wA b (l.getD i .zero)=false:=aAv c29
       have hpo:iX b (cN b (l.take i) (kn,false)).1 (l.getD i .zero)=((cN b (l.take i) (kn,false)).1,false):=by unfold iX;rw[hmx];rfl
       rw[hpo] at hsn
       refine xt (rT [0,1,5,6,7] (s3 (wq [] [] (⟨l.length - (i+1),by omega,i+1,rfl,by omega,rfl⟩) ?_)))
       repeat' apply ai
       all_goals first|exact qx|exact congrArg D.i (by rw[aE (by omega)];omega)|(rw[hsn];done)|(rw[hsn,Bool.or_false];done)|(rw[hsn,Bool.or_true];done)|(rw[hsn];rw[show(0:Int).toNat=0 from rfl,hL0];exact aCd (j:=((jA (cN b (l.take i) (kn,false)).1 (cQ b (l.getD i .zero).num)).getD 0 0).toNat) (by omega))|exact qz
     have hmx:wA b (l.getD i .zero)=true:=aAv c29
     have hm4: (l.getD i .zero).data.length=4:=aE4 hmx
     refine sk (sq (rT [0,1,5,6,7,8,9] (s3 (ai (by rw[aU4,hg];exact⟨⟨by omega,by rw[bS];omega⟩,rfl⟩) (ai (by rw[aU4,hg];exact⟨aU6 rfl,rfl⟩) (s1 (bJ (robj:=[(15,.row 9 1 (bO (cN b (l.take i) (kn,false)).1))]) (rl:=[(0,37)]) (bor:=[15]) (yp b (l.getD i .zero) (cN b (l.take i) (kn,false)).1 hki hm4) rfl rfl rfl rfl (by refine⟨cJ rfl rfl (dD rfl ?_ (gE rfl rfl rfl (by rw[aW];omega) rfl trivial)),rfl⟩;rw[aU4,hg];exact aF rfl (aF rfl trivial)) rfl (.inr (aP6 _ _ _)) (aK ⟨rfl,trivial⟩) (fun j hj=>by(obtain rfl:j=0:=by simpa[mT,cA,iU] using hj);rfl) ?_)))))))
     refine s5 (sq (rT [0,1,5,6,7,8,9,42] (s1 (ai (by exact cF _) (s1 (cd rfl (fun c42=> ?_) fun c42=> ?_))))))
     · have hlen: (jA (cN b (l.take i) (kn,false)).1 (cQ b (l.getD i .zero).num)).length=1:=aS5 c42
       have hL0:=dL (l:=(jA (cN b (l.take i) (kn,false)).1 (cQ b (l.getD i .zero).num))) (i:=0) (by omega)
       have hpo:iX b (cN b (l.take i) (kn,false)).1 (l.getD i .zero)=((cN b (l.take i) (kn,false)).1.set ((jA (cN b (l.take i) (kn,false)).1 (cQ b (l.getD i .zero).num)).getD 0 0).toNat (qD (cN b (l.take i) (kn,false)).1 (l.getD i .zero).data (cQ b (l.getD i .zero).num)),true):=by unfold iX;rw[hmx,hlen];rfl
       rw[hpo] at hsn
       have hlr:=vV _ (aAu (cW (z:=(0:Int)) (l:=(jA (cN b (l.take i) (kn,false)).1 (cQ b (l.getD i .zero).num))) (i:=0) (by omega))).1
       have hsg:=gZ (l:=(cN b (l.take i) (kn,false)).1) (i:=((jA (cN b (l.take i) (kn,false)).1 (cQ b (l.getD i .zero).num)).getD 0 0).toNat) (by omega)
       refine sq (rT [0,1,5,7] (s2 (ai (by exact⟨by rw[cF],by omega,by omega⟩) (ai (by rw[show(0:Int).toNat=0 from rfl,hL0];exact⟨⟨by rw[cF],by omega⟩,aVf _,rfl⟩) (s1 (ai (by rw[show(0:Int).toNat=0 from rfl,hL0];exact⟨by rw[aW];omega,hlr.1,by have h9: (jA (cN b (l.take i) (kn,false)).1 (cQ b (l.getD i .zero).num)).getD 0 0<b:=hlr.2;show(jA (cN b (l.take i) (kn,false)).1 (cQ b (l.getD i .zero).num)).getD 0 0< ((b.toNat:Nat):Int);omega⟩) (ai (by rw[show(0:Int).toNat=0 from rfl,hL0];refine⟨by rw[aW];omega,?_⟩;show((jA (cN b (l.take i) (kn,false)).1 (cQ b (l.getD i .zero).num)).getD 0 0).toNat<_∧_∧0+_≤((bO (cN b (l.take i) (kn,false)).1).getD ((jA (cN b (l.take i) (kn,false)).1 (cQ b (l.getD i .zero).num)).getD 0 0).toNat []).length;rw[hsg];exact⟨by omega,rfl,aVf _⟩) (rT [0,1,5,6,7] (s1 (rT [0,1,5,6,7] (s3 (wq [] [] (⟨l.length - (i+1),by omega,i+1,rfl,by omega,rfl⟩) ?_))))))))))))
       repeat' apply ai
       all_goals first|exact qx|exact congrArg D.i (by rw[aE (by omega)];omega)|(rw[hsn];done)|(rw[hsn,Bool.or_false];done)|(rw[hsn,Bool.or_true];done)|(rw[hsn];rw[show(0:Int).toNat=0 from rfl,hL0];exact aCd (j:=((jA (cN b (l.take i) (kn,false)).1 (cQ b (l.getD i .zero).num)).getD 0 0).toNat) (by omega))|exact qz
     have hlen: ¬(jA (cN b (l.take i) (kn,false)).1 (cQ b (l.getD i .zero).num)).length=1:=aH3 c42
     have hpo:iX b (cN b (l.take i) (kn,false)).1 (l.getD i .zero)=((cN b (l.take i) (kn,false)).1,false):=by unfold iX;rw[hmx,beq_eq_false_iff_ne.2 hlen];rfl
     rw[hpo] at hsn
     refine sk (rT [0,1,5,6,7] (s3 (wq [] [] (⟨l.length - (i+1),by omega,i+1,rfl,by omega,rfl⟩) ?_)))
     repeat' apply ai
     all_goals first|exact qx|exact congrArg D.i (by rw[aE (by omega)];omega)|(rw[hsn];done)|(rw[hsn,Bool.or_false];done)|(rw[hsn,Bool.or_true];done)|(rw[hsn];rw[show(0:Int).toNat=0 from rfl,hL0];exact aCd (j:=((jA (cN b (l.take i) (kn,false)).1 (cQ b (l.getD i .zero).num)).getD 0 0).toNat) (by omega))|exact qz
   have hi3:i=l.length:=by simp[bS] at c20;omega
   subst hi3
   clear hi
   refine xt ?_
   rw[aVl]
   cases hrr: (cN b l (kn,false)).2 with
   |true=>
    obtain⟨g1,g2,g3⟩:=aPz hb.2 hk hrr
    refine wk [tI 0 b,tD 1 (.sl (dU l)),tO 5 15 b.toNat,tB 6 (true),oR 15 9 1 (bO ((cN b l (kn,false)).1))] [] [] (⟨_,by rw[hag];simpa using g2,_,true,rfl,g3,fun _=>by rw[← g1];exact hgo,fun h=>(by cases h),rfl⟩) ?_ rfl rfl
    repeat' first|exact trivial|refine lH rfl ?_|refine cJ rfl ?_ ?_|refine jI rfl rfl ?_ rfl ?_|refine bW rfl ?_ ?_|refine bU rfl rfl rfl rfl ?_|refine aZ rfl ?_ ?_|refine dD rfl ?_ ?_|exact aH|refine aF ?_ ?_|refine jC ?_|refine bK rfl ?_ rfl ?_|refine eJ rfl rfl rfl ?_
    all_goals first|with_reducible rfl|(first|with_reducible rfl|(rw[hrr];done))
   |false=>
    have ge:=aN1 hrr
    refine wk [tI 0 b,tD 1 (.sl (dU l)),tO 5 15 b.toNat,tB 6 (false),oR 15 9 1 (bO ((cN b l (kn,false)).1))] [] [] (⟨_,by rw[hag];simp,_,false,rfl,(rO (l:=l) (s:=(kn,false)) hk).1,fun h=>(by cases h),fun _=>by rw[← ge];exact hgo,rfl⟩) ?_ rfl rfl
    repeat' first|exact trivial|refine lH rfl ?_|refine cJ rfl ?_ ?_|refine jI rfl rfl ?_ rfl ?_|refine bW rfl ?_ ?_|refine bU rfl rfl rfl rfl ?_|refine aZ rfl ?_ ?_|refine dD rfl ?_ ?_|exact aH|refine aF ?_ ?_|refine jC ?_|refine bK rfl ?_ rfl ?_|refine eJ rfl rfl rfl ?_
    all_goals first|with_reducible rfl|(first|with_reducible rfl|(rw[hrr];done))
 have hag:ag=false:=c16
 have hfin:=hp2 hag
 refine xt (sq (rT [4] (s2 (rt (eN _ [] [15] rfl (gE rfl rfl rfl ?_ (congrArg D.sl ?_) trivial) rfl rfl)))))
 · rw[aW];have:=hk.1;omega
 rw[hfin]
set_option maxHeartbeats 800000 in
theorem wh (size:Int) (l:List hF) (hl:l.length≤1000000):Sp 180 2 [tI 0 size,tD 1 (.sl (dU l))] [tV 0 (.tup [.c (.d (.s (dV size l).1)),.c (.d (.b (dV size l).2))])]:=by
 refine sb Tryz.func180 rfl (sq (rT [0,1] (s2 (sq (sq (rT [0,1,12] (s1 (xp (dJ _ _ _) (ai rfl ?_)))))))))
 refine s1 (cd rfl (fun c12=> ?_) fun c12=> ?_)
 · have hno: ¬iB size 1 24=true:=by simpa using c12
   refine sq (rT [4,5] (s2 (rt ?_)))
   have hr:=aE8 (l:=l) hno
   refine bP rfl rfl ?_
   rw[hr]<;>rfl
 have hin:iB size 1 24=true:=by simpa using c12
 have hs2:1≤size∧size≤24:=by simpa[iB] using hin
 have hko:=aH4 (b:=(size+3) / 4) (l:=l) (by omega)
 have hk1:=hko.1
 have hle:=fun i=>aE5 hko.2 (i:=i)
 refine sk (sq (rT [0,6] (s1 (xp (oS size (by omega)) (ai rfl ?_)))))
 refine s1 (xp (wg ((size+3) / 4) l hl) (ai rfl ?_))
 refine s1 (sq (rT [0,6,7] (s1 (sq (sq (rT [0,6,7,8] (s1 (bk (SW.loopW (n:=(eB ((size+3) / 4) l).length) (fun q s=> ∃i:Nat,q=(eB ((size+3) / 4) l).length - i∧i≤(eB ((size+3) / 4) l).length∧(∀j,j<i→((eB ((size+3) / 4) l).getD j []).length≠0)∧s=[tI 0 size,tD 6 (.sl (bO (eB ((size+3) / 4) l))),tD 7 (.s (wB (eB ((size+3) / 4) l) (i))),tI 8 (i:Nat)]) ?_ ?_)))))))))
 · refine wq (σ':=[tI 0 size,tD 6 (.sl (bO (eB ((size+3) / 4) l))),tD 7 (.s (wB (eB ((size+3) / 4) l) (0))),tI 8 (0:Nat)]) [] [] (⟨0,rfl,aVa _,fun j h=>absurd h (by omega),rfl⟩) ?_
   repeat' apply ai
   all_goals first|exact qx|rfl|exact qz
 rintro n s ⟨i,rfl,hi,hk,rfl⟩
 refine sq (sq (rT [0,6,7,8,20] (s4 (cd rfl (fun c20=> ?_) fun c20=> ?_))))
 · have hi2:i< (eB ((size+3) / 4) l).length:=by simp[aW] at c20;omega
   have hg:=gZ (l:=(eB ((size+3) / 4) l)) hi2
   have hsu:=gk hi2
   have hli:=hle i
   have h4:=hko.at hi2
   refine sk (sq (bk (sq (sq (rT [0,6,7,8,27] (s2 (ai (by rw[aU4,hg];exact⟨⟨by omega,by rw[aW];omega⟩,rfl⟩) (ai (by rw[aU4,hg];exact⟨aU6 rfl,rfl⟩) (s1 (cd rfl (fun c27=> ?_) fun c27=> ?_))))))))))
   · have he: (eB ((size+3) / 4) l).getD i []=[]:=by
      have h9:=c27
      rw[aU4,hg] at h9
      exact beq_iff_eq.1 h9
     refine sq (rT [4,5] (s2 (rt ?_)))
     have hr:=aCg hin (yc hi2 he)
     refine bP rfl rfl ?_
     rw[hr]<;>rfl
   have hs: ((eB ((size+3) / 4) l).getD i []).length≠0:=by
    have h9:=c27
    rw[aU4,hg] at h9
    intro e
    rw[List.eq_nil_of_length_eq_zero e] at h9
    exact absurd h9 (by decide)
   refine sk (rT [0,6,7,8] (s3 (ai (by rw[aU4,hg];exact⟨⟨by omega,by rw[aW];omega⟩,rfl⟩) (ai (by rw[aU4,hg];exact⟨aU6 rfl,rfl⟩) (ai (by rw[aU4,hg];show _+((eB ((size+3) / 4) l).getD i []).length≤9223372036854775807;omega) (s1 (rT [0,6,7,8] (s3 (wq [] [] (⟨(eB ((size+3) / 4) l).length - (i+1),by omega,i+1,rfl,by omega,fun j h=>by by_cases e:j=i;exact e▸hs;exact hk j (by omega),rfl⟩) ?_)))))))))
   repeat' apply ai
   all_goals first|exact qx|exact congrArg D.i (by rw[aE (by omega)];omega)|(rw[hsu,aU4,hg];rfl)|exact qz
 have hi3:i=(eB ((size+3) / 4) l).length:=by simp[aW] at c20;omega
 subst hi3
 have hae:=aCe hk
 have hal:=aE6 hko.2 (aVf _) hk
 rw[aAw] at hal
 clear hi hk
 refine xt (sq (sq (rT [0,7,9] (s2 (bk (SW.loopW (n:=(qF (eB ((size+3) / 4) l)).length - size.toNat) (fun q s=> ∃i:Nat,q=(qF (eB ((size+3) / 4) l)).length - i∧(size.toNat≤i∧i≤(qF (eB ((size+3) / 4) l)).length)∧(∀j,size.toNat≤j→j<i→(qF (eB ((size+3) / 4) l)).getD j 0=0)∧s=[tI 0 size,tD 7 (.s (qF (eB ((size+3) / 4) l))),tI 9 (i:Nat)]) ?_ ?_))))))
 · have hss:size.toNat≤(qF (eB ((size+3) / 4) l)).length:=by omega
   refine wq [] [] (⟨size.toNat,rfl,by omega,fun j h1 h2=>absurd h1 (by omega),rfl⟩) ?_
   repeat' apply ai
   all_goals first|exact qx|exact congrArg D.i (by omega)|(rw[aAw];done)|exact qz
 rintro n s ⟨i,rfl,hi,hk,rfl⟩
 refine sq (sq (rT [0,7,9,38] (s4 (cd rfl (fun c38=> ?_) fun c38=> ?_))))
 · have hi2:i< (qF (eB ((size+3) / 4) l)).length:=by simp at c38;omega
   refine sk (sq (bk (sq (rT [0,7,9,44] (s2 (ai (by omega) (s1 (cd rfl (fun c44=> ?_) fun c44=> ?_))))))))
   · have hnz: (qF (eB ((size+3) / 4) l)).getD i 0≠0:=by
      intro e
      have h9:=c44
      rw[aU4,e] at h9
      exact absurd h9 (by decide)
     refine sq (rT [4,5] (s2 (rt ?_)))
     have hr:=aCh hin hae (aCf hi.1 hi2 hnz)
     refine bP rfl rfl ?_
     rw[hr]<;>rfl
   have hs: (qF (eB ((size+3) / 4) l)).getD i 0=0:=by
    have h9:=c44
    rw[aU4] at h9
    have h11: (((qF (eB ((size+3) / 4) l)).getD i 0).toNat:Int)=0:=by simpa only[bne_eq_false_iff_eq] using h9
    apply UInt8.toNat_inj.1
    have h6: (0:UInt8).toNat=0:=rfl
    omega
   refine sk (rT [0,7,9] (s3 (wq [] [] (⟨(qF (eB ((size+3) / 4) l)).length - (i+1),by omega,i+1,rfl,by omega,fun j h1 h2=>by by_cases e:j=i;exact e▸hs;exact hk j h1 (by omega),rfl⟩) ?_)))
   repeat' apply ai
   all_goals first|exact qx|exact congrArg D.i (by rw[aE (by omega)];omega)|exact qz
 have hi3:i=(qF (eB ((size+3) / 4) l)).length:=by simp at c38;omega
 have hz:=aE7 (n:=size.toNat) (fun j h1 h2=>hk j h1 (by omega))
 refine xt (sq (rT [4,5] (s2 (ai (by simp[yz,fD,gF];omega) (s2 (rt ?_))))))
 have hr:=aE9 hin hae hz
 refine bP rfl rfl ?_
 rw[hr]<;>rfl
theorem cn (f:cH):Sp 167 1 [tV 0 f.V] [tB 0 (eW f)]:=by
 refine sb Tryz.func167 rfl (sq (rT [1,8,9,10,11,14,15,16,17,20,21,22,23,26,27,28,29,32,33,34,35,38,39,40,41,55,56,57,60,61,62,65,66,67,78,79,80,83,84,85,88,89,90,91] (s2 (sq (sq (rT [1,42,55,56,57,60,61,62,65,66,67,78,79,80,83,84,85,88,89,90,91] (s2 (xp (dJ _ _ _) (ai rfl ?_)))))))))
 refine s2 (y2 (xc (fun h=>(dB _)) (ai rfl (ai rk ?_))))
 refine y1 (ai pk (s1 (y2 (xc (fun h=>(dB _)) (ai rfl (ai rk ?_))))))
 refine y1 (ai pk (s1 (y2 (xc (fun h=>(dB _)) (ai rfl (ai rk ?_))))))
 refine y1 (ai pk (s1 (y2 (xc (fun h=>(dB _)) (ai rfl (ai rk ?_))))))
 refine y1 (ai pk (s1 (y2 (xc (fun h=>(dJ _ _ _)) (ai rfl (ai rk ?_))))))
 refine y1 (ai pk (s1 (y2 (xc (fun h=>(dJ _ _ _)) (ai rfl (ai rk ?_))))))
 refine y1 (ai pk (cd rfl (fun c42=> ?_) fun c42=> ?_))
 · refine sq (rT [2] (s1 (rt (bH rfl (congrArg D.b (Bool.eq_iff_iff.2 ?_))))))
   simp only[eW,gb,aU7,Bool.or_eq_false_iff,Bool.not_eq_false,Bool.or_eq_true,Bool.not_eq_true,beq_iff_eq,decide_eq_true_eq,bne_iff_ne,Bool.not_eq_true,List.length_eq_zero_iff,beq_eq_false_iff_ne,bne_eq_false_iff_eq] at*
   grind[iB]
 refine sk (sq (sq (rT [1,45,55,56,57,60,61,62,65,66,67,78,79,80,83,84,85,88,89,90,91] (s3 (cd rfl (fun c45=> ?_) fun c45=> ?_)))))
 · refine sq (rD [2] (s4 (xp (tG _ _) (ai rfl ?_))))
   refine s4 (y3 (ai pk (s1 (y3 (ai pk (s1 (y3 (ai pk (s1 (ai (by kernel_rfl) (rt (bH rfl (congrArg D.b (Bool.eq_iff_iff.2 ?_))))))))))))))
   simp only[eW,gb,aU7,Bool.or_eq_false_iff,Bool.not_eq_false,Bool.or_eq_true,Bool.not_eq_true,beq_iff_eq,decide_eq_true_eq,bne_iff_ne,Bool.not_eq_true,List.length_eq_zero_iff,beq_eq_false_iff_ne,bne_eq_false_iff_eq] at*
   grind[iB]
 refine sk (sq (rD [2] (s4 (xp (tG _ _) (ai rfl ?_)))))
 refine s4 (y2 (xc (fun h=>(dJ _ _ _)) (ai rfl (ai rk ?_))))
 refine ai pk (s1 (y2 (xc (fun h=>(dJ _ _ _)) (ai rfl (ai rk ?_)))))
 refine ai pk (s1 (y4 (ai pk (s1 (ai (by kernel_rfl) (rt (bH rfl (congrArg D.b (Bool.eq_iff_iff.2 ?_)))))))))
 simp only[eW,gb,aU7,Bool.or_eq_false_iff,Bool.not_eq_false,Bool.or_eq_true,Bool.not_eq_true,beq_iff_eq,decide_eq_true_eq,bne_iff_ne,Bool.not_eq_true,List.length_eq_zero_iff,beq_eq_false_iff_ne,bne_eq_false_iff_eq] at*
 grind[iB]
theorem ah (l:List UInt8) (hl:l.length≤140737488355328):Sp 177 1 [tD 0 (.sl (aC l))] [tI 0 (ed l l.length:Nat)]:=by
 refine sb Tryz.func177 rfl (sq (rT [0] (s1 (sq (rT [0,3] (s1 (sq (sq (rT [0,3,4] (s1 (bk (SW.loopW (n:=l.length) (fun n s=> ∃i:Nat,n=l.length - i∧i≤l.length∧s=[tD 0 (.sl (aC l)),tI 3 (ed l i:Nat),tI 4 (i:Nat)]) ?_ ?_))))))))))))
 · refine wq (σ':=[tD 0 (.sl (aC l)),tI 3 (0:Nat),tI 4 (0:Nat)]) [] [] (⟨0,rfl,aVa _,rfl⟩) ?_
   repeat' apply ai
   all_goals first|exact qx|(simp[aV];done)|exact qz
 rintro n s ⟨i,rfl,hi,rfl⟩
 refine sq (sq (rT [0,3,4,8] (s4 (cd rfl (fun c8=> ?_) fun c8=> ?_))))
 · refine sk (sq (bk (rT [0,3,4] (s2 (ai (by decide) (s3 (ai (by have hb:=iY (l:=l) (i:=i) (by simpa[aV] using c8);refine⟨⟨by omega,by simpa[aV] using c8⟩,?_⟩;simp only[aU4];rw[hb];rfl) (ai (by have hb:=iY (l:=l) (i:=i) (by simpa[aV] using c8);simp only[aU4];rw[hb];exact⟨aVf _,rfl⟩) (s3 (ai (by decide) (s1 (rT [0,3,4] (s3 ?_)))))))))))))
   have hi2:i<l.length:=by simpa[aV] using c8
   have hb:=iY (l:=l) (i:=i) hi2
   refine wq [] [] (⟨l.length - (i+1),by omega,i+1,rfl,by omega,rfl⟩) ?_
   repeat' apply ai
   all_goals first|exact qx|(rw[aU4,hb];exact congrArg D.i (tc l i))|(rw[hb];exact congrArg D.i (tc l i))|(exact congrArg D.i (aE (by omega)))|exact qz
 refine xt (sq (rT [2] (s2 (rt (bH rfl ?_)))))
 have e:i=l.length:=by simp[aV] at c8;omega
 subst e;rfl
theorem vH (l:List UInt8): ∀r∈aC l,r.length=1:=by
 intro r hr
 obtain⟨b,_,rfl⟩:=aVj.1 hr
 rfl
theorem sK (l:List UInt8) (n:Int) (hl:l.length≤1073741824) (hn:0≤n∧n<65536):Sp 176 2 [tO 0 0 l.length,tI 1 n,oR 0 5 1 (aC l)] [tO 0 0 (l++two n).length,oR 0 5 1 (aC (l++two n))]:=by
 refine sb Tryz.func176 rfl (sq (rT [0,1] (s1 (sq (rT [4] (s8 (ai (by refine⟨rfl,by simp[aV],by simp,?_⟩;show(_+2)*1≤_;omega) (s1 (rt (rq [] [] rfl ?_))))))))))
 repeat' apply ai
 all_goals try exact qx
 all_goals first|(simp[aV,two];done)|(rw[aM9 hn,gJ])
theorem rQ (f:cH):Sp 165 1 [tV 0 f.V] [tO 0 0 (pH f).length,oR 0 5 1 (aC (pH f))]:=by
 refine sb Tryz.func165 rfl (sq (rT [1] (s2 (sq (rT [1,3] (s2 (sq (sq (rT [1,3,7] (s1 (xp (cn _) (ai rfl ?_))))))))))))
 refine s1 (cd rfl (fun c7=> ?_) fun c7=> ?_)
 · refine sq (rT [2] (s2 (rt (rq [(0,4)] [] rfl ?_))))
   repeat' apply ai
   all_goals try exact qx
   all_goals(simp at c7;simp[pH,c7,aC])
 have hok:eW f=true:=by simpa using c7
 obtain⟨k1,k2,k3,k4,k5,k6,k7,k8⟩:=lV hok
 have hlen:=ja hok
 have hsum:=aBk (fE f) (fE f).length
 refine sk (sq (rT [1,3] (s9 (s9 (s4 (sq (wa [tP 1 1,tO 3 4 (de f).length,oB 1 178 [.d (.i f.kind),.d (.i f.src),.d (.i f.dst),.d (.i f.frm),.d (.i f.num),.d (.i f.to),.d (.i f.til),.d (.i f.size),.d (.i f.mix),.d (.s f.data)],oR 4 5 1 (aC (de f))] [] [] ?_ ?_)))))))
 · repeat' apply ai
   all_goals first|exact qx|exact aBl hok|rfl|exact qz
 refine rT [1,3] (s3 (bJ (robj:=[(4,_)]) (rl:=[(0,4)]) (bor:=[]) (sK (de f) f.til (by simp[de]) (by omega)) rfl rfl rfl rfl ⟨jI rfl rfl rfl rfl (cJ rfl rfl (bW rfl rfl trivial)),rfl⟩ rfl (.inl rfl) (fun p hp=>by simp at hp;subst hp;rfl) (fun _ hj=>nomatch hj) (s1 (sq (sq (wa [tP 1 1,tO 3 4 (kT f).length,oB 1 178 [.d (.i f.kind),.d (.i f.src),.d (.i f.dst),.d (.i f.frm),.d (.i f.num),.d (.i f.to),.d (.i f.til),.d (.i f.size),.d (.i f.mix),.d (.s f.data)],oR 4 5 1 (aC (kT f))] [] [] qz (rT [1,3,36] (s3 (cd rfl (fun c36=> ?_) fun c36=> ?_)))))))))
 · have hk:f.kind=1:=by simpa using c36
   obtain⟨m1,m2,m3⟩:=k8 hk
   refine sq (rT [1,3] (s5 (ai (by refine⟨rfl,aV _,by simp,?_⟩;show(_+1)*1≤_;simp[kT,two]) (s1 (sq (wa [tP 1 1,tO 3 4 (kT f++[b8 f.size]).length,oB 1 178 [.d (.i f.kind),.d (.i f.src),.d (.i f.dst),.d (.i f.frm),.d (.i f.num),.d (.i f.to),.d (.i f.til),.d (.i f.size),.d (.i f.mix),.d (.s f.data)],oR 4 5 1 (aC (kT f++[b8 f.size]))] [] [] ?_ ?_))))))
   · repeat' apply ai
     all_goals first|exact qx|rfl|(simp[aV];done)|(rw[← gJ,fy (by omega)];rfl)|exact qz
   refine rT [1,3] (s3 (bJ (robj:=[(4,_)]) (rl:=[(0,4)]) (bor:=[]) (sK (kT f++[b8 f.size]) f.mix (by simp[kT,two]) (by omega)) rfl rfl rfl rfl ⟨jI rfl rfl rfl rfl (cJ rfl rfl (bW rfl rfl trivial)),rfl⟩ rfl (.inl rfl) (fun p hp=>by simp at hp;subst hp;rfl) (fun _ hj=>nomatch hj) (s1 (wa [tP 1 1,tO 3 4 (kT f++[b8 f.size]++two f.mix).length,oB 1 178 [.d (.i f.kind),.d (.i f.src),.d (.i f.dst),.d (.i f.frm),.d (.i f.num),.d (.i f.to),.d (.i f.til),.d (.i f.size),.d (.i f.mix),.d (.s f.data)],oR 4 5 1 (aC (kT f++[b8 f.size]++two f.mix))] [] [] qz (rT [3] (s3 (ai (by rw[m3];decide) (ai (by refine⟨aV _,aV _,vH _,?_⟩;show(_+_)*1≤_;simp[aV,m3,kT,two]) (s1 (sq (wa [tO 3 4 (fE f).length,oR 4 5 1 (aC (fE f))] [] [] ?_ ?_)))))))))))
   · repeat' apply ai
     all_goals first|exact qx|(rw[bc hk];done)|(rw[gJ];simp[fE,hk];done)|(simp[fE,hk,aV];omega)|exact qz
   refine rT [2] (s2 (bJ (robj:=[(4,.row 5 1 (aC (fE f)))]) (rl:=[]) (bor:=[4]) (ah (fE f) (by omega)) rfl rfl rfl rfl ⟨gE rfl rfl rfl ?_ rfl trivial,rfl⟩ rfl (.inr (tf _)) (fun p hp=>by simp at hp;subst hp;rfl) (fun _ hj=>nomatch hj) ?_))
   · exact aV _
   refine bJ (robj:=[(4,_)]) (rl:=[(0,4)]) (bor:=[]) (sK (fE f) (ed (fE f) (fE f).length) (by omega) (by omega)) rfl rfl rfl rfl ⟨jI rfl rfl rfl rfl (cJ rfl rfl (bW rfl rfl trivial)),rfl⟩ rfl (.inl rfl) (fun p hp=>by simp at hp;subst hp;rfl) (fun _ hj=>nomatch hj) (s1 (rt (rq [(0,4)] [] rfl ?_)))
   repeat' apply ai
   all_goals try exact qx
   all_goals first|(rw[pV,if_pos hok];done)|(rw[pV,if_pos hok])
 have hk: ¬f.kind=1:=by simpa using c36
 refine sk (sq (wa [tO 3 4 (fE f).length,oR 4 5 1 (aC (fE f))] [] [] ?_ ?_))
 · repeat' apply ai
   all_goals first|exact qx|(rw[bc hk];done)|(rw[gJ];simp[fE,hk];done)|(simp[fE,hk,aV];omega)|exact qz
 refine rT [2] (s2 (bJ (robj:=[(4,.row 5 1 (aC (fE f)))]) (rl:=[]) (bor:=[4]) (ah (fE f) (by omega)) rfl rfl rfl rfl ⟨gE rfl rfl rfl ?_ rfl trivial,rfl⟩ rfl (.inr (tf _)) (fun p hp=>by simp at hp;subst hp;rfl) (fun _ hj=>nomatch hj) ?_))
 · exact aV _
 refine bJ (robj:=[(4,_)]) (rl:=[(0,4)]) (bor:=[]) (sK (fE f) (ed (fE f) (fE f).length) (by omega) (by omega)) rfl rfl rfl rfl ⟨jI rfl rfl rfl rfl (cJ rfl rfl (bW rfl rfl trivial)),rfl⟩ rfl (.inl rfl) (fun p hp=>by simp at hp;subst hp;rfl) (fun _ hj=>nomatch hj) (s1 (rt (rq [(0,4)] [] rfl ?_)))
 repeat' apply ai
 all_goals try exact qx
 all_goals first|(rw[pV,if_pos hok];done)|(rw[pV,if_pos hok])
theorem gt (l:List UInt8):Sp 154 1 [tD 0 (.sl (aC l))] [tV 0 (.tup [.agg [.d (.i (gN l).kind),.d (.i (gN l).src),.d (.i (gN l).dst),.d (.i (gN l).frm),.d (.i (gN l).num),.d (.i (gN l).to),.d (.i (gN l).til),.d (.i (gN l).size),.d (.i (gN l).mix),.d (.s (gN l).data)],.c (.d (.b (mG l)))])]:=by
 refine sb Tryz.func154 rfl (sq (rT [0,2,9,10,11] (s2 (sq (sq (rT [0,2,12] (s4 (y2 (y1 (ai pk (cd rfl (fun c12=> ?_) fun c12=> ?_)))))))))))
 · have hL:l.length≠10∧l.length≠17:=by simp[aV] at c12;omega
   refine sq (rT [2,3] (s3 (rt (bP rfl rfl ?_))))
   have hno:mG l=false:=by simp[mG,hL.1,hL.2]
   simp only[gN,hno,Bool.false_eq_true,if_false,df]
   rfl
 have hL:l.length=10∨l.length=17:=by
  by_cases h9:l.length=10
  · exact .inl h9
  · right;simp[aV] at c12;omega
 refine sk (sq (rD [0,2,4] (s1 (ai (ixB (by omega) (by omega)) (ai (ldB (by omega) (by omega)) (s1 (s1 (ai (ixB (by omega) (by omega)) (ai (ldB (by omega) (by omega)) (s1 (s1 (ai (ixB (by omega) (by omega)) (ai (ldB (by omega) (by omega)) (s1 (s1 (ai (ixB (by omega) (by omega)) (ai (ldB (by omega) (by omega)) (s1 (s1 (ai (ixB (by omega) (by omega)) (ai (ldB (by omega) (by omega)) (s1 (s1 (ai (ixB (by omega) (by omega)) (ai (ldB (by omega) (by omega)) (s1 (s1 (ai (ixB (by omega) (by omega)) (ai (ldB (by omega) (by omega)) (s1 (s2 (ai (ixB (by omega) (by omega)) (ai (ldB (by omega) (by omega)) (s4 (s1 (ai (by kernel_rfl) (sq (sq (rT [0,2,4,51] (s3 (cd rfl (fun c51=> ?_) fun c51=> ?_)))))))))))))))))))))))))))))))))))))))))
 · have h17:l.length=17:=by simp[aV] at c51;omega
   refine sq (rT [0,2,4] (s1 (ai (ixB (by omega) (by omega)) (ai (ldB (by omega) (by omega)) (s1 (s2 (sq (rD [0,2,4] (s1 (ai (ixB (by omega) (by omega)) (ai (ldB (by omega) (by omega)) (s1 (s2 (ai (ixB (by omega) (by omega)) (ai (ldB (by omega) (by omega)) (s4 (ai (by kernel_rfl) (rT [0,2,4] (s1 (ai (by refine⟨by simp[yz,fD,gF,aV,h17],vH l⟩) (ai (by rw[wL];exact wM l 11 15) (s1 (s1 (sq (sq (wa [tD 0 (.sl (aC l)),tP 2 2,tP 4 4,oB 2 178 [.d (.i 0),.d (.i 0),.d (.i 0),.d (.i 0),.d (.i 0),.d (.i 0),.d (.i 0),.d (.i 0),.d (.i 0),.d (.s [])],oB 4 178 [.d (.i (cR l).kind),.d (.i (cR l).src),.d (.i (cR l).dst),.d (.i (cR l).frm),.d (.i (cR l).num),.d (.i (cR l).to),.d (.i (cR l).til),.d (.i (cR l).size),.d (.i (cR l).mix),.d (.s (cR l).data)]] [] [] ?_ ?_))))))))))))))))))))))))))
   · repeat' apply ai
     all_goals first|exact qx|(rw[aBn (by decide) (by omega),aBn (by decide) (by omega)];(first|simp only[cR,if_neg h17]|simp only[cR,if_pos h17]);exact congrArg D.i (zt (jW _ _) (jW _ _)).1)|(rw[aBn (by decide) (by omega)];(first|simp only[cR,if_neg h17]|simp only[cR,if_pos h17]);first|done|rfl)|((first|simp only[cR,if_neg h17]|simp only[cR,if_pos h17]);done)|((first|simp only[cR,if_neg h17]|simp only[cR,if_pos h17]);exact congrArg D.s (wL _ _ _))|exact qz
   refine rD [2,4,77] (s1 (bd [(0,73)] (rQ (cR l)) rfl rfl rfl rfl rfl rfl rfl (fun j hj=>by(obtain rfl:j=0:=by simpa[mT,cA,iU] using hj);rfl) (ai (by exact⟨aV _,(congrArg aC (cE _)).symm⟩) (s1 (ai (by exact(congrArg aC (cE _)).symm) (s1 (ai (by kernel_rfl) (cd rfl (fun c77=> ?_) fun c77=> ?_))))))))
   · refine sq (rT [2,3] (s3 (rt (bP rfl rfl ?_))))
     have hno:mG l=false:=by(simp[cE] at c77;simp[mG,c77])
     simp only[gN,hno,Bool.false_eq_true,if_false,df]
     rfl
   refine sk (sq (rT [2,3] (s3 (rt (bP rfl rfl ?_)))))
   have hyes:mG l=true:=by(simp[cE] at c77;rcases hL with h|h<;>simp[mG,h,c77])
   simp only[gN,hyes,if_true]
   rfl
 have h17: ¬l.length=17:=by simp[aV] at c51;omega
 refine sk (sq (sq (wa [tD 0 (.sl (aC l)),tP 2 2,tP 4 4,oB 2 178 [.d (.i 0),.d (.i 0),.d (.i 0),.d (.i 0),.d (.i 0),.d (.i 0),.d (.i 0),.d (.i 0),.d (.i 0),.d (.s [])],oB 4 178 [.d (.i (cR l).kind),.d (.i (cR l).src),.d (.i (cR l).dst),.d (.i (cR l).frm),.d (.i (cR l).num),.d (.i (cR l).to),.d (.i (cR l).til),.d (.i (cR l).size),.d (.i (cR l).mix),.d (.s (cR l).data)]] [] [] ?_ ?_)))
 · repeat' apply ai
   all_goals first|exact qx|(rw[aBn (by decide) (by omega),aBn (by decide) (by omega)];(first|simp only[cR,if_neg h17]|simp only[cR,if_pos h17]);exact congrArg D.i (zt (jW _ _) (jW _ _)).1)|(rw[aBn (by decide) (by omega)];(first|simp only[cR,if_neg h17]|simp only[cR,if_pos h17]);first|done|rfl)|((first|simp only[cR,if_neg h17]|simp only[cR,if_pos h17]);done)|((first|simp only[cR,if_neg h17]|simp only[cR,if_pos h17]);exact congrArg D.s (wL _ _ _))|exact qz
 refine rD [2,4,77] (s1 (bd [(0,73)] (rQ (cR l)) rfl rfl rfl rfl rfl rfl rfl (fun j hj=>by(obtain rfl:j=0:=by simpa[mT,cA,iU] using hj);rfl) (ai (by exact⟨aV _,(congrArg aC (cE _)).symm⟩) (s1 (ai (by exact(congrArg aC (cE _)).symm) (s1 (ai (by kernel_rfl) (cd rfl (fun c77=> ?_) fun c77=> ?_))))))))
 · refine sq (rT [2,3] (s3 (rt (bP rfl rfl ?_))))
   have hno:mG l=false:=by(simp[cE] at c77;simp[mG,c77])
   simp only[gN,hno,Bool.false_eq_true,if_false,df]
   rfl
 refine sk (sq (rT [2,3] (s3 (rt (bP rfl rfl ?_)))))
 have hyes:mG l=true:=by(simp[cE] at c77;rcases hL with h|h<;>simp[mG,h,c77])
 simp only[gN,hyes,if_true]
 rfl
theorem cU (l:List UInt8) (p n:Int) (hp:0≤p∧p≤1000000) (hl:l.length≤2000):Sp 41 2 [tP 0 0,tI 1 n,oB 0 92 [.d (.sl (aC l)),.d (.i (p))]] [tI 0 (aT l p n),oB 0 92 [.d (.sl (aC l)),.d (.i (p+1))]]:=by
 refine sb Tryz.func41 rfl (sq (rT [0,1,18,19,20,21,22,23] (s1 (sq (rT [0,1,18,19,20,21,22,23] (s9 (sq (sq (wa [tP 0 0,tI 1 n,oB 0 92 [.d (.sl (aC l)),.d (.i (p+1))]] [] [] ?_ ?_)))))))))
 · repeat' apply ai
   all_goals first|exact qx|exact congrArg D.i (aE (by omega))|exact qz
 refine rT [0,1,24] (s3 (y4 (y2 (ai pk (cd rfl (fun c24=> ?_) fun c24=> ?_)))))
 · refine sq (rT [4] (s1 (rt (rq [] [] rfl ?_))))
   repeat' apply ai
   all_goals try exact qx
   all_goals first|with_reducible rfl|skip
   refine congrArg D.i ?_
   unfold aT
   refine(if_pos ?_).symm
   by_cases h9:n<1
   · exact .inl h9
   right;simp[h9,aV,gb] at c24;simp[c24]
 have hn:1≤n∧1≤((aC l).length:Int):=by
  by_cases h9:n<1
  · simp[h9] at c24
  · refine⟨by omega,?_⟩;simp[h9,aV,gb] at c24 ⊢; have:=List.length_pos_iff.2 c24;omega
 have hlr:=aV l
 refine sk (sq (rT [0,1,5] (s6 (sq (sq (wa [tP 0 0,tI 1 n,tI 5 p,oB 0 92 [.d (.sl (aC l)),.d (.i (p+1))]] [] [] ?_ ?_))))))
 · repeat' apply ai
   all_goals first|exact qx|((refine congrArg D.i ?_;rw[aE (by omega)];omega))|exact qz
 refine rT [0,1,5,36] (s7 (cd rfl (fun c36=> ?_) fun c36=> ?_))
 · have hi:p< ((aC l).length:Int):=by simpa using c36
   refine sq (rT [4] (s5 (ai (ixB (by omega) (by omega)) (ai (ldB (by omega) (by omega)) (s2 (ai (by omega) (s1 (rt (rq [] [] rfl ?_)))))))))
   repeat' apply ai
   all_goals try exact qx
   all_goals first|with_reducible rfl|skip
   refine congrArg D.i ?_
   rw[aBn hp.1 (by omega)]
   unfold aT
   rw[if_neg (by omega),if_pos (by omega)]
 have hi: ¬p< ((aC l).length:Int):=by simpa using c36
 refine sk (sq ?_)
 have r1:=nF (x:=p) (n:=((aC l).length:Int)) hp.1 (by omega)
 have r2:=nF (x:=wrap64 (wrap64 (p*7)+3)) (n:=((aC l).length:Int)) (by rw[aE (n:=p*7) (by omega),aE (by omega)];omega) (by omega)
 have r3:=oY (x:=p) (n:=((aC l).length:Int)) hp.1 (by omega)
 refine rD [1,6] (s9 (s1 (ai (by omega) (ai (ixB (by omega) (by omega)) (ai (ldB (by omega) (by omega)) (s9 (s5 (ai (by omega) (ai (ixB (by omega) (by omega)) (ai (ldB (by omega) (by omega)) (s9 (s3 (ai (by omega) (s3 (ai (by kernel_rfl) (sq (rT [1,6] (s2 (ai (by decide) (s2 (sq (rT [4] (s2 (ai (by omega) (s1 (rt (rq [] [] rfl ?_)))))))))))))))))))))))))))
 repeat' apply ai
 all_goals try exact qx
 all_goals first|with_reducible rfl|skip
 refine congrArg D.i ?_
 rw[aBn r1.1 (by omega),aBn r2.1 (by omega)]
 unfold aT
 rw[if_neg (by omega),if_neg (by omega),hlr]
theorem wX (l:List UInt8) (hl:l.length≤140737488355328):Sp 33 1 [tD 0 (.sl (aC l))] [tP 0 0,oB 0 92 [.d (.sl (aC (l.take 2000))),.d (.i (0))]]:=by
 refine sb Tryz.func33 rfl (sq (rT [0] (s1 (sq (sq (rT [0,5] (s3 (cd rfl (fun c5=> ?_) fun c5=> ?_))))))))
 · refine rT [0] (s1 (ai (by refine⟨by simp[yz,fD,gF,aV] at *; omega,vH l⟩) (s1 (sq (rT [2] (s4 (rt (rq [(0,10)] [] rfl ?_))))))))
   repeat' apply ai
   all_goals try exact qx
   all_goals first|with_reducible rfl|skip
   first|exact congrArg D.sl (wM l 0 2000)|(refine congrArg D.sl (congrArg aC ?_);symm;apply List.take_of_length_le;simp[aV] at c5;omega)
 refine sk (sq (rT [2] (s4 (rt (rq [(0,10)] [] rfl ?_)))))
 repeat' apply ai
 all_goals try exact qx
 all_goals first|with_reducible rfl|skip
 first|exact congrArg D.sl (wM l 0 2000)|(refine congrArg D.sl (congrArg aC ?_);symm;apply List.take_of_length_le;simp[aV] at c5;omega)
theorem aLu (l:List UInt8) (p:Int) (rs:List (List UInt8)) (hr:1≤rs.length) (hp:0≤p∧p≤1000000) (hl:l.length≤2000):qu 99 2 [tP 0 0,tD 1 (.sl (bO rs)),oB 0 92 [.d (.sl (aC l)),.d (.i (p))]] (fun s=> ∃x:List UInt8,x∈rs∧s=[tD 0 (.s x),oB 0 92 [.d (.sl (aC l)),.d (.i (p+1))]]):=by
 have hv:=cG l (p:=p) (n:=((bO rs).length:Int)) hp (by rw[aW];omega)
 have hsl:=aW rs
 refine vt Tryz.func99 rfl (sq (rT [0,1] (s1 (sq (rT [4] (s4 (bJ (robj:=[(0,.box 92 [.d (.sl (aC (l))),.d (.i (p))])]) (rl:=[(0,0)]) (bor:=[]) (cU (l) (p) _ (by omega) hl) rfl rfl rfl rfl ⟨bU rfl rfl rfl rfl (cJ rfl rfl (aZ rfl (aF rfl (aF rfl aH)) trivial)),rfl⟩ rfl (.inl rfl) (aK ⟨rfl,trivial⟩) (fun _ hj=>nomatch hj) (ai (ixS (by omega) (by omega)) (ai (ldS (by omega) (by omega)) (s1 (rt (cV _ ⟨rs.getD (aT l p ((bO rs).length:Int)).toNat [],?_,rfl⟩ (eN _ [] [] rfl ?_ rfl rfl)))))))))))))
 · rw[aVb,aVd (by omega)];exact List.getElem_mem _
 refine qs ?_
 repeat' first|exact qx|apply ai
 all_goals first|with_reducible rfl|exact congrArg D.s (aPo (by omega) (by omega))
theorem sL (a:List UInt8) (n:Int) (ha:a.length=1) (hn:0≤n∧n≤100000):qu 109 2 [tD 0 (.s a),tI 1 n] (fun s=> ∃x:List UInt8,x.length≤n.toNat∧s=[tD 0 (.s x)]):=by
 refine vt Tryz.func109 rfl (sq (rT [0,1] (s1 (sq (rT [0,1,5] (s1 (sq (bk (SW.loopW (n:=n.toNat) (fun m s=> ∃(x b:List UInt8) (k:Nat),m=k∧(x.length+b.length*k≤n.toNat∧b.length≤2*n.toNat+1∧k≤n.toNat)∧s=[tD 0 (.s b),tI 1 (k),tD 5 (.s x)]) ?_ ?_)))))))))
 · refine wq [] [] (⟨[],a,n.toNat,rfl,⟨by first|(simp[ha];done)|(simp[ha];omega),by omega,by omega⟩,rfl⟩) ?_
   repeat' apply ai
   all_goals first|exact qx|(refine congrArg D.i ?_;omega)|(simp;done)|exact qz
 rintro n s ⟨x,b,k,hmk,hk,rfl⟩
 refine sq (sq (rT [0,1,5,7] (s2 (cd rfl (fun c7=> ?_) fun c7=> ?_))))
 · have hk1:0<k:=by simpa using c7
   have h11:b.length≤b.length*k:=Nat.le_mul_of_pos_right _ hk1
   refine sk (bk (sq (sq (rT [0,1,5,10] (s1 (ai (by decide) (s1 (cd rfl (fun c10=> ?_) fun c10=> ?_))))))))
   · refine rT [0,1,5] (s2 (ai (by show _≤9223372036854775807;omega) (s1 (sq (rT [0,1,5] (s2 (ai (by show _≤9223372036854775807;omega) (s1 (rT [0,1,5] (s1 (ai (by decide) (s1 ?_))))))))))))
     have hm:aVg (k:Int) 2=((k % 2:Nat):Int):=by rw[Int.tmod_eq_emod_of_nonneg (by omega)];omega
     have hd:Int.tdiv (k:Int) 2=((k / 2:Nat):Int):=by rw[Int.tdiv_eq_ediv_of_nonneg (by omega)];omega
     obtain⟨j,hj⟩: ∃j,k=2*j∨k=2*j+1:=⟨k / 2,by omega⟩
     have h8:b.length*k=2*(b.length*j)∨b.length*k=2*(b.length*j)+b.length:=by
      rcases hj with h|h
      · left;rw[h,Nat.mul_left_comm]
      · right;rw[h,Nat.mul_add,Nat.mul_left_comm,Nat.mul_one]
     have h9: (b++b).length*(k / 2)=2*(b.length*j):=by
      rw[aU5,show k / 2=j by omega,aVo];omega
     have h10:b.length≤b.length*k:=Nat.le_mul_of_pos_right _ (by omega)
     first
     |(refine wq [] [] (⟨k / 2,by omega,x++b,b++b,k / 2,rfl,⟨by rw[h9,aU5];have:k % 2=1:=(by simp[hm] at c10;omega);have:=congrArg (b.length* ·) (show k=2*j+1 by omega);simp only[Nat.mul_add,Nat.mul_one,Nat.mul_left_comm b.length 2 j] at this;omega,by rw[aU5];omega,by omega⟩,rfl⟩) ?_
       repeat' apply ai
       all_goals first|exact qx|(refine congrArg D.i ?_;rw[hd,aE (by omega)])|exact qz)
     |(refine wq [] [] (⟨k / 2,by omega,x,b++b,k / 2,rfl,⟨by rw[h9];omega,by rw[aU5];omega,by omega⟩,rfl⟩) ?_
       repeat' apply ai
       all_goals first|exact qx|(refine congrArg D.i ?_;rw[hd,aE (by omega)])|exact qz)
   refine sk (sq (rT [0,1,5] (s2 (ai (by show _≤9223372036854775807;omega) (s1 (rT [0,1,5] (s1 (ai (by decide) (s1 ?_)))))))))
   have hm:aVg (k:Int) 2=((k % 2:Nat):Int):=by rw[Int.tmod_eq_emod_of_nonneg (by omega)];omega
   have hd:Int.tdiv (k:Int) 2=((k / 2:Nat):Int):=by rw[Int.tdiv_eq_ediv_of_nonneg (by omega)];omega
   obtain⟨j,hj⟩: ∃j,k=2*j∨k=2*j+1:=⟨k / 2,by omega⟩
   have h8:b.length*k=2*(b.length*j)∨b.length*k=2*(b.length*j)+b.length:=by
    rcases hj with h|h
    · left;rw[h,Nat.mul_left_comm]
    · right;rw[h,Nat.mul_add,Nat.mul_left_comm,Nat.mul_one]
   have h9: (b++b).length*(k / 2)=2*(b.length*j):=by
    rw[aU5,show k / 2=j by omega,aVo];omega
   have h10:b.length≤b.length*k:=Nat.le_mul_of_pos_right _ (by omega)
   first
   |(refine wq [] [] (⟨k / 2,by omega,x++b,b++b,k / 2,rfl,⟨by rw[h9,aU5];have:k % 2=1:=(by simp[hm] at c10;omega);have:=congrArg (b.length* ·) (show k=2*j+1 by omega);simp only[Nat.mul_add,Nat.mul_one,Nat.mul_left_comm b.length 2 j] at this;omega,by rw[aU5];omega,by omega⟩,rfl⟩) ?_
     repeat' apply ai
     all_goals first|exact qx|(refine congrArg D.i ?_;rw[hd,aE (by omega)])|exact qz)
   |(refine wq [] [] (⟨k / 2,by omega,x,b++b,k / 2,rfl,⟨by rw[h9];omega,by rw[aU5];omega,by omega⟩,rfl⟩) ?_
     repeat' apply ai
     all_goals first|exact qx|(refine congrArg D.i ?_;rw[hd,aE (by omega)])|exact qz)
 refine xt (sq (rT [4] (s2 (rt ?_))))
 exact cV _ ⟨x,by omega,rfl⟩ (bH rfl rfl)
end Go.Proofs.YtcbjphphppaoiaaGreatDoor
namespace Go.Ab
open Int renaming toNat_natCast→aU4,tmod→aVg
open List renaming length_append→aU5,length_nil→aU8,length_cons→aU9,getD_eq_getElem?_getD→aVb,length_take→aVc,getElem?_eq_getElem→aVd,getElem?_eq_some_iff→aVe,range→aVh,all_eq_true→aVi,mem_map→aVj,length_drop→aVk,take_length→aVl,mem_cons→aVm,mem_singleton→aVn,mem_iff_getElem?→aVp
open Nat renaming le_of_ble_eq_true→aU6,zero_le→aVa,le_refl→aVf,add_mul→aVo
open Bool renaming and_eq_true→aU7
open Go Go.RowKit
set_option linter.unusedVariables false
structure fI where
 tm:Int
 ks:List aS
 ls:List Bool
 a:Nat
 b:Nat
 c:Nat
 d:Nat
def fI.ok (W:fI):Prop:=xf W.ks W.ls W.a W.b W.c
structure fI.of (W W0:fI) (m:Nat):Prop where
 ok:W.ok
 few:W.d≤W0.d+m
theorem fI.of.refl {W:fI} (h:W.ok):W.of W 0:=⟨h,aVf _⟩
theorem fI.of.trans {W1 W2 W0:fI} {m n:Nat} (h:W1.of W0 m) (k:W2.of W1 n):W2.of W0 (m+n):=⟨k.ok,by have:=h.few;have:=k.few;omega⟩
theorem fI.of.le {W W0:fI} {m n:Nat} (h:W.of W0 m) (hn:m≤n):W.of W0 n:=⟨h.ok,by have:=h.few;omega⟩
def gP (n:Int):aS:=if eC n then⟨n,true,[],0,[]⟩ else .zero
def qN (n:Nat):List aS:=(aVh n).map fun i:Nat=>gP (i:Int)
theorem lQ (n:Nat): (qN n).length=n:=by simp[qN]
theorem aCu (n:Nat):qN (n+1)=qN n++[gP (n:Int)]:=by simp[qN,List.range_succ]
theorem qm (l:List aS) (k:aS):aG l++[k.row]=aG (l++[k]):=by simp[aG]
theorem qO (n:Nat):aG (qN n)++[(gP (n:Int)).row]=aG (qN (n+1)):=by rw[aCu,qm]
def yes (n:Nat):List Bool:=List.replicate n true
theorem rR (n:Nat): (yes n).length=n:=by simp[yes]
theorem uA (n:Nat):aM (yes n)++[[.b true]]=aM (yes (n+1)):=by
 rw[yes,yes,List.replicate_succ']
 simp[aM]
theorem kz (n:Int):qe (gP n):=by
 unfold gP
 split
 · exact⟨aVa _,aVa _,fun x h=>by cases h⟩
 · exact qH
def fJ:fI:=⟨0,qN 4,yes 3,0,0,0,0⟩
theorem px:fJ.ok:=⟨lQ 4,fun k hk=>by
 obtain⟨i,_,rfl⟩:=aVj.1 hk
 exact kz _,rR 3,aVa _,aVa _,aVa _⟩
set_option linter.unusedSimpArgs false
abbrev R1 (x:Int):Prop:= -1≤x∧x≤1001
def ND (n:aR):Prop:=(R1 n.frm∧R1 n.num∧R1 n.to∧R1 n.til)∧n.text.length≤60
theorem nu {n:Int} (h:R1 n): (jh n).length≤8:=by
 have q1:=bZ (k:=6) (n:=(-n).toNat) (by simp;omega)
 have q2:=bZ (k:=6) (n:=n.toNat) (by simp;omega)
 unfold jh
 split
 · rw[aU9];omega
 · omega
theorem aRh {n:aR} (h:eD n=true):ND n:=by
 unfold eD eC wO at h
 simp only[aU7,iB,decide_eq_true_eq] at h
 refine⟨⟨?_,?_,?_,?_⟩,?_⟩<;>first|(unfold R1;omega)|omega
theorem dZ {l:List Int} {j:Nat} (h: ∀v∈l,R1 v) (hj:j<l.length):R1 (db (((cY l).getD j []).getD 0 (.i 0))):=by
 rw[dL hj]
 exact h _ (cW (z:=0) hj)
theorem aJl:ND .zero:=⟨⟨⟨by decide,by decide⟩,⟨by decide,by decide⟩,⟨by decide,by decide⟩,⟨by decide,by decide⟩⟩,aVa _⟩
structure KD (k:aL):Prop where
 id:R1 k.id
 time:R1 k.time
 few:k.held.length≤7∧k.marks.length≤13∧k.inbox.length≤7
 held: ∀x∈k.held,ND x
 inbox: ∀x∈k.inbox,ND x
theorem KD.kb {k:aL} (h:KD k):KB k:=⟨⟨by have:=h.few;omega,by have:=h.few;omega,by have:=h.few;omega⟩,fun x hx=>by have:=(h.held x hx).2;omega,fun x hx=>by have:=(h.inbox x hx).2;omega⟩
theorem aP8:KD .zero:=⟨⟨by decide,by decide⟩,⟨by decide,by decide⟩,⟨aVa _,aVa _,aVa _⟩,fun x h=>(by cases h),fun x h=>(by cases h)⟩
theorem aUz {k:aL} (h:cO k=true):KD k∧k.held.length≤6∧k.marks.length≤12∧k.inbox.length≤6:=by
 have h6:=eL h
 obtain⟨⟨h1,h2,_⟩,⟨h4,h5,h7⟩,_⟩:=(bX k).1 h
 have e1:R1 k.id:=by unfold eC at h1;simp only[iB,aU7,decide_eq_true_eq] at h1;omega
 have e2:R1 k.time:=by omega
 exact⟨⟨e1,e2,⟨by have:=h6.1;omega,by have:=h6.1;omega,by have:=h6.1;omega⟩,fun x hx=>aRh (lT h4 hx),fun x hx=>aRh (lT h7 hx)⟩,h6.1⟩
def OZ (k:aL):Prop:=cO k=true∨k= .zero
theorem OZ.kd {k:aL} (h:OZ k):KD k∧k.held.length≤6∧k.marks.length≤12∧k.inbox.length≤6:=by
 rcases h with h|rfl
 · exact aUz h
 · exact⟨aP8,aVa _,aVa _,aVa _⟩
theorem aU0 (k:aL) (rec:List UInt8):OZ (aO k rec).1:=by
 by_cases h: (aO k rec).2=true
 · exact .inl (aAr h)
 · unfold aO at h ⊢
   split
   · rename_i hk
     rw[if_pos hk] at h
     unfold kD at h ⊢
     split
     · rename_i hx;rw[if_pos hx] at h;exact(h rfl).elim
     · exact .inl hk
   · exact .inr rfl
theorem aFh (n:Int):OZ (bB n):=by
 by_cases h:eC n=true
 · have e:bB n=⟨n,0,1,[],[],[]⟩:=if_pos h
   rw[e]
   refine .inl ((bX _).2 ⟨⟨h,⟨Int.le_refl _,?_⟩,⟨Int.le_refl _,?_⟩,aVa _,aVa _,aVa _⟩,⟨rfl,rfl,rfl⟩,rfl,rfl,rfl⟩)
   · show(0:Int)≤999;omega
   · show(1:Int)≤100;omega
 · exact .inr (if_neg h)
theorem aN8 (k:aS):OZ (dP k):=by
 by_cases h:bG k=true
 · rw[lE h];exact .inl (iA h)
 · unfold dP;rw[if_neg h];exact .inr rfl
theorem KD.held_at {k:aL} (h:KD k) {i:Nat} (hi:i<k.held.length):ND (k.held.getD i .zero):=h.held _ (cW hi)
theorem KD.inbox_at {k:aL} (h:KD k) {i:Nat} (hi:i<k.inbox.length):ND (k.inbox.getD i .zero):=h.inbox _ (cW hi)
end Go.Ab
namespace Go.Proofs.YtcbjphphppaoiaaGreatDoor
open Int renaming toNat_natCast→aU4,tmod→aVg
open List renaming length_append→aU5,length_nil→aU8,length_cons→aU9,getD_eq_getElem?_getD→aVb,length_take→aVc,getElem?_eq_getElem→aVd,getElem?_eq_some_iff→aVe,range→aVh,all_eq_true→aVi,mem_map→aVj,length_drop→aVk,take_length→aVl,mem_cons→aVm,mem_singleton→aVn,mem_iff_getElem?→aVp
open Nat renaming le_of_ble_eq_true→aU6,zero_le→aVa,le_refl→aVf,add_mul→aVo
open Bool renaming and_eq_true→aU7
open Go Go.Ab Go.RowKit
set_option linter.unusedVariables false
set_option linter.unusedSimpArgs false
set_option maxRecDepth 9000
theorem wj (l:List UInt8) (p:Int) (hp:0≤p∧p≤900000) (hl:l.length≤2000):qu 100 1 [tP 0 0,oB 0 92 [.d (.sl (aC l)),.d (.i (p))]] (fun s=> ∃(x:List UInt8) (q:Int),(p≤q∧q≤p+40∧x.length≤60)∧s=[tD 0 (.s x),oB 0 92 [.d (.sl (aC l)),.d (.i (q))]]):=by
 have hl2:=hl
 refine vt Tryz.func100 rfl (sq (rT [0] (s1 (sq (sq (rT [0,6] (s1 (bJ (robj:=[(0,.box 92 [.d (.sl (aC (l))),.d (.i (p))])]) (rl:=[(0,0)]) (bor:=[]) (cU (l) (p) _ (by omega) hl2) rfl rfl rfl rfl ⟨bU rfl rfl rfl rfl (cJ rfl rfl (aZ rfl (aF rfl (aF rfl aH)) trivial)),rfl⟩ rfl (.inl rfl) (aK ⟨rfl,trivial⟩) (fun _ hj=>nomatch hj) (bk (sq (rT [0,6,7] (s2 (cd rfl (fun c7=> ?_) fun c7=> ?_)))))))))))))
 · refine sq (rE [2] (s1 (cK (robj:=[]) (rl:=[]) (bor:=[]) (news:=[]) (sL [120] 24 rfl (by omega)) rfl rfl rfl rfl ⟨cJ rfl rfl (cJ rfl rfl (trivial)),rfl⟩ (by rintro _ ⟨x1,hx1,rfl⟩;exact⟨rfl,.inl rfl,fun j hj=>nomatch hj⟩) (fun p hp=>nomatch hp) (fun j hj=>nomatch hj) ?_)))
   rintro _ ⟨x1,hx1,rfl⟩
   refine cK (robj:=[]) (rl:=[]) (bor:=[]) (news:=[]) (sL [121] 25 rfl (by omega)) rfl rfl rfl rfl ⟨cJ rfl rfl (cJ rfl rfl (trivial)),rfl⟩ (by rintro _ ⟨x2,hx2,rfl⟩;exact⟨rfl,.inl rfl,fun j hj=>nomatch hj⟩) (fun p hp=>nomatch hp) (fun j hj=>nomatch hj) ?_
   rintro _ ⟨x2,hx2,rfl⟩
   refine ai (by exact⟨by simp,aU6 rfl⟩) (yK 12 12 rfl rfl rfl rfl (cK (robj:=[(0,.box 92 [.d (.sl (aC (l))),.d (.i (p+1))])]) (rl:=[(0,0)]) (bor:=[]) (news:=[]) (aLu (l) (p+1) (([[],x1,x2,[0,1],[97,10]]:List (List UInt8))) (by simp) (by omega) hl2) rfl rfl rfl rfl ⟨bU rfl rfl rfl rfl (cJ rfl rfl (aZ rfl (aF rfl (aF rfl aH)) trivial)),rfl⟩ (by rintro _ ⟨x,hx,rfl⟩;exact⟨rfl,.inl rfl,fun j hj=>nomatch hj⟩) (aK ⟨rfl,trivial⟩) (fun j hj=>nomatch hj) ?_))
   rintro _ ⟨x,hx,rfl⟩
   refine s1 (rt (cV _ ⟨x,p+1+1,⟨by omega,by omega,?_⟩,rfl⟩ (eN _ [] [] rfl ?_ rfl rfl)))
   · simp at hx;rcases hx with rfl|rfl|rfl|rfl|rfl<;>first|omega|(simp;done)
   refine qs ?_
   repeat' first|exact qx|apply ai
   all_goals rfl
 refine sq (rT [0,14] (s2 (cd rfl (fun c14=> ?_) fun c14=> ?_)))
 · refine sq (rT [0,3] (s2 (sq (sq (rT [0,3,4] (s1 (bJ (robj:=[(0,.box 92 [.d (.sl (aC (l))),.d (.i (p+1))])]) (rl:=[(0,0)]) (bor:=[]) (cU (l) (p+1) _ (by omega) hl2) rfl rfl rfl rfl ⟨bU rfl rfl rfl rfl (cJ rfl rfl (aZ rfl (aF rfl (aF rfl aH)) trivial)),rfl⟩ rfl (.inl rfl) (aK ⟨rfl,trivial⟩) (fun _ hj=>nomatch hj) (s2 (bk ?_)))))))))
   have hv:=cG l (p:=p+1) (n:=20) (by omega) (by omega)
   refine SW.loopW (n:=(wrap64 (1+aT l (p+1) 20)).toNat) (fun m s=> ∃(k q:Int) (b:List UInt8),m=k.toNat∧(0≤k∧k≤20∧p≤q∧q+k≤p+30∧b.length+k≤20)∧s=[tP 0 0,tO 3 16 (b).length,tI 4 (k),oB 0 92 [.d (.sl (aC l)),.d (.i (q))],oR 16 5 1 (aC (b))]) ?_ ?_
   · refine wq (σ':=[tP 0 0,tO 3 16 ([]).length,tI 4 ((wrap64 (1+aT l (p+1) 20))),oB 0 92 [.d (.sl (aC l)),.d (.i (p+1+1))],oR 16 5 1 (aC ([]))]) [] [] (⟨_,p+1+1,[],rfl,⟨by rw[aE (by omega)];omega,by rw[aE (by omega)];omega,by omega,by rw[aE (by omega)];omega,by rw[aE (by omega)];simp;omega⟩,rfl⟩) ?_
     repeat' apply ai
     all_goals first|exact qx|rfl|(simp[aC];done)|exact qz
   rintro n s ⟨k,q,b,rfl,hk,rfl⟩
   refine sq (sq (rT [0,3,4,21] (s2 (cd rfl (fun c21=> ?_) fun c21=> ?_))))
   · have hk1:0<k:=by simpa using c21
     refine sk (sq (bk (rT [0,3,4] (s2 (bJ (robj:=[(0,.box 92 [.d (.sl (aC (l))),.d (.i (q))])]) (rl:=[(0,0)]) (bor:=[]) (cU (l) (q) _ (by omega) hl2) rfl rfl rfl rfl ⟨bU rfl rfl rfl rfl (cJ rfl rfl (aZ rfl (aF rfl (aF rfl aH)) trivial)),rfl⟩ rfl (.inl rfl) (aK ⟨rfl,trivial⟩) (fun _ hj=>nomatch hj) (s2 (ai (by refine⟨rfl,aV _,by simp,?_⟩;show(_+1)*1≤_;omega) (s1 (rT [0,3,4] (s3 (wq [] [] (⟨(k - 1).toNat,by omega,k - 1,q+1,b++[u8 (aT l q 256)],rfl,⟨by omega,by omega,by omega,by omega,by rw[aU5];simp;omega⟩,rfl⟩) ?_)))))))))))
     repeat' apply ai
     all_goals first|exact qx|exact zu _ _|(simp[aV];done)|exact congrArg D.i (aE (by omega))|exact qz
   refine xt (sq (rT [2] (s1 (ai (by exact⟨aV _,(congrArg aC (cE _)).symm⟩) (s1 (rt (cV _ ⟨b,q,⟨by omega,by omega,by omega⟩,rfl⟩ (eN _ [] [] rfl ?_ rfl rfl))))))))
   refine qs ?_
   repeat' first|exact qx|apply ai
   all_goals first|with_reducible rfl|exact congrArg D.s (cE b)
 refine sk (sq (rE [2] (s1 (ai (by exact⟨by simp,by decide⟩) (yK 33 33 rfl rfl rfl rfl (cK (robj:=[(0,.box 92 [.d (.sl (aC (l))),.d (.i (p+1))])]) (rl:=[(0,0)]) (bor:=[]) (news:=[]) (aLu (l) (p+1) (([[97],[97,98,99,100],[104,101,108,108,111],[49,50,51,52,53,54,55,56],[97,32,108,111,110,103,101,114,32,109,101,115,115,97,103,101],[106,117,115,116,32,116,119,101,110,116,121,45,102,111,117,114,32,98,121,116,101,115,32,33],[109,105,120,101,100,32,98,108,111,99,107,115],[102,111,117,114,32,119,111,114,100,115,32,111,102,32,97,32,116,101,120,116]]:List (List UInt8))) (by simp) (by omega) hl2) rfl rfl rfl rfl ⟨bU rfl rfl rfl rfl (cJ rfl rfl (aZ rfl (aF rfl (aF rfl aH)) trivial)),rfl⟩ (by rintro _ ⟨x,hx,rfl⟩;exact⟨rfl,.inl rfl,fun j hj=>nomatch hj⟩) (aK ⟨rfl,trivial⟩) (fun j hj=>nomatch hj) ?_))))))
 rintro _ ⟨x,hx,rfl⟩
 refine s1 (rt (cV _ ⟨x,p+1+1,⟨by omega,by omega,?_⟩,rfl⟩ (eN _ [] [] rfl ?_ rfl rfl)))
 · have hall: ∀y∈([[97],[97,98,99,100],[104,101,108,108,111],[49,50,51,52,53,54,55,56],[97,32,108,111,110,103,101,114,32,109,101,115,115,97,103,101],[106,117,115,116,32,116,119,101,110,116,121,45,102,111,117,114,32,98,121,116,101,115,32,33],[109,105,120,101,100,32,98,108,111,99,107,115],[102,111,117,114,32,119,111,114,100,115,32,111,102,32,97,32,116,101,120,116]]:List (List UInt8)),y.length≤60:=by decide
   exact hall x hx
 refine qs ?_
 repeat' first|exact qx|apply ai
 all_goals rfl
set_option maxHeartbeats 1600000 in
theorem qP (l:List UInt8) (p:Int) (hp:0≤p∧p≤800000) (hl:l.length≤2000):qu 66 1 [tP 0 0,oB 0 92 [.d (.sl (aC l)),.d (.i (p))]] (fun s=> ∃(n:aR) (q:Int),ND n∧(p≤q∧q≤p+60)∧s=[tV 0 (.e (.agg [.d (.i n.frm),.d (.i n.num),.d (.i n.to),.d (.i n.til),.d (.s n.text)])),oB 0 92 [.d (.sl (aC l)),.d (.i (q))]]):=by
 have pv0:=cG l (p:=p) (n:=4) (by omega) (by omega)
 have pv1:=cG l (p:=p+1) (n:=5) (by omega) (by omega)
 have pv2:=cG l (p:=p+1+1) (n:=4) (by omega) (by omega)
 have pv3:=cG l (p:=p+1+1+1) (n:=30) (by omega) (by omega)
 have hl2:=hl
 have hall: ∀y∈([[97],[104,101,108,108,111],[97,32,108,111,110,103,101,114,32,109,101,115,115,97,103,101],[32,120,32],[106,117,115,116,32,116,119,101,110,116,121,45,102,111,117,114,32,98,121,116,101,115,32,33]]:List (List UInt8)),y.length≤60:=by decide
 refine vt Tryz.func66 rfl (sq (rT [0,2] (s1 (sq (rE [0,2,3] (s1 (gY (bJ (robj:=[(0,.box 92 [.d (.sl (aC (l))),.d (.i (p))])]) (rl:=[(0,0)]) (bor:=[]) (cU (l) (p) _ (by omega) hl2) rfl rfl rfl rfl ⟨bU rfl rfl rfl rfl (cJ rfl rfl (aZ rfl (aF rfl (aF rfl aH)) trivial)),rfl⟩ rfl (.inl rfl) (aK ⟨rfl,trivial⟩) (fun _ hj=>nomatch hj) (s1 (gY (bJ (robj:=[(0,.box 92 [.d (.sl (aC (l))),.d (.i (p+1))])]) (rl:=[(0,0)]) (bor:=[]) (cU (l) (p+1) _ (by omega) hl2) rfl rfl rfl rfl ⟨bU rfl rfl rfl rfl (cJ rfl rfl (aZ rfl (aF rfl (aF rfl aH)) trivial)),rfl⟩ rfl (.inl rfl) (aK ⟨rfl,trivial⟩) (fun _ hj=>nomatch hj) (s2 (gY (bJ (robj:=[(0,.box 92 [.d (.sl (aC (l))),.d (.i (p+1+1))])]) (rl:=[(0,0)]) (bor:=[]) (cU (l) (p+1+1) _ (by omega) hl2) rfl rfl rfl rfl ⟨bU rfl rfl rfl rfl (cJ rfl rfl (aZ rfl (aF rfl (aF rfl aH)) trivial)),rfl⟩ rfl (.inl rfl) (aK ⟨rfl,trivial⟩) (fun _ hj=>nomatch hj) ?_))))))))))))))
 refine s1 (gY (bJ (robj:=[(0,.box 92 [.d (.sl (aC (l))),.d (.i (p+1+1+1))])]) (rl:=[(0,0)]) (bor:=[]) (cU (l) (p+1+1+1) _ (by omega) hl2) rfl rfl rfl rfl ⟨bU rfl rfl rfl rfl (cJ rfl rfl (aZ rfl (aF rfl (aF rfl aH)) trivial)),rfl⟩ rfl (.inl rfl) (aK ⟨rfl,trivial⟩) (fun _ hj=>nomatch hj) (s2 (ai (by exact⟨by simp,by decide⟩) (yK 15 15 rfl rfl rfl rfl (cK (robj:=[(0,.box 92 [.d (.sl (aC (l))),.d (.i (p+1+1+1+1))])]) (rl:=[(0,0)]) (bor:=[]) (news:=[]) (aLu (l) (p+1+1+1+1) (([[97],[104,101,108,108,111],[97,32,108,111,110,103,101,114,32,109,101,115,115,97,103,101],[32,120,32],[106,117,115,116,32,116,119,101,110,116,121,45,102,111,117,114,32,98,121,116,101,115,32,33]]:List (List UInt8))) (by simp) (by omega) hl2) rfl rfl rfl rfl ⟨bU rfl rfl rfl rfl (cJ rfl rfl (aZ rfl (aF rfl (aF rfl aH)) trivial)),rfl⟩ (by rintro _ ⟨x,hx,rfl⟩;exact⟨rfl,.inl rfl,fun j hj=>nomatch hj⟩) (aK ⟨rfl,trivial⟩) (fun j hj=>nomatch hj) ?_))))))
 rintro _ ⟨x,hx,rfl⟩
 refine s3 (sq (sq (rT [0,2,3,19] (s1 (bJ (robj:=[(0,.box 92 [.d (.sl (aC (l))),.d (.i (p+1+1+1+1+1))])]) (rl:=[(0,0)]) (bor:=[]) (cU (l) (p+1+1+1+1+1) _ (by omega) hl2) rfl rfl rfl rfl ⟨bU rfl rfl rfl rfl (cJ rfl rfl (aZ rfl (aF rfl (aF rfl aH)) trivial)),rfl⟩ rfl (.inl rfl) (aK ⟨rfl,trivial⟩) (fun _ hj=>nomatch hj) (bk (sq (rT [0,2,3,19,20] (s2 (cd rfl (fun c20=> ?_) fun c20=> ?_))))))))))
 · have hv:=cG l (p:=p+1+1+1+1+1+1) (n:=2) (by omega) (by omega)
   refine rT [2,3] (ai (by exact⟨by simp,by decide⟩) (s1 (bJ (robj:=[(0,.box 92 [.d (.sl (aC (l))),.d (.i (p+1+1+1+1+1+1))])]) (rl:=[(0,0)]) (bor:=[]) (cU (l) (p+1+1+1+1+1+1) _ (by omega) hl2) rfl rfl rfl rfl ⟨bU rfl rfl rfl rfl (cJ rfl rfl (aZ rfl (aF rfl (aF rfl aH)) trivial)),rfl⟩ rfl (.inl rfl) (aK ⟨rfl,trivial⟩) (fun _ hj=>nomatch hj) (ai ⟨rfl,hv.1,hv.2⟩ (ai (aG4 (l:=[-1,4]) (by simp;omega) rfl) (s2 (sq (rT [2] (s2 (rt ?_))))))))))
   first
    |(refine cV _ ⟨⟨?za1,?zb1,?zc1,?zd1,x⟩,p+1+1+1+1+1+1+1,?zn1,⟨by omega,by omega⟩,rfl⟩ (eN _ [] [] rfl ?_ rfl rfl)
      repeat' first|exact trivial|refine lH rfl ?_|refine cJ rfl ?_ ?_|refine jI rfl rfl ?_ rfl ?_|refine bW rfl ?_ ?_|refine bU rfl rfl rfl rfl ?_|refine aZ rfl ?_ ?_|refine dD rfl ?_ ?_|exact aH|refine aF ?_ ?_|refine jC ?_|refine bK rfl ?_ rfl ?_|refine eJ rfl rfl rfl ?_
      try any_goals with_reducible rfl
      try any_goals rfl
      refine⟨⟨?_,?_,?_,?_⟩,?_⟩
      all_goals(try dsimp only)
      all_goals first|exact hall x hx|omega|(refine⟨?_,?_⟩<;>rw[aE (by omega)]<;>omega)|exact dZ (l:=[-1,4]) (j:=(aT l (p+1+1+1+1+1+1) 2).toNat) (by decide) (by simp;omega)|exact dZ (l:=[0,99,100]) (j:=(aT l (p+1+1+1+1+1+1) 3).toNat) (by decide) (by simp;omega)|exact dZ (l:=[0,999,1000]) (j:=(aT l (p+1+1+1+1+1+1) 3).toNat) (by decide) (by simp;omega)
      done)
    |(refine cV _ ⟨⟨?za1,?zb1,?zc1,?zd1,x⟩,p+1+1+1+1+1+1,?zn1,⟨by omega,by omega⟩,rfl⟩ (eN _ [] [] rfl ?_ rfl rfl)
      repeat' first|exact trivial|refine lH rfl ?_|refine cJ rfl ?_ ?_|refine jI rfl rfl ?_ rfl ?_|refine bW rfl ?_ ?_|refine bU rfl rfl rfl rfl ?_|refine aZ rfl ?_ ?_|refine dD rfl ?_ ?_|exact aH|refine aF ?_ ?_|refine jC ?_|refine bK rfl ?_ rfl ?_|refine eJ rfl rfl rfl ?_
      try any_goals with_reducible rfl
      try any_goals rfl
      refine⟨⟨?_,?_,?_,?_⟩,?_⟩
      all_goals(try dsimp only)
      all_goals first|exact hall x hx|omega|(refine⟨?_,?_⟩<;>rw[aE (by omega)]<;>omega)|exact dZ (l:=[-1,4]) (j:=(aT l (p+1+1+1+1+1+1) 2).toNat) (by decide) (by simp;omega)|exact dZ (l:=[0,99,100]) (j:=(aT l (p+1+1+1+1+1+1) 3).toNat) (by decide) (by simp;omega)|exact dZ (l:=[0,999,1000]) (j:=(aT l (p+1+1+1+1+1+1) 3).toNat) (by decide) (by simp;omega)
      done)
    |(refine cV _ ⟨⟨?za1,?zb1,?zc1,?zd1,y⟩,q,?zn1,⟨by omega,by omega⟩,rfl⟩ (eN _ [] [] rfl ?_ rfl rfl)
      repeat' first|exact trivial|refine lH rfl ?_|refine cJ rfl ?_ ?_|refine jI rfl rfl ?_ rfl ?_|refine bW rfl ?_ ?_|refine bU rfl rfl rfl rfl ?_|refine aZ rfl ?_ ?_|refine dD rfl ?_ ?_|exact aH|refine aF ?_ ?_|refine jC ?_|refine bK rfl ?_ rfl ?_|refine eJ rfl rfl rfl ?_
      try any_goals with_reducible rfl
      try any_goals rfl
      refine⟨⟨?_,?_,?_,?_⟩,?_⟩
      all_goals(try dsimp only)
      all_goals first|exact hq.2.2|omega|(refine⟨?_,?_⟩<;>rw[aE (by omega)]<;>omega)|exact dZ (l:=[-1,4]) (j:=(aT l (p+1+1+1+1+1+1) 2).toNat) (by decide) (by simp;omega)|exact dZ (l:=[0,99,100]) (j:=(aT l (p+1+1+1+1+1+1) 3).toNat) (by decide) (by simp;omega)|exact dZ (l:=[0,999,1000]) (j:=(aT l (p+1+1+1+1+1+1) 3).toNat) (by decide) (by simp;omega)
      done)
 refine sq (rT [0,2,3,19,28] (s2 (cd rfl (fun c28=> ?_) fun c28=> ?_)))
 · have hv:=cG l (p:=p+1+1+1+1+1+1) (n:=3) (by omega) (by omega)
   refine rT [2,3] (ai (by exact⟨by simp,by decide⟩) (s1 (bJ (robj:=[(0,.box 92 [.d (.sl (aC (l))),.d (.i (p+1+1+1+1+1+1))])]) (rl:=[(0,0)]) (bor:=[]) (cU (l) (p+1+1+1+1+1+1) _ (by omega) hl2) rfl rfl rfl rfl ⟨bU rfl rfl rfl rfl (cJ rfl rfl (aZ rfl (aF rfl (aF rfl aH)) trivial)),rfl⟩ rfl (.inl rfl) (aK ⟨rfl,trivial⟩) (fun _ hj=>nomatch hj) (ai ⟨rfl,hv.1,hv.2⟩ (ai (aG4 (l:=[0,99,100]) (by simp;omega) rfl) (s2 (sq (rT [2] (s2 (rt ?_))))))))))
   first
    |(refine cV _ ⟨⟨?za2,?zb2,?zc2,?zd2,x⟩,p+1+1+1+1+1+1+1,?zn2,⟨by omega,by omega⟩,rfl⟩ (eN _ [] [] rfl ?_ rfl rfl)
      repeat' first|exact trivial|refine lH rfl ?_|refine cJ rfl ?_ ?_|refine jI rfl rfl ?_ rfl ?_|refine bW rfl ?_ ?_|refine bU rfl rfl rfl rfl ?_|refine aZ rfl ?_ ?_|refine dD rfl ?_ ?_|exact aH|refine aF ?_ ?_|refine jC ?_|refine bK rfl ?_ rfl ?_|refine eJ rfl rfl rfl ?_
      try any_goals with_reducible rfl
      try any_goals rfl
      refine⟨⟨?_,?_,?_,?_⟩,?_⟩
      all_goals(try dsimp only)
      all_goals first|exact hall x hx|omega|(refine⟨?_,?_⟩<;>rw[aE (by omega)]<;>omega)|exact dZ (l:=[-1,4]) (j:=(aT l (p+1+1+1+1+1+1) 2).toNat) (by decide) (by simp;omega)|exact dZ (l:=[0,99,100]) (j:=(aT l (p+1+1+1+1+1+1) 3).toNat) (by decide) (by simp;omega)|exact dZ (l:=[0,999,1000]) (j:=(aT l (p+1+1+1+1+1+1) 3).toNat) (by decide) (by simp;omega)
      done)
    |(refine cV _ ⟨⟨?za2,?zb2,?zc2,?zd2,x⟩,p+1+1+1+1+1+1,?zn2,⟨by omega,by omega⟩,rfl⟩ (eN _ [] [] rfl ?_ rfl rfl)
      repeat' first|exact trivial|refine lH rfl ?_|refine cJ rfl ?_ ?_|refine jI rfl rfl ?_ rfl ?_|refine bW rfl ?_ ?_|refine bU rfl rfl rfl rfl ?_|refine aZ rfl ?_ ?_|refine dD rfl ?_ ?_|exact aH|refine aF ?_ ?_|refine jC ?_|refine bK rfl ?_ rfl ?_|refine eJ rfl rfl rfl ?_
      try any_goals with_reducible rfl
      try any_goals rfl
      refine⟨⟨?_,?_,?_,?_⟩,?_⟩
      all_goals(try dsimp only)
      all_goals first|exact hall x hx|omega|(refine⟨?_,?_⟩<;>rw[aE (by omega)]<;>omega)|exact dZ (l:=[-1,4]) (j:=(aT l (p+1+1+1+1+1+1) 2).toNat) (by decide) (by simp;omega)|exact dZ (l:=[0,99,100]) (j:=(aT l (p+1+1+1+1+1+1) 3).toNat) (by decide) (by simp;omega)|exact dZ (l:=[0,999,1000]) (j:=(aT l (p+1+1+1+1+1+1) 3).toNat) (by decide) (by simp;omega)
      done)
    |(refine cV _ ⟨⟨?za2,?zb2,?zc2,?zd2,y⟩,q,?zn2,⟨by omega,by omega⟩,rfl⟩ (eN _ [] [] rfl ?_ rfl rfl)
      repeat' first|exact trivial|refine lH rfl ?_|refine cJ rfl ?_ ?_|refine jI rfl rfl ?_ rfl ?_|refine bW rfl ?_ ?_|refine bU rfl rfl rfl rfl ?_|refine aZ rfl ?_ ?_|refine dD rfl ?_ ?_|exact aH|refine aF ?_ ?_|refine jC ?_|refine bK rfl ?_ rfl ?_|refine eJ rfl rfl rfl ?_
      try any_goals with_reducible rfl
      try any_goals rfl
      refine⟨⟨?_,?_,?_,?_⟩,?_⟩
      all_goals(try dsimp only)
      all_goals first|exact hq.2.2|omega|(refine⟨?_,?_⟩<;>rw[aE (by omega)]<;>omega)|exact dZ (l:=[-1,4]) (j:=(aT l (p+1+1+1+1+1+1) 2).toNat) (by decide) (by simp;omega)|exact dZ (l:=[0,99,100]) (j:=(aT l (p+1+1+1+1+1+1) 3).toNat) (by decide) (by simp;omega)|exact dZ (l:=[0,999,1000]) (j:=(aT l (p+1+1+1+1+1+1) 3).toNat) (by decide) (by simp;omega)
      done)
 refine sq (rT [0,2,3,19,36] (s2 (cd rfl (fun c36=> ?_) fun c36=> ?_)))
 · have hv:=cG l (p:=p+1+1+1+1+1+1) (n:=3) (by omega) (by omega)
   refine rT [2,3] (ai (by exact⟨by simp,by decide⟩) (s1 (bJ (robj:=[(0,.box 92 [.d (.sl (aC (l))),.d (.i (p+1+1+1+1+1+1))])]) (rl:=[(0,0)]) (bor:=[]) (cU (l) (p+1+1+1+1+1+1) _ (by omega) hl2) rfl rfl rfl rfl ⟨bU rfl rfl rfl rfl (cJ rfl rfl (aZ rfl (aF rfl (aF rfl aH)) trivial)),rfl⟩ rfl (.inl rfl) (aK ⟨rfl,trivial⟩) (fun _ hj=>nomatch hj) (ai ⟨rfl,hv.1,hv.2⟩ (ai (aG4 (l:=[0,999,1000]) (by simp;omega) rfl) (s2 (sq (rT [2] (s2 (rt ?_))))))))))
   first
    |(refine cV _ ⟨⟨?za3,?zb3,?zc3,?zd3,x⟩,p+1+1+1+1+1+1+1,?zn3,⟨by omega,by omega⟩,rfl⟩ (eN _ [] [] rfl ?_ rfl rfl)
      repeat' first|exact trivial|refine lH rfl ?_|refine cJ rfl ?_ ?_|refine jI rfl rfl ?_ rfl ?_|refine bW rfl ?_ ?_|refine bU rfl rfl rfl rfl ?_|refine aZ rfl ?_ ?_|refine dD rfl ?_ ?_|exact aH|refine aF ?_ ?_|refine jC ?_|refine bK rfl ?_ rfl ?_|refine eJ rfl rfl rfl ?_
      try any_goals with_reducible rfl
      try any_goals rfl
      refine⟨⟨?_,?_,?_,?_⟩,?_⟩
      all_goals(try dsimp only)
      all_goals first|exact hall x hx|omega|(refine⟨?_,?_⟩<;>rw[aE (by omega)]<;>omega)|exact dZ (l:=[-1,4]) (j:=(aT l (p+1+1+1+1+1+1) 2).toNat) (by decide) (by simp;omega)|exact dZ (l:=[0,99,100]) (j:=(aT l (p+1+1+1+1+1+1) 3).toNat) (by decide) (by simp;omega)|exact dZ (l:=[0,999,1000]) (j:=(aT l (p+1+1+1+1+1+1) 3).toNat) (by decide) (by simp;omega)
      done)
    |(refine cV _ ⟨⟨?za3,?zb3,?zc3,?zd3,x⟩,p+1+1+1+1+1+1,?zn3,⟨by omega,by omega⟩,rfl⟩ (eN _ [] [] rfl ?_ rfl rfl)
      repeat' first|exact trivial|refine lH rfl ?_|refine cJ rfl ?_ ?_|refine jI rfl rfl ?_ rfl ?_|refine bW rfl ?_ ?_|refine bU rfl rfl rfl rfl ?_|refine aZ rfl ?_ ?_|refine dD rfl ?_ ?_|exact aH|refine aF ?_ ?_|refine jC ?_|refine bK rfl ?_ rfl ?_|refine eJ rfl rfl rfl ?_
      try any_goals with_reducible rfl
      try any_goals rfl
      refine⟨⟨?_,?_,?_,?_⟩,?_⟩
      all_goals(try dsimp only)
      all_goals first|exact hall x hx|omega|(refine⟨?_,?_⟩<;>rw[aE (by omega)]<;>omega)|exact dZ (l:=[-1,4]) (j:=(aT l (p+1+1+1+1+1+1) 2).toNat) (by decide) (by simp;omega)|exact dZ (l:=[0,99,100]) (j:=(aT l (p+1+1+1+1+1+1) 3).toNat) (by decide) (by simp;omega)|exact dZ (l:=[0,999,1000]) (j:=(aT l (p+1+1+1+1+1+1) 3).toNat) (by decide) (by simp;omega)
      done)
    |(refine cV _ ⟨⟨?za3,?zb3,?zc3,?zd3,y⟩,q,?zn3,⟨by omega,by omega⟩,rfl⟩ (eN _ [] [] rfl ?_ rfl rfl)
      repeat' first|exact trivial|refine lH rfl ?_|refine cJ rfl ?_ ?_|refine jI rfl rfl ?_ rfl ?_|refine bW rfl ?_ ?_|refine bU rfl rfl rfl rfl ?_|refine aZ rfl ?_ ?_|refine dD rfl ?_ ?_|exact aH|refine aF ?_ ?_|refine jC ?_|refine bK rfl ?_ rfl ?_|refine eJ rfl rfl rfl ?_
      try any_goals with_reducible rfl
      try any_goals rfl
      refine⟨⟨?_,?_,?_,?_⟩,?_⟩
      all_goals(try dsimp only)
      all_goals first|exact hq.2.2|omega|(refine⟨?_,?_⟩<;>rw[aE (by omega)]<;>omega)|exact dZ (l:=[-1,4]) (j:=(aT l (p+1+1+1+1+1+1) 2).toNat) (by decide) (by simp;omega)|exact dZ (l:=[0,99,100]) (j:=(aT l (p+1+1+1+1+1+1) 3).toNat) (by decide) (by simp;omega)|exact dZ (l:=[0,999,1000]) (j:=(aT l (p+1+1+1+1+1+1) 3).toNat) (by decide) (by simp;omega)
      done)
 refine sq (rT [0,2,3,19,44] (s2 (cd rfl (fun c44=> ?_) fun c44=> ?_)))
 · refine rE [2,3] (s1 (cK (robj:=[(0,.box 92 [.d (.sl (aC (l))),.d (.i (p+1+1+1+1+1+1))])]) (rl:=[(0,0)]) (bor:=[]) (news:=[]) (wj l (p+1+1+1+1+1+1) (by omega) hl) rfl rfl rfl rfl ⟨bU rfl rfl rfl rfl (aZ rfl (aF rfl (aF rfl aH)) trivial),rfl⟩ (by rintro _ ⟨y,q,hq,rfl⟩;exact⟨rfl,.inl rfl,fun j hj=>nomatch hj⟩) (aK ⟨rfl,trivial⟩) (fun j hj=>nomatch hj) ?_))
   rintro _ ⟨y,q,hq,rfl⟩
   refine s2 (sq (rT [2] (s2 (rt ?_))))
   first
    |(refine cV _ ⟨⟨?za4,?zb4,?zc4,?zd4,x⟩,p+1+1+1+1+1+1+1,?zn4,⟨by omega,by omega⟩,rfl⟩ (eN _ [] [] rfl ?_ rfl rfl)
      repeat' first|exact trivial|refine lH rfl ?_|refine cJ rfl ?_ ?_|refine jI rfl rfl ?_ rfl ?_|refine bW rfl ?_ ?_|refine bU rfl rfl rfl rfl ?_|refine aZ rfl ?_ ?_|refine dD rfl ?_ ?_|exact aH|refine aF ?_ ?_|refine jC ?_|refine bK rfl ?_ rfl ?_|refine eJ rfl rfl rfl ?_
      try any_goals with_reducible rfl
      try any_goals rfl
      refine⟨⟨?_,?_,?_,?_⟩,?_⟩
      all_goals(try dsimp only)
      all_goals first|exact hall x hx|omega|(refine⟨?_,?_⟩<;>rw[aE (by omega)]<;>omega)|exact dZ (l:=[-1,4]) (j:=(aT l (p+1+1+1+1+1+1) 2).toNat) (by decide) (by simp;omega)|exact dZ (l:=[0,99,100]) (j:=(aT l (p+1+1+1+1+1+1) 3).toNat) (by decide) (by simp;omega)|exact dZ (l:=[0,999,1000]) (j:=(aT l (p+1+1+1+1+1+1) 3).toNat) (by decide) (by simp;omega)
      done)
    |(refine cV _ ⟨⟨?za4,?zb4,?zc4,?zd4,x⟩,p+1+1+1+1+1+1,?zn4,⟨by omega,by omega⟩,rfl⟩ (eN _ [] [] rfl ?_ rfl rfl)
      repeat' first|exact trivial|refine lH rfl ?_|refine cJ rfl ?_ ?_|refine jI rfl rfl ?_ rfl ?_|refine bW rfl ?_ ?_|refine bU rfl rfl rfl rfl ?_|refine aZ rfl ?_ ?_|refine dD rfl ?_ ?_|exact aH|refine aF ?_ ?_|refine jC ?_|refine bK rfl ?_ rfl ?_|refine eJ rfl rfl rfl ?_
      try any_goals with_reducible rfl
      try any_goals rfl
      refine⟨⟨?_,?_,?_,?_⟩,?_⟩
      all_goals(try dsimp only)
      all_goals first|exact hall x hx|omega|(refine⟨?_,?_⟩<;>rw[aE (by omega)]<;>omega)|exact dZ (l:=[-1,4]) (j:=(aT l (p+1+1+1+1+1+1) 2).toNat) (by decide) (by simp;omega)|exact dZ (l:=[0,99,100]) (j:=(aT l (p+1+1+1+1+1+1) 3).toNat) (by decide) (by simp;omega)|exact dZ (l:=[0,999,1000]) (j:=(aT l (p+1+1+1+1+1+1) 3).toNat) (by decide) (by simp;omega)
      done)
    |(refine cV _ ⟨⟨?za4,?zb4,?zc4,?zd4,y⟩,q,?zn4,⟨by omega,by omega⟩,rfl⟩ (eN _ [] [] rfl ?_ rfl rfl)
      repeat' first|exact trivial|refine lH rfl ?_|refine cJ rfl ?_ ?_|refine jI rfl rfl ?_ rfl ?_|refine bW rfl ?_ ?_|refine bU rfl rfl rfl rfl ?_|refine aZ rfl ?_ ?_|refine dD rfl ?_ ?_|exact aH|refine aF ?_ ?_|refine jC ?_|refine bK rfl ?_ rfl ?_|refine eJ rfl rfl rfl ?_
      try any_goals with_reducible rfl
      try any_goals rfl
      refine⟨⟨?_,?_,?_,?_⟩,?_⟩
      all_goals(try dsimp only)
      all_goals first|exact hq.2.2|omega|(refine⟨?_,?_⟩<;>rw[aE (by omega)]<;>omega)|exact dZ (l:=[-1,4]) (j:=(aT l (p+1+1+1+1+1+1) 2).toNat) (by decide) (by simp;omega)|exact dZ (l:=[0,99,100]) (j:=(aT l (p+1+1+1+1+1+1) 3).toNat) (by decide) (by simp;omega)|exact dZ (l:=[0,999,1000]) (j:=(aT l (p+1+1+1+1+1+1) 3).toNat) (by decide) (by simp;omega)
      done)
 refine sq (rT [0,2,3,49] (s2 (cd rfl (fun c49=> ?_) fun c49=> ?_)))
 · have hv:=cG l (p:=p+1+1+1+1+1+1) (n:=2) (by omega) (by omega)
   refine rT [2,3] (ai (by exact⟨by simp,by decide⟩) (s1 (bJ (robj:=[(0,.box 92 [.d (.sl (aC (l))),.d (.i (p+1+1+1+1+1+1))])]) (rl:=[(0,0)]) (bor:=[]) (cU (l) (p+1+1+1+1+1+1) _ (by omega) hl2) rfl rfl rfl rfl ⟨bU rfl rfl rfl rfl (cJ rfl rfl (aZ rfl (aF rfl (aF rfl aH)) trivial)),rfl⟩ rfl (.inl rfl) (aK ⟨rfl,trivial⟩) (fun _ hj=>nomatch hj) (ai ⟨rfl,hv.1,hv.2⟩ (ai (aG4 (l:=[-1,4]) (by simp;omega) rfl) (s2 (sq (rT [2] (s2 (rt ?_))))))))))
   first
    |(refine cV _ ⟨⟨?za5,?zb5,?zc5,?zd5,x⟩,p+1+1+1+1+1+1+1,?zn5,⟨by omega,by omega⟩,rfl⟩ (eN _ [] [] rfl ?_ rfl rfl)
      repeat' first|exact trivial|refine lH rfl ?_|refine cJ rfl ?_ ?_|refine jI rfl rfl ?_ rfl ?_|refine bW rfl ?_ ?_|refine bU rfl rfl rfl rfl ?_|refine aZ rfl ?_ ?_|refine dD rfl ?_ ?_|exact aH|refine aF ?_ ?_|refine jC ?_|refine bK rfl ?_ rfl ?_|refine eJ rfl rfl rfl ?_
      try any_goals with_reducible rfl
      try any_goals rfl
      refine⟨⟨?_,?_,?_,?_⟩,?_⟩
      all_goals(try dsimp only)
      all_goals first|exact hall x hx|omega|(refine⟨?_,?_⟩<;>rw[aE (by omega)]<;>omega)|exact dZ (l:=[-1,4]) (j:=(aT l (p+1+1+1+1+1+1) 2).toNat) (by decide) (by simp;omega)|exact dZ (l:=[0,99,100]) (j:=(aT l (p+1+1+1+1+1+1) 3).toNat) (by decide) (by simp;omega)|exact dZ (l:=[0,999,1000]) (j:=(aT l (p+1+1+1+1+1+1) 3).toNat) (by decide) (by simp;omega)
      done)
    |(refine cV _ ⟨⟨?za5,?zb5,?zc5,?zd5,x⟩,p+1+1+1+1+1+1,?zn5,⟨by omega,by omega⟩,rfl⟩ (eN _ [] [] rfl ?_ rfl rfl)
      repeat' first|exact trivial|refine lH rfl ?_|refine cJ rfl ?_ ?_|refine jI rfl rfl ?_ rfl ?_|refine bW rfl ?_ ?_|refine bU rfl rfl rfl rfl ?_|refine aZ rfl ?_ ?_|refine dD rfl ?_ ?_|exact aH|refine aF ?_ ?_|refine jC ?_|refine bK rfl ?_ rfl ?_|refine eJ rfl rfl rfl ?_
      try any_goals with_reducible rfl
      try any_goals rfl
      refine⟨⟨?_,?_,?_,?_⟩,?_⟩
      all_goals(try dsimp only)
      all_goals first|exact hall x hx|omega|(refine⟨?_,?_⟩<;>rw[aE (by omega)]<;>omega)|exact dZ (l:=[-1,4]) (j:=(aT l (p+1+1+1+1+1+1) 2).toNat) (by decide) (by simp;omega)|exact dZ (l:=[0,99,100]) (j:=(aT l (p+1+1+1+1+1+1) 3).toNat) (by decide) (by simp;omega)|exact dZ (l:=[0,999,1000]) (j:=(aT l (p+1+1+1+1+1+1) 3).toNat) (by decide) (by simp;omega)
      done)
    |(refine cV _ ⟨⟨?za5,?zb5,?zc5,?zd5,y⟩,q,?zn5,⟨by omega,by omega⟩,rfl⟩ (eN _ [] [] rfl ?_ rfl rfl)
      repeat' first|exact trivial|refine lH rfl ?_|refine cJ rfl ?_ ?_|refine jI rfl rfl ?_ rfl ?_|refine bW rfl ?_ ?_|refine bU rfl rfl rfl rfl ?_|refine aZ rfl ?_ ?_|refine dD rfl ?_ ?_|exact aH|refine aF ?_ ?_|refine jC ?_|refine bK rfl ?_ rfl ?_|refine eJ rfl rfl rfl ?_
      try any_goals with_reducible rfl
      try any_goals rfl
      refine⟨⟨?_,?_,?_,?_⟩,?_⟩
      all_goals(try dsimp only)
      all_goals first|exact hq.2.2|omega|(refine⟨?_,?_⟩<;>rw[aE (by omega)]<;>omega)|exact dZ (l:=[-1,4]) (j:=(aT l (p+1+1+1+1+1+1) 2).toNat) (by decide) (by simp;omega)|exact dZ (l:=[0,99,100]) (j:=(aT l (p+1+1+1+1+1+1) 3).toNat) (by decide) (by simp;omega)|exact dZ (l:=[0,999,1000]) (j:=(aT l (p+1+1+1+1+1+1) 3).toNat) (by decide) (by simp;omega)
      done)
 refine sk (sq (rT [2] (s2 (rt ?_))))
 first
  |(refine cV _ ⟨⟨?za6,?zb6,?zc6,?zd6,x⟩,p+1+1+1+1+1+1+1,?zn6,⟨by omega,by omega⟩,rfl⟩ (eN _ [] [] rfl ?_ rfl rfl)
    repeat' first|exact trivial|refine lH rfl ?_|refine cJ rfl ?_ ?_|refine jI rfl rfl ?_ rfl ?_|refine bW rfl ?_ ?_|refine bU rfl rfl rfl rfl ?_|refine aZ rfl ?_ ?_|refine dD rfl ?_ ?_|exact aH|refine aF ?_ ?_|refine jC ?_|refine bK rfl ?_ rfl ?_|refine eJ rfl rfl rfl ?_
    try any_goals with_reducible rfl
    try any_goals rfl
    refine⟨⟨?_,?_,?_,?_⟩,?_⟩
    all_goals(try dsimp only)
    all_goals first|exact hall x hx|omega|(refine⟨?_,?_⟩<;>rw[aE (by omega)]<;>omega)|exact dZ (l:=[-1,4]) (j:=(aT l (p+1+1+1+1+1+1) 2).toNat) (by decide) (by simp;omega)|exact dZ (l:=[0,99,100]) (j:=(aT l (p+1+1+1+1+1+1) 3).toNat) (by decide) (by simp;omega)|exact dZ (l:=[0,999,1000]) (j:=(aT l (p+1+1+1+1+1+1) 3).toNat) (by decide) (by simp;omega)
    done)
  |(refine cV _ ⟨⟨?za6,?zb6,?zc6,?zd6,x⟩,p+1+1+1+1+1+1,?zn6,⟨by omega,by omega⟩,rfl⟩ (eN _ [] [] rfl ?_ rfl rfl)
    repeat' first|exact trivial|refine lH rfl ?_|refine cJ rfl ?_ ?_|refine jI rfl rfl ?_ rfl ?_|refine bW rfl ?_ ?_|refine bU rfl rfl rfl rfl ?_|refine aZ rfl ?_ ?_|refine dD rfl ?_ ?_|exact aH|refine aF ?_ ?_|refine jC ?_|refine bK rfl ?_ rfl ?_|refine eJ rfl rfl rfl ?_
    try any_goals with_reducible rfl
    try any_goals rfl
    refine⟨⟨?_,?_,?_,?_⟩,?_⟩
    all_goals(try dsimp only)
    all_goals first|exact hall x hx|omega|(refine⟨?_,?_⟩<;>rw[aE (by omega)]<;>omega)|exact dZ (l:=[-1,4]) (j:=(aT l (p+1+1+1+1+1+1) 2).toNat) (by decide) (by simp;omega)|exact dZ (l:=[0,99,100]) (j:=(aT l (p+1+1+1+1+1+1) 3).toNat) (by decide) (by simp;omega)|exact dZ (l:=[0,999,1000]) (j:=(aT l (p+1+1+1+1+1+1) 3).toNat) (by decide) (by simp;omega)
    done)
  |(refine cV _ ⟨⟨?za6,?zb6,?zc6,?zd6,y⟩,q,?zn6,⟨by omega,by omega⟩,rfl⟩ (eN _ [] [] rfl ?_ rfl rfl)
    repeat' first|exact trivial|refine lH rfl ?_|refine cJ rfl ?_ ?_|refine jI rfl rfl ?_ rfl ?_|refine bW rfl ?_ ?_|refine bU rfl rfl rfl rfl ?_|refine aZ rfl ?_ ?_|refine dD rfl ?_ ?_|exact aH|refine aF ?_ ?_|refine jC ?_|refine bK rfl ?_ rfl ?_|refine eJ rfl rfl rfl ?_
    try any_goals with_reducible rfl
    try any_goals rfl
    refine⟨⟨?_,?_,?_,?_⟩,?_⟩
    all_goals(try dsimp only)
    all_goals first|exact hq.2.2|omega|(refine⟨?_,?_⟩<;>rw[aE (by omega)]<;>omega)|exact dZ (l:=[-1,4]) (j:=(aT l (p+1+1+1+1+1+1) 2).toNat) (by decide) (by simp;omega)|exact dZ (l:=[0,99,100]) (j:=(aT l (p+1+1+1+1+1+1) 3).toNat) (by decide) (by simp;omega)|exact dZ (l:=[0,999,1000]) (j:=(aT l (p+1+1+1+1+1+1) 3).toNat) (by decide) (by simp;omega)
    done)
theorem qQ (l:List aR) (hl:l.length≤100000):Sp 24 2 [tD 0 (.sl (aD l)),tD 1 (.sl (aD l))] [tB 0 true]:=by
 refine sb Tryz.func24 rfl (sq (rT [0,1] (s1 (sq (sq (rT [0,1,10] (s5 (cd rfl (fun c10=> ?_) fun c10=> ?_))))))))
 · simp at c10
 refine sk (sq (sq (rT [0,1,5] (s1 (bk (SW.loopW (n:=l.length) (fun n s=> ∃i:Nat,n=l.length - i∧i≤l.length∧s=[tD 0 (.sl (aD l)),tD 1 (.sl (aD l)),tI 5 (i:Nat)]) ?_ ?_))))))
 · exact wq (σ':=[tD 0 (.sl (aD l)),tD 1 (.sl (aD l)),tI 5 (0:Nat)]) [] [] (⟨0,rfl,aVa _,rfl⟩) qz
 rintro n s ⟨i,rfl,hi,rfl⟩
 refine sq (sq (rT [0,1,5,14] (s4 (cd rfl (fun c14=> ?_) fun c14=> ?_))))
 · have hi2:i<l.length:=by simpa[aA] using c14
   have hg:=aQ (l:=l) hi2
   have hlen:=aA l
   refine sk (sq (bk (sq (rD [0,1,5,25] (s2 (ai (by rw[aU4,hg];exact⟨⟨by omega,by rw[hlen];omega⟩,rfl⟩) (ai (by rw[aU4,hg];exact⟨aU6 rfl,rfl⟩) (s2 (ai (by rw[aU4,hg];exact⟨⟨by omega,by rw[hlen];omega⟩,rfl⟩) (ai (by rw[aU4,hg];exact⟨aU6 rfl,rfl⟩) (aG6 dH (gI xj.zero ((aD l).getD (Int.toNat (i:Int)) []) 0) (gI xj.zero ((aD l).getD (Int.toNat (i:Int)) []) 0) rfl rfl rfl (by kernel_rfl) (by kernel_rfl) (by kernel_rfl) (by kernel_rfl) rfl rfl (ai (by kernel_rfl) (cd rfl (fun c25=> ?_) fun c25=> ?_)))))))))))))
   · exact absurd c25 (by simp[wN,eqD,gI,av])
   refine sk (rT [0,1,5] (s3 (wq [] [] (⟨l.length - (i+1),by omega,i+1,rfl,by omega,rfl⟩) ?_)))
   repeat' apply ai
   all_goals first|exact qx|exact congrArg D.i (aE (by omega))|rfl|exact qz
 refine xt (sq (rT [4] (s1 (rt (bH rfl ?_)))))
 rfl
theorem wl (l:List bQ) (hl:l.length≤100000):Sp 40 2 [tD 0 (.sl (aJ l)),tD 1 (.sl (aJ l))] [tB 0 true]:=by
 refine sb Tryz.func40 rfl (sq (rT [0,1] (s1 (sq (sq (rT [0,1,10] (s5 (cd rfl (fun c10=> ?_) fun c10=> ?_))))))))
 · simp at c10
 refine sk (sq (sq (rT [0,1,5] (s1 (bk (SW.loopW (n:=l.length) (fun n s=> ∃i:Nat,n=l.length - i∧i≤l.length∧s=[tD 0 (.sl (aJ l)),tD 1 (.sl (aJ l)),tI 5 (i:Nat)]) ?_ ?_))))))
 · exact wq (σ':=[tD 0 (.sl (aJ l)),tD 1 (.sl (aJ l)),tI 5 (0:Nat)]) [] [] (⟨0,rfl,aVa _,rfl⟩) qz
 rintro n s ⟨i,rfl,hi,rfl⟩
 refine sq (sq (rT [0,1,5,14] (s4 (cd rfl (fun c14=> ?_) fun c14=> ?_))))
 · have hi2:i<l.length:=by simpa[aB] using c14
   have hg:=bM (l:=l) hi2
   have hlen:=aB l
   refine sk (sq (bk (sq (rD [0,1,5,25] (s2 (ai (by rw[aU4,hg];exact⟨⟨by omega,by rw[hlen];omega⟩,rfl⟩) (ai (by rw[aU4,hg];exact⟨aU6 rfl,rfl⟩) (s2 (ai (by rw[aU4,hg];exact⟨⟨by omega,by rw[hlen];omega⟩,rfl⟩) (ai (by rw[aU4,hg];exact⟨aU6 rfl,rfl⟩) (aG6 dH (gI aJ5.zero ((aJ l).getD (Int.toNat (i:Int)) []) 0) (gI aJ5.zero ((aJ l).getD (Int.toNat (i:Int)) []) 0) rfl rfl rfl (by kernel_rfl) (by kernel_rfl) (by kernel_rfl) (by kernel_rfl) rfl rfl (ai (by kernel_rfl) (cd rfl (fun c25=> ?_) fun c25=> ?_)))))))))))))
   · exact absurd c25 (by simp[wN,eqD,gI,av])
   refine sk (rT [0,1,5] (s3 (wq [] [] (⟨l.length - (i+1),by omega,i+1,rfl,by omega,rfl⟩) ?_)))
   repeat' apply ai
   all_goals first|exact qx|exact congrArg D.i (aE (by omega))|rfl|exact qz
 refine xt (sq (rT [4] (s1 (rt (bH rfl ?_)))))
 rfl
set_option maxHeartbeats 800000 in
theorem eZ (k:aL) (hk:KB k):Sp 17 2 [tV 0 k.V,tV 1 k.V] [tB 0 true]:=by
 refine sb Tryz.func17 rfl (sq (rT [2,3,11,12,13,14,15,18,19,20,21,22,25,26,27,28,29,32,33,34,35,36,39,40,41,42,43] (s3 (sq (rT [4] (s6 (y4 (y1 (ai pk (s1 (y4 (y1 (ai pk (s1 (y4 (xc (fun h=>qQ k.held (by have:=hk.1;omega)) (ai rfl (ai rk ?_))))))))))))))))))
 refine ai pk (s1 (y4 (xc (fun h=>wl k.marks (by have:=hk.1;omega)) (ai rfl (ai rk ?_)))))
 refine ai pk (s1 (y4 (xc (fun h=>qQ k.inbox (by have:=hk.1;omega)) (ai rfl (ai rk ?_)))))
 refine ai pk (s1 (rt (bH rfl (congrArg D.b ?_))))
 simp
theorem wE (a b c:Int) (h:R1 a∧R1 b∧R1 c):qu 89 3 [tI 0 a,tI 1 b,tI 2 c] (fun s=> ∃x:List UInt8,x.length≤60∧s=[tD 0 (.s x)]):=by
 have q1:=nu h.1
 have q2:=nu h.2.1
 have q3:=nu h.2.2
 refine vt Tryz.func89 rfl (sq (rT [0,1,2] (s1 (sq (rT [6] (s1 (xp (vG a (by omega)) (ai rfl ?_))))))))
 refine ai (by first|trivial|(show _≤9223372036854775807;(try simp only[aU5,aU9,aU8]);omega)) (s1 (xp (vG b (by omega)) (ai rfl ?_)))
 refine ai (by first|trivial|(show _≤9223372036854775807;(try simp only[aU5,aU9,aU8]);omega)) (ai (by first|trivial|(show _≤9223372036854775807;(try simp only[aU5,aU9,aU8]);omega)) (s1 (xp (vG c (by omega)) (ai rfl ?_))))
 refine ai (by first|trivial|(show _≤9223372036854775807;(try simp only[aU5,aU9,aU8]);omega)) (s1 (rt ?_))
 exact cV _ ⟨jh a++[32]++jh b++[32]++jh c,by simp only[aU5,aU9,aU8];omega,rfl⟩ (bH rfl rfl)
set_option maxHeartbeats 800000 in
theorem yq (l:List UInt8) (p:Int) (hp:0≤p∧p≤790000) (hl:l.length≤2000):qu 90 1 [tP 0 0,oB 0 92 [.d (.sl (aC l)),.d (.i (p))]] (fun s=> ∃(x:List UInt8) (q:Int),(p≤q∧q≤p+70∧x.length≤130)∧s=[tD 0 (.s x),oB 0 92 [.d (.sl (aC l)),.d (.i (q))]]):=by
 have hall: ∀y∈([[111,119,110,32],[116,97,107,101,32],[116,97,107,101,32],[104,101,108,100,32],[105,110,98,111,120,32]]:List (List UInt8)),y.length≤10:=by decide
 refine vt Tryz.func90 rfl (sq (rT [0] (s1 (sq (sq (rT [0,4] (s1 (bJ (robj:=[(0,.box 92 [.d (.sl (aC (l))),.d (.i (p))])]) (rl:=[(0,0)]) (bor:=[]) (cU (l) (p) _ (by omega) hl) rfl rfl rfl rfl ⟨bU rfl rfl rfl rfl (cJ rfl rfl (aZ rfl (aF rfl (aF rfl aH)) trivial)),rfl⟩ rfl (.inl rfl) (aK ⟨rfl,trivial⟩) (fun _ hj=>nomatch hj) (bk (sq (rT [0,4,5] (ai (by first|trivial|(show _≤9223372036854775807;(try simp only[aU5,aU9,aU8]);omega)) (s1 (cd rfl (fun c5=> ?_) fun c5=> ?_))))))))))))))
 · refine sq (rT [2] (s1 (bJ (robj:=[(0,.box 92 [.d (.sl (aC (l))),.d (.i (p+1))])]) (rl:=[(0,0)]) (bor:=[]) (cU (l) (p+1) _ (by omega) hl) rfl rfl rfl rfl ⟨bU rfl rfl rfl rfl (cJ rfl rfl (aZ rfl (aF rfl (aF rfl aH)) trivial)),rfl⟩ rfl (.inl rfl) (aK ⟨rfl,trivial⟩) (fun _ hj=>nomatch hj) ?_)))
   have hpv:=cG l (p:=p+1) (n:=30) (by omega) (by omega)
   have q1:=bZ (k:=6) (n:=(aT l (p+1) 30).toNat) (by simp;omega)
   refine xp (kH (aT l (p+1) 30) (by omega)) (ai rfl ?_)
   refine ai (by first|trivial|(show _≤9223372036854775807;(try simp only[aU5,aU9,aU8]);omega)) (s1 (rt (cV _ ⟨[116,105,109,101,32]++kC (aT l (p+1) 30).toNat,p+1+1,⟨by omega,by omega,by simp only[aU5,aU9,aU8];omega⟩,rfl⟩ (eN _ [] [] rfl ?_ rfl rfl))))
   refine qs ?_
   repeat' first|exact qx|apply ai
   all_goals rfl
 refine sq (rT [0,4,11] (ai (by first|trivial|(show _≤9223372036854775807;(try simp only[aU5,aU9,aU8]);omega)) (s1 (cd rfl (fun c11=> ?_) fun c11=> ?_))))
 · refine sq (rE [2] (s1 (gY (bJ (robj:=[(0,.box 92 [.d (.sl (aC (l))),.d (.i (p+1))])]) (rl:=[(0,0)]) (bor:=[]) (cU (l) (p+1) _ (by omega) hl) rfl rfl rfl rfl ⟨bU rfl rfl rfl rfl (cJ rfl rfl (aZ rfl (aF rfl (aF rfl aH)) trivial)),rfl⟩ rfl (.inl rfl) (aK ⟨rfl,trivial⟩) (fun _ hj=>nomatch hj) (s1 (gY (bJ (robj:=[(0,.box 92 [.d (.sl (aC (l))),.d (.i (p+1+1))])]) (rl:=[(0,0)]) (bor:=[]) (cU (l) (p+1+1) _ (by omega) hl) rfl rfl rfl rfl ⟨bU rfl rfl rfl rfl (cJ rfl rfl (aZ rfl (aF rfl (aF rfl aH)) trivial)),rfl⟩ rfl (.inl rfl) (aK ⟨rfl,trivial⟩) (fun _ hj=>nomatch hj) (ai (by first|trivial|(show _≤9223372036854775807;(try simp only[aU5,aU9,aU8]);omega)) (s1 (gY (bJ (robj:=[(0,.box 92 [.d (.sl (aC (l))),.d (.i (p+1+1+1))])]) (rl:=[(0,0)]) (bor:=[]) (cU (l) (p+1+1+1) _ (by omega) hl) rfl rfl rfl rfl ⟨bU rfl rfl rfl rfl (cJ rfl rfl (aZ rfl (aF rfl (aF rfl aH)) trivial)),rfl⟩ rfl (.inl rfl) (aK ⟨rfl,trivial⟩) (fun _ hj=>nomatch hj) ?_)))))))))))
   refine ai (by first|trivial|(show _≤9223372036854775807;(try simp only[aU5,aU9,aU8]);omega)) (cK (robj:=[]) (rl:=[]) (bor:=[]) (news:=[]) (wE (aT l (p+1) 4) (wrap64 (1+aT l (p+1+1) 3)) (wrap64 (1+aT l (p+1+1+1) 30)) (by have:=cG l (p:=p+1) (n:=4) (by omega) (by omega);have:=cG l (p:=p+1+1) (n:=3) (by omega) (by omega);have:=cG l (p:=p+1+1+1) (n:=30) (by omega) (by omega);rw[aE (by omega),aE (by omega)];omega)) rfl rfl rfl rfl ⟨cJ rfl rfl (cJ rfl rfl (cJ rfl rfl (trivial))),rfl⟩ (by rintro _ ⟨y,hy,rfl⟩;exact⟨rfl,.inl rfl,fun j hj=>nomatch hj⟩) (fun p hp=>nomatch hp) (fun j hj=>nomatch hj) ?_)
   rintro _ ⟨y,hy,rfl⟩
   refine ai (by first|trivial|(show _≤9223372036854775807;(try simp only[aU5,aU9,aU8]);omega)) (s1 (rt (cV _ ⟨[108,101,116,32]++y,p+1+1+1+1,⟨by omega,by omega,by simp only[aU5,aU9,aU8];omega⟩,rfl⟩ (eN _ [] [] rfl ?_ rfl rfl))))
   refine qs ?_
   repeat' first|exact qx|apply ai
   all_goals rfl
 refine sq (rT [0,4,23] (ai (by first|trivial|(show _≤9223372036854775807;(try simp only[aU5,aU9,aU8]);omega)) (s1 (cd rfl (fun c23=> ?_) fun c23=> ?_))))
 · refine sq (rE [2] (s1 (gY (bJ (robj:=[(0,.box 92 [.d (.sl (aC (l))),.d (.i (p+1))])]) (rl:=[(0,0)]) (bor:=[]) (cU (l) (p+1) _ (by omega) hl) rfl rfl rfl rfl ⟨bU rfl rfl rfl rfl (cJ rfl rfl (aZ rfl (aF rfl (aF rfl aH)) trivial)),rfl⟩ rfl (.inl rfl) (aK ⟨rfl,trivial⟩) (fun _ hj=>nomatch hj) (s1 (gY (bJ (robj:=[(0,.box 92 [.d (.sl (aC (l))),.d (.i (p+1+1))])]) (rl:=[(0,0)]) (bor:=[]) (cU (l) (p+1+1) _ (by omega) hl) rfl rfl rfl rfl ⟨bU rfl rfl rfl rfl (cJ rfl rfl (aZ rfl (aF rfl (aF rfl aH)) trivial)),rfl⟩ rfl (.inl rfl) (aK ⟨rfl,trivial⟩) (fun _ hj=>nomatch hj) (ai (by first|trivial|(show _≤9223372036854775807;(try simp only[aU5,aU9,aU8]);omega)) (s1 (gY (bJ (robj:=[(0,.box 92 [.d (.sl (aC (l))),.d (.i (p+1+1+1))])]) (rl:=[(0,0)]) (bor:=[]) (cU (l) (p+1+1+1) _ (by omega) hl) rfl rfl rfl rfl ⟨bU rfl rfl rfl rfl (cJ rfl rfl (aZ rfl (aF rfl (aF rfl aH)) trivial)),rfl⟩ rfl (.inl rfl) (aK ⟨rfl,trivial⟩) (fun _ hj=>nomatch hj) ?_)))))))))))
   refine ai (by first|trivial|(show _≤9223372036854775807;(try simp only[aU5,aU9,aU8]);omega)) (cK (robj:=[]) (rl:=[]) (bor:=[]) (news:=[]) (wE (aT l (p+1) 4) (wrap64 (1+aT l (p+1+1) 3)) (wrap64 (1+aT l (p+1+1+1) 30)) (by have:=cG l (p:=p+1) (n:=4) (by omega) (by omega);have:=cG l (p:=p+1+1) (n:=3) (by omega) (by omega);have:=cG l (p:=p+1+1+1) (n:=30) (by omega) (by omega);rw[aE (by omega),aE (by omega)];omega)) rfl rfl rfl rfl ⟨cJ rfl rfl (cJ rfl rfl (cJ rfl rfl (trivial))),rfl⟩ (by rintro _ ⟨y,hy,rfl⟩;exact⟨rfl,.inl rfl,fun j hj=>nomatch hj⟩) (fun p hp=>nomatch hp) (fun j hj=>nomatch hj) ?_)
   rintro _ ⟨y,hy,rfl⟩
   refine ai (by first|trivial|(show _≤9223372036854775807;(try simp only[aU5,aU9,aU8]);omega)) (s1 (rt (cV _ ⟨[101,97,116,32]++y,p+1+1+1+1,⟨by omega,by omega,by simp only[aU5,aU9,aU8];omega⟩,rfl⟩ (eN _ [] [] rfl ?_ rfl rfl))))
   refine qs ?_
   repeat' first|exact qx|apply ai
   all_goals rfl
 refine sq (rT [0,35] (ai (by first|trivial|(show _≤9223372036854775807;(try simp only[aU5,aU9,aU8]);omega)) (s1 (cd rfl (fun c35=> ?_) fun c35=> ?_))))
 · refine sq (rE [2] (s1 (cK (robj:=[]) (rl:=[]) (bor:=[]) (news:=[]) (sL [122] 60 rfl (by omega)) rfl rfl rfl rfl ⟨cJ rfl rfl (cJ rfl rfl (trivial)),rfl⟩ (by rintro _ ⟨x1,hx1,rfl⟩;exact⟨rfl,.inl rfl,fun j hj=>nomatch hj⟩) (fun p hp=>nomatch hp) (fun j hj=>nomatch hj) ?_)))
   rintro _ ⟨x1,hx1,rfl⟩
   refine cK (robj:=[]) (rl:=[]) (bor:=[]) (news:=[]) (sL [122] 61 rfl (by omega)) rfl rfl rfl rfl ⟨cJ rfl rfl (cJ rfl rfl (trivial)),rfl⟩ (by rintro _ ⟨x2,hx2,rfl⟩;exact⟨rfl,.inl rfl,fun j hj=>nomatch hj⟩) (fun p hp=>nomatch hp) (fun j hj=>nomatch hj) ?_
   rintro _ ⟨x2,hx2,rfl⟩
   refine ai (by exact⟨by simp,aU6 rfl⟩) (yK 40 40 rfl rfl rfl rfl (cK (robj:=[(0,.box 92 [.d (.sl (aC (l))),.d (.i (p+1))])]) (rl:=[(0,0)]) (bor:=[]) (news:=[]) (aLu (l) (p+1) (([[],[119,104,97,116],[116,105,109,101],[116,105,109,101,32,48],[116,105,109,101,32,48,49],[110,101,120,116,32,51],[110,101,120,116,32,49],[109,97,114,107,32,48,32,49,32,53],[109,97,114,107,32,48,32,49],[109,97,114,107,32,48,32,49,32,53,32],[104,101,108,100,32,48,32,49,32,50,32,57,32,120],[105,110,98,111,120,32,48,32,49,32,50,32,57,32,120],x1,x2]:List (List UInt8))) (by simp) (by omega) hl) rfl rfl rfl rfl ⟨bU rfl rfl rfl rfl (cJ rfl rfl (aZ rfl (aF rfl (aF rfl aH)) trivial)),rfl⟩ (by rintro _ ⟨x,hx,rfl⟩;exact⟨rfl,.inl rfl,fun j hj=>nomatch hj⟩) (aK ⟨rfl,trivial⟩) (fun j hj=>nomatch hj) ?_))
   rintro _ ⟨x,hx,rfl⟩
   refine s1 (rt (cV _ ⟨x,p+1+1,⟨by omega,by omega,?_⟩,rfl⟩ (eN _ [] [] rfl ?_ rfl rfl)))
   · simp at hx;rcases hx with rfl|rfl|rfl|rfl|rfl|rfl|rfl|rfl|rfl|rfl|rfl|rfl|rfl|rfl<;>first|omega|(simp;done)
   refine qs ?_
   repeat' first|exact qx|apply ai
   all_goals rfl
 refine sk (sq (rE [2] (s1 (ai (by exact⟨by simp,by decide⟩) (yK 43 43 rfl rfl rfl rfl (cK (robj:=[(0,.box 92 [.d (.sl (aC (l))),.d (.i (p+1))])]) (rl:=[(0,0)]) (bor:=[]) (news:=[]) (aLu (l) (p+1) (([[111,119,110,32],[116,97,107,101,32],[116,97,107,101,32],[104,101,108,100,32],[105,110,98,111,120,32]]:List (List UInt8))) (by simp) (by omega) hl) rfl rfl rfl rfl ⟨bU rfl rfl rfl rfl (cJ rfl rfl (aZ rfl (aF rfl (aF rfl aH)) trivial)),rfl⟩ (by rintro _ ⟨x,hx,rfl⟩;exact⟨rfl,.inl rfl,fun j hj=>nomatch hj⟩) (aK ⟨rfl,trivial⟩) (fun j hj=>nomatch hj) ?_))))))
 rintro _ ⟨x,hx,rfl⟩
 have hxl:=hall x hx
 refine s1 (cK (robj:=[(0,.box 92 [.d (.sl (aC (l))),.d (.i (p+1+1))])]) (rl:=[(0,0)]) (bor:=[]) (news:=[]) (qP l (p+1+1) (by omega) hl) rfl rfl rfl rfl ⟨bU rfl rfl rfl rfl (aZ rfl (aF rfl (aF rfl aH)) trivial),rfl⟩ (by rintro _ ⟨n1,q1,hn1,hq1,rfl⟩;exact⟨rfl,.inl rfl,fun j hj=>nomatch hj⟩) (aK ⟨rfl,trivial⟩) (fun j hj=>nomatch hj) ?_)
 rintro _ ⟨n1,q1,hn1,hq1,rfl⟩
 have hwl:=iS n1
 have hnt:=hn1.2
 refine gY (xp (fH n1 (by omega)) (ai rfl ?_))
 refine ai (by first|trivial|(show _≤9223372036854775807;(try simp only[aU5,aU9,aU8]);omega)) (s1 (rt (cV _ ⟨x++gD n1,q1,⟨by omega,by omega,by simp only[aU5,aU9,aU8];omega⟩,rfl⟩ (eN _ [] [] rfl ?_ rfl rfl))))
 refine qs ?_
 repeat' first|exact qx|apply ai
 all_goals rfl
set_option maxHeartbeats 1600000 in
theorem co (l:List UInt8) (p:Int) (k:aL) (hp:0≤p∧p≤780000) (hl:l.length≤2000) (hk:KD k):qu 54 2 [tP 0 0,tV 1 k.V,oB 0 92 [.d (.sl (aC l)),.d (.i (p))]] (fun s=> ∃(x:List UInt8) (q:Int),(p≤q∧q≤p+200∧x.length≤150)∧s=[tD 0 (.s x),oB 0 92 [.d (.sl (aC l)),.d (.i (q))]]):=by
 have hkt:=hk.time
 refine vt Tryz.func54 rfl (sq (rT [0,3] (s2 (sq (rE [0,3,5] (s1 (cK (robj:=[(0,.box 92 [.d (.sl (aC (l))),.d (.i (p))])]) (rl:=[(0,0)]) (bor:=[]) (news:=[]) (qP l p (by omega) hl) rfl rfl rfl rfl ⟨bU rfl rfl rfl rfl (aZ rfl (aF rfl (aF rfl aH)) trivial),rfl⟩ (by rintro _ ⟨n1,q1,hn1,hq1,rfl⟩;exact⟨rfl,.inl rfl,fun j hj=>nomatch hj⟩) (aK ⟨rfl,trivial⟩) (fun j hj=>nomatch hj) ?_)))))))
 rintro _ ⟨n1,q1,hn1,hq1,rfl⟩
 have hnt:=hn1.2
 refine s2 (SW.midW (fun s=>s=[tP 0 0,tP 3 3,tP 5 5,oB 0 92 [.d (.sl (aC l)),.d (.i (q1+1))],oB 3 26 [.d (.i (k).id),.d (.i (k).time),.d (.i (k).next),.d (.sl (aD (k).held)),.d (.sl (aJ (k).marks)),.d (.sl (aD (k).inbox))],oB 5 29 [.d (.i n1.frm),.d (.i n1.num),.d (.i n1.to),.d (.i n1.til),.d (.s n1.text)]]) ?_ ?_)
 · refine sq (rT [0,3,5,11] (s1 (bJ (robj:=[(0,.box 92 [.d (.sl (aC (l))),.d (.i (q1))])]) (rl:=[(0,0)]) (bor:=[]) (cU (l) (q1) _ (by omega) hl) rfl rfl rfl rfl ⟨bU rfl rfl rfl rfl (cJ rfl rfl (aZ rfl (aF rfl (aF rfl aH)) trivial)),rfl⟩ rfl (.inl rfl) (aK ⟨rfl,trivial⟩) (fun _ hj=>nomatch hj) (bk (sq (rT [0,3,5,11,12] (ai (by first|trivial|(show _≤9223372036854775807;(try simp only[aU5,aU9,aU8]);omega)) (s1 (cd rfl (fun c12=> ?_) fun c12=> ?_)))))))))
   · refine sq (rD [4] (s3 (bJ (robj:=[(0,.box 92 [.d (.sl (aC (l))),.d (.i (q1+1))])]) (rl:=[(0,0)]) (bor:=[]) (cU (l) (q1+1) _ (by omega) hl) rfl rfl rfl rfl ⟨bU rfl rfl rfl rfl (cJ rfl rfl (aZ rfl (aF rfl (aF rfl aH)) trivial)),rfl⟩ rfl (.inl rfl) (aK ⟨rfl,trivial⟩) (fun _ hj=>nomatch hj) (ai (by first|trivial|(show _≤9223372036854775807;(try simp only[aU5,aU9,aU8]);omega)) ?_))))
     have hpv:=cG l (p:=q1+1) (n:=3) (by omega) (by omega)
     have hrg: -1≤(wrap64 (k.time+aT l (q1+1) 3))∧(wrap64 (k.time+aT l (q1+1) 3))≤9999:=by rw[aE (by omega)];omega
     have qd:=lN hrg
     refine xp (vG (wrap64 (k.time+aT l (q1+1) 3)) hrg) (ai rfl ?_)
     refine ai (by first|trivial|(show _≤9223372036854775807;(try simp only[aU5,aU9,aU8]);omega)) (s1 (ai (by kernel_rfl) (rt (cV _ ⟨[116,105,109,101,32]++jh (wrap64 (k.time+aT l (q1+1) 3)),q1+1+1,⟨by omega,by omega,by simp only[aU5,aU9,aU8];omega⟩,rfl⟩ (eN _ [] [] rfl ?_ rfl rfl)))))
     refine qs ?_
     repeat' first|exact qx|apply ai
     all_goals rfl
   refine sq (rT [0,3,5,11,21] (ai (by first|trivial|(show _≤9223372036854775807;(try simp only[aU5,aU9,aU8]);omega)) (s1 (cd rfl (fun c21=> ?_) fun c21=> ?_))))
   · refine sq (rT [3,5] (s4 (sq (rT [5] (s4 (sq (rT [4] (s1 ?_))))))))
     have hwl:=iS (⟨k.id,k.next,n1.to,n1.til,n1.text⟩:aR)
     refine xp (fH (⟨k.id,k.next,n1.to,n1.til,n1.text⟩:aR) (by show n1.text.length≤_;omega)) (ai rfl ?_)
     refine ai (by first|trivial|(show _≤9223372036854775807;(try simp only[aU5,aU9,aU8]);omega)) (s1 (rt (cV _ ⟨[111,119,110,32]++gD (⟨k.id,k.next,n1.to,n1.til,n1.text⟩:aR),q1+1,⟨by omega,by omega,by simp only[aU5,aU9,aU8];omega⟩,rfl⟩ (eN _ [] [] rfl ?_ rfl rfl))))
     refine qs ?_
     repeat' first|exact qx|apply ai
     all_goals rfl
   refine sq (rT [0,3,5,11,32] (ai (by first|trivial|(show _≤9223372036854775807;(try simp only[aU5,aU9,aU8]);omega)) (s1 (cd rfl (fun c32=> ?_) fun c32=> ?_))))
   · refine sq (rT [0,3,5,37] (s3 (ai (by first|trivial|(show _≤9223372036854775807;(try simp only[aU5,aU9,aU8]);omega)) (cd rfl (fun c37=> ?_) fun c37=> ?_))))
     · refine sq ?_
       have hn0:0<k.held.length:=by have h9:=of_decide_eq_true c37;rw[aA] at h9;omega
       obtain⟨j,hj,hjl⟩: ∃j:Nat,aT l (q1+1) ((aD k.held).length:Int)=(j:Int)∧j<k.held.length:=by have:=cG l (p:=q1+1) (n:=((aD k.held).length:Int)) (by omega) (by rw[aA];omega);rw[aA] at *; exact⟨(aT l (q1+1) (k.held.length:Int)).toNat,by omega,by omega⟩
       refine rD [6] (s6 (bJ (robj:=[(0,.box 92 [.d (.sl (aC (l))),.d (.i (q1+1))])]) (rl:=[(0,0)]) (bor:=[]) (cU (l) (q1+1) _ (by omega) hl) rfl rfl rfl rfl ⟨bU rfl rfl rfl rfl (cJ rfl rfl (aZ rfl (aF rfl (aF rfl aH)) trivial)),rfl⟩ rfl (.inl rfl) (aK ⟨rfl,trivial⟩) (fun _ hj=>nomatch hj) (ai (by rw[hj,aU4,aQ hjl];exact⟨⟨by omega,by rw[aA];omega⟩,rfl⟩) (ai (by rw[hj,aU4,aQ hjl];exact⟨aU6 rfl,rfl⟩) (s2 (ai (by kernel_rfl) (sq (wa [tP 6 6,oB 0 92 [.d (.sl (aC l)),.d (.i (q1+1+1))],oB 6 29 [.d (.i (k.held.getD j .zero).frm),.d (.i (k.held.getD j .zero).num),.d (.i (k.held.getD j .zero).to),.d (.i (k.held.getD j .zero).til),.d (.s (k.held.getD j .zero).text)]] [] [] ?_ ?_))))))))
       · repeat' apply ai
         all_goals first|exact qx|((rw[hj,aU4,aQ hjl];rfl))|exact qz
       refine rE [4] (s6 (cK (robj:=[]) (rl:=[]) (bor:=[]) (news:=[]) (wE (k.held.getD j .zero).frm (k.held.getD j .zero).num (k.held.getD j .zero).til (by have h9:=(hk.held_at hjl).1;exact⟨h9.1,h9.2.1,h9.2.2.2⟩)) rfl rfl rfl rfl ⟨cJ rfl rfl (cJ rfl rfl (cJ rfl rfl (trivial))),rfl⟩ (by rintro _ ⟨y,hy,rfl⟩;exact⟨rfl,.inl rfl,fun j hj=>nomatch hj⟩) (fun p hp=>nomatch hp) (fun j hj=>nomatch hj) ?_))
       rintro _ ⟨y,hy,rfl⟩
       refine ai (by first|trivial|(show _≤9223372036854775807;(try simp only[aU5,aU9,aU8]);omega)) (s1 (rt (cV _ ⟨[108,101,116,32]++y,q1+1+1,⟨by omega,by omega,by simp only[aU5,aU9,aU8];omega⟩,rfl⟩ (eN _ [] [] rfl ?_ rfl rfl))))
       refine qs ?_
       repeat' first|exact qx|apply ai
       all_goals rfl
     exact sk (wq [] [] (rfl) qz)
   refine sq (rT [0,3,5,11,55] (ai (by first|trivial|(show _≤9223372036854775807;(try simp only[aU5,aU9,aU8]);omega)) (s1 (cd rfl (fun c55=> ?_) fun c55=> ?_))))
   · refine sq (rT [0,3,5,60] (s3 (ai (by first|trivial|(show _≤9223372036854775807;(try simp only[aU5,aU9,aU8]);omega)) (cd rfl (fun c60=> ?_) fun c60=> ?_))))
     · refine sq ?_
       have hn0:0<k.inbox.length:=by have h9:=of_decide_eq_true c60;rw[aA] at h9;omega
       obtain⟨j,hj,hjl⟩: ∃j:Nat,aT l (q1+1) ((aD k.inbox).length:Int)=(j:Int)∧j<k.inbox.length:=by have:=cG l (p:=q1+1) (n:=((aD k.inbox).length:Int)) (by omega) (by rw[aA];omega);rw[aA] at *; exact⟨(aT l (q1+1) (k.inbox.length:Int)).toNat,by omega,by omega⟩
       refine rD [7] (s6 (bJ (robj:=[(0,.box 92 [.d (.sl (aC (l))),.d (.i (q1+1))])]) (rl:=[(0,0)]) (bor:=[]) (cU (l) (q1+1) _ (by omega) hl) rfl rfl rfl rfl ⟨bU rfl rfl rfl rfl (cJ rfl rfl (aZ rfl (aF rfl (aF rfl aH)) trivial)),rfl⟩ rfl (.inl rfl) (aK ⟨rfl,trivial⟩) (fun _ hj=>nomatch hj) (ai (by rw[hj,aU4,aQ hjl];exact⟨⟨by omega,by rw[aA];omega⟩,rfl⟩) (ai (by rw[hj,aU4,aQ hjl];exact⟨aU6 rfl,rfl⟩) (s2 (ai (by kernel_rfl) (sq (wa [tP 7 7,oB 0 92 [.d (.sl (aC l)),.d (.i (q1+1+1))],oB 7 29 [.d (.i (k.inbox.getD j .zero).frm),.d (.i (k.inbox.getD j .zero).num),.d (.i (k.inbox.getD j .zero).to),.d (.i (k.inbox.getD j .zero).til),.d (.s (k.inbox.getD j .zero).text)]] [] [] ?_ ?_))))))))
       · repeat' apply ai
         all_goals first|exact qx|((rw[hj,aU4,aQ hjl];rfl))|exact qz
       refine rE [4] (s6 (cK (robj:=[]) (rl:=[]) (bor:=[]) (news:=[]) (wE (k.inbox.getD j .zero).frm (k.inbox.getD j .zero).num (k.inbox.getD j .zero).til (by have h9:=(hk.inbox_at hjl).1;exact⟨h9.1,h9.2.1,h9.2.2.2⟩)) rfl rfl rfl rfl ⟨cJ rfl rfl (cJ rfl rfl (cJ rfl rfl (trivial))),rfl⟩ (by rintro _ ⟨y,hy,rfl⟩;exact⟨rfl,.inl rfl,fun j hj=>nomatch hj⟩) (fun p hp=>nomatch hp) (fun j hj=>nomatch hj) ?_))
       rintro _ ⟨y,hy,rfl⟩
       refine ai (by first|trivial|(show _≤9223372036854775807;(try simp only[aU5,aU9,aU8]);omega)) (s1 (rt (cV _ ⟨[101,97,116,32]++y,q1+1+1,⟨by omega,by omega,by simp only[aU5,aU9,aU8];omega⟩,rfl⟩ (eN _ [] [] rfl ?_ rfl rfl))))
       refine qs ?_
       repeat' first|exact qx|apply ai
       all_goals rfl
     exact sk (wq [] [] (rfl) qz)
   refine sq (rT [0,3,5,78] (ai (by first|trivial|(show _≤9223372036854775807;(try simp only[aU5,aU9,aU8]);omega)) (s1 (cd rfl (fun c78=> ?_) fun c78=> ?_))))
   · refine sq (rE [4] (s1 (cK (robj:=[(0,.box 92 [.d (.sl (aC (l))),.d (.i (q1+1))])]) (rl:=[(0,0)]) (bor:=[]) (news:=[]) (yq l (q1+1) (by omega) hl) rfl rfl rfl rfl ⟨bU rfl rfl rfl rfl (aZ rfl (aF rfl (aF rfl aH)) trivial),rfl⟩ (by rintro _ ⟨x,q2,hx,rfl⟩;exact⟨rfl,.inl rfl,fun j hj=>nomatch hj⟩) (aK ⟨rfl,trivial⟩) (fun j hj=>nomatch hj) ?_)))
     rintro _ ⟨x,q2,hx,rfl⟩
     refine s1 (rt (cV _ ⟨x,q2,⟨by omega,by omega,by omega⟩,rfl⟩ (eN _ [] [] rfl ?_ rfl rfl)))
     refine qs ?_
     repeat' first|exact qx|apply ai
     all_goals rfl
   exact sk (wq [] [] (rfl) qz)
 rintro s rfl
 refine sq (rD [5] (s3 (bJ (robj:=[(0,.box 92 [.d (.sl (aC (l))),.d (.i (q1+1))])]) (rl:=[(0,0)]) (bor:=[]) (cU (l) (q1+1) _ (by omega) hl) rfl rfl rfl rfl ⟨bU rfl rfl rfl rfl (cJ rfl rfl (aZ rfl (aF rfl (aF rfl aH)) trivial)),rfl⟩ rfl (.inl rfl) (aK ⟨rfl,trivial⟩) (fun _ hj=>nomatch hj) (ai (by first|trivial|(show _≤9223372036854775807;(try simp only[aU5,aU9,aU8]);omega)) (s2 (ai (by kernel_rfl) (sq (rT [4] (s1 ?_)))))))))
 have hwl:=iS (⟨n1.frm,n1.num,n1.to,wrap64 (k.time+aT l (q1+1) 20),n1.text⟩:aR)
 refine xp (fH (⟨n1.frm,n1.num,n1.to,wrap64 (k.time+aT l (q1+1) 20),n1.text⟩:aR) (by show n1.text.length≤_;omega)) (ai rfl ?_)
 refine ai (by first|trivial|(show _≤9223372036854775807;(try simp only[aU5,aU9,aU8]);omega)) (s1 (rt (cV _ ⟨[116,97,107,101,32]++gD (⟨n1.frm,n1.num,n1.to,wrap64 (k.time+aT l (q1+1) 20),n1.text⟩:aR),q1+1+1,⟨by omega,by omega,by simp only[aU5,aU9,aU8];omega⟩,rfl⟩ (eN _ [] [] rfl ?_ rfl rfl))))
 refine qs ?_
 repeat' first|exact qx|apply ai
 all_goals rfl
theorem wm (l:List eI) (f m:Int) (hl:l.length≤1000000):Sp 189 3 [tD 0 (.sl (bR l)),tI 1 f,tI 2 m] [tI 0 (iR l f m)]:=by
 refine sb Tryz.func189 rfl (sq (rT [0,1,2,22,23,24,25,26,27,28] (s1 (sq (sq (rT [0,1,2,7,22,23,24,25,26,27,28] (s1 (bk (SW.loopW (n:=l.length) (fun n q=> ∃i:Nat,n=l.length - i∧i≤l.length∧(∀k,k<i→lO l f m k=false)∧q=[tD 0 (.sl (bR l)),tI 1 f,tI 2 m,tI 7 (i:Nat)]) ?_ ?_)))))))))
 · exact wq (σ':=[tD 0 (.sl (bR l)),tI 1 f,tI 2 m,tI 7 (0:Nat)]) [] [] (⟨0,rfl,aVa _,fun k h=>absurd h (by omega),rfl⟩) qz
 rintro n s ⟨i,rfl,hi,hk,rfl⟩
 refine sq (sq (rT [0,1,2,7,11,22,23,24,25,26,27,28] (s4 (cd rfl (fun c11=> ?_) fun c11=> ?_))))
 · have hi2:i<l.length:=by simpa[aP] using c11
   have hg:=iW (l:=l) hi2
   refine sk (sq (bk (sq (rT [0,1,2,7,22,23,24,25,26,27,28,29] (s2 (ai (by rw[aU4,hg];exact⟨⟨by omega,by rw[aP];omega⟩,rfl⟩) (s1 (ai (by rw[aU4,hg];exact⟨aU6 rfl,rfl⟩) (s3 (y2 (ai (fun h=>(by rw[aU4,hg];exact⟨⟨by omega,by rw[aP];omega⟩,rfl⟩)) (ai rk (y1 (ai (fun h=>(by rw[aU4,hg];exact⟨aU6 rfl,rfl⟩)) (ai rk (y2 (ai pk (cd rfl (fun c29=> ?_) fun c29=> ?_))))))))))))))))))
   · refine sq (rT [6] (s2 (rt (bH rfl (congrArg D.i ?_)))))
     have hs:lO l f m i=true:=by
      have h9:=c29
      rw[aU4,hg] at h9
      exact h9
     exact(pI (aVa _) (by omega) (fun j _ h=>hk j h) hs).symm
   refine sk (rT [0,1,2,7,22,23,24,25,26,27,28] (s3 ?_))
   have hs:lO l f m i=false:=by
    have h9:=c29
    rw[aU4,hg] at h9
    exact h9
   refine wq [] [] (⟨l.length - (i+1),by omega,i+1,rfl,by omega,fun k h=>by by_cases e:k=i;exact e▸hs;exact hk k (by omega),rfl⟩) ?_
   repeat' apply ai
   all_goals first|exact qx|exact congrArg D.i (aE (by omega))|exact qz
 have hi3:i=l.length:=by simp[aP] at c11;omega
 refine xt (sq (rT [6] (s1 (rt (bH rfl (congrArg D.i ?_))))))
 exact(nW (fun j _ h=>hk j (by omega))).symm
theorem wn (l:List eI) (a:Int) (ha:0≤a∧a<l.length) (hl:l.length≤100000):Sp 181 2 [tD 0 (.sl (bR l)),tI 1 a] [tO 0 0 (dN l a.toNat).length,oR 0 136 6 (bR (dN l a.toNat))]:=by
 obtain⟨i,rfl⟩:=Int.eq_ofNat_of_zero_le ha.1
 have hw:wrap64 ((i:Int)+1)=((i+1:Nat):Int):=by rw[aE (by omega)];omega
 refine sb Tryz.func181 rfl (sq (rT [0,1] (s1 (sq (rD [4] (ai (by simp) (s2 (ai (by exact⟨by rw[aP];exact⟨by first|(simp;done)|(simp;omega),by first|(simp;done)|(simp;omega),by first|(simp;done)|(simp;omega)⟩,wP _⟩) (ai (by exact⟨by first|trivial|rfl|(simp;done),by first|rfl|(simp[aP];done),by first|exact ju l _ _|(simp;done),by(try simp only[aU5,aU9,aU8,aVc,aVk,aP,jD,jE,jF,jG]);show _*64≤_;omega⟩) (s3 (ai (by rw[hw];exact⟨by rw[aP];exact⟨by first|(simp;done)|(simp;omega),by first|(simp;done)|(simp;omega),by first|(simp;done)|(simp;omega)⟩,wP _⟩) (ai (by exact⟨by first|trivial|rfl|(simp;done),by first|rfl|(simp[aP];done),by first|exact ju l _ _|(simp;done),by(try simp only[hw]);(try simp only[aU5,aU9,aU8,aVc,aVk,aP,jD,jE,jF,jG]);show _*64≤_;omega⟩) (s1 (ai (by kernel_rfl) (rt (eN _ [(0,5)] [] rfl (jI rfl rfl ?_ rfl (bW rfl ?_ trivial)) rfl rfl))))))))))))))))
 · rw[hw,uZ,gg];simp[bR,dN]
 rw[hw,uZ,gg];simp[bR,dN,List.map_take,List.map_drop]
theorem wo (l:List eI) (a:Int) (ha:0≤a∧a<l.length) (hl:l.length≤100000):Ab.Spec Tryz.prog 181 2 [(.t 0,.v (Dv (.sl (bR l)))),(.t 1,.v (I a))] [(.t 0,.v (Dv (.sl (bR (dN l a.toNat)))))]:=
 Spec.told (rl:=[]) (bor:=[0]) (wn l a ha hl) (gE rfl rfl rfl (aP _) rfl trivial) rfl rfl
set_option maxHeartbeats 800000 in
theorem aLv (k:aS) (hl:k.log.length≤900000):Sp 95 1 [tV 0 (.e (.agg [.d (.i (k).id),.d (.b (k).up),.d (.s (k).log),.d (.i (k).forced),.own 0 k.halves.length])),oR 0 136 6 (bR k.halves)] [tV 0 (.tup [.agg [.d (.i (bC k).1.id),.d (.i (bC k).1.time),.d (.i (bC k).1.next),.d (.sl (aD (bC k).1.held)),.d (.sl (aJ (bC k).1.marks)),.d (.sl (aD (bC k).1.inbox))],.c (.d (.b (bC k).2))]),oR 0 136 6 (bR k.halves)]:=by
 refine sb Tryz.func95 rfl (sq (rT [1,2] (s3 (sq (rT [1,2,4] (s3 (xp (fN k.log (by omega)) (ai rfl ?_))))))))
 refine s5 (sq (rT [2,3] (s3 (xp (wV k.id (dI k.log).1 (nI k.log hl).1 (nI k.log hl).2) (ai rfl ?_)))))
 exact s4 (rt (eN _ [] [] rfl (aS1 rfl (aPu (aF rfl (aF rfl (aF rfl (aF rfl (aF rfl (aF rfl aH)))))) (aUv rfl aNj)) (bW rfl rfl trivial)) rfl rfl))
theorem rS (a:Int) (f:cH):Sp 178 2 [tI 0 a,tV 1 f.V] [tV 0 ((vg a f).V)]:=by
 exact sb Tryz.func178 rfl (sq (rT [0,3,4] (s2 (sq (rT [4] (s9 (s6 (rt (eN _ [] [] rfl (dD rfl (aF rfl (aF rfl (aF rfl (aF rfl (aF rfl (aF rfl (aF rfl (aF rfl (aF rfl (aF rfl aH)))))))))) trivial) rfl rfl)))))))))
set_option maxHeartbeats 3200000 in
theorem yr (k:aS) (f:cH) (hb:k.halves.length≤3) (hb2: ∀x∈k.halves,x.got.length≤14):Sp 179 2 [tV 0 (.e (.agg [.d (.i (k).id),.d (.b (k).up),.d (.s (k).log),.d (.i (k).forced),.own 0 k.halves.length])),(.t 1,.v f.V),oR 0 136 6 (bR k.halves)] [tV 0 (.tup [.agg [.d (.i ((eF k (bV k.halves f).1)).id),.d (.b ((eF k (bV k.halves f).1)).up),.d (.s ((eF k (bV k.halves f).1)).log),.d (.i ((eF k (bV k.halves f).1)).forced),.d (.sl (bR ((eF k (bV k.halves f).1)).halves))],.c (.d (.i (bV k.halves f).2))])]:=by
 have hlt:=vh (f:=f) hb
 have hg14:=aCj (f:=f) hb2
 refine sb Tryz.func179 rfl (sq (rT [2,3,4,58,59,60,61,62,65,66,67,68,69] (s4 (sq (wa [tP 2 2,tP 3 3,tP 4 4,oB 2 79 [.d (.i (k).id),.d (.b (k).up),.d (.s (k).log),.d (.i (k).forced),.own 0 k.halves.length],oB 3 178 [.d (.i f.kind),.d (.i f.src),.d (.i f.dst),.d (.i f.frm),.d (.i f.num),.d (.i f.to),.d (.i f.til),.d (.i f.size),.d (.i f.mix),.d (.s f.data)],oB 4 79 [.d (.i 0),.d (.b false),.d (.s []),.d (.i 0),.nil],oR 0 136 6 (bR k.halves)] [] [] qz (rT [2,3,4,6,58,59,60,61,62,65,66,67,68,69] (s6 (bJ (robj:=[(0,.row 136 6 (bR k.halves))]) (rl:=[]) (bor:=[0]) (wm k.halves f.frm f.num (by omega)) rfl rfl rfl rfl ⟨gE rfl rfl rfl (aP _) rfl (cJ rfl rfl (cJ rfl rfl trivial)),rfl⟩ rfl (.inr (fun p hp=>by simp at hp;subst hp;trivial)) (aK ⟨rfl,trivial⟩) (fun j hj=>nomatch hj) ?_))))))))
 refine s1 (SW.midW (fun q=>q=[tP 2 2,tP 3 3,tP 4 4,tI 6 ((dK k.halves f).2:Nat),oB 2 79 [.d (.i (k).id),.d (.b (k).up),.d (.s (k).log),.d (.i (k).forced),.own 50 (dK k.halves f).1.length],oB 3 178 [.d (.i f.kind),.d (.i f.src),.d (.i f.dst),.d (.i f.frm),.d (.i f.num),.d (.i f.to),.d (.i f.til),.d (.i f.size),.d (.i f.mix),.d (.s f.data)],oB 4 79 [.d (.i 0),.d (.b false),.d (.s []),.d (.i 0),.nil],oR 50 136 6 (bR (dK k.halves f).1)]) ?_ ?_)
 · refine sq (rT [2,3,4,6,18,58,59,60,61,62,65,66,67,68,69] (s2 (cd rfl (fun c18=> ?_) fun c18=> ?_)))
   · have hneg:iR k.halves f.frm f.num<0:=by simpa using c18
     have hput:=bw hneg
     refine SW.midW (fun q=>q=[tP 2 2,tP 3 3,tP 4 4,oB 2 79 [.d (.i (k).id),.d (.b (k).up),.d (.s (k).log),.d (.i (k).forced),.own 50 (gM k.halves).length],oB 3 178 [.d (.i f.kind),.d (.i f.src),.d (.i f.dst),.d (.i f.frm),.d (.i f.num),.d (.i f.to),.d (.i f.til),.d (.i f.size),.d (.i f.mix),.d (.s f.data)],oB 4 79 [.d (.i 0),.d (.b false),.d (.s []),.d (.i 0),.nil],oR 50 136 6 (bR (gM k.halves))]) ?_ ?_
     · refine sq (rT [2,3,4,22,58,59,60,61,62,65,66,67,68,69] (s2 (ai (by exact aP _) (s1 (cd rfl (fun c22=> ?_) fun c22=> ?_)))))
       · have h3:3≤k.halves.length:=by simp[aP] at c22;omega
         have hcut:gM k.halves=dN k.halves (0:Int).toNat:=by unfold gM;rw[if_pos h3];rfl
         refine rE [2,3,4,58,59,60,61,62,65,66,67,68,69] (s2 (yK 24 0 rfl rfl (aP _) (by rfl) (gY (bJ (robj:=[]) (rl:=[(0,25)]) (bor:=[]) (wn k.halves 0 (by omega) (by omega)) rfl rfl rfl rfl ⟨cJ rfl rfl (cJ rfl rfl trivial),rfl⟩ rfl (.inl rfl) (fun p hp=>nomatch hp) (fun j hj=>by(obtain rfl:j=0:=by simpa[mT,cA,iU] using hj);rfl) (s2 ?_)))))
         first
         |(refine wq [(50,25)] [] (rfl) ?_
           repeat' apply ai
           all_goals first|exact qx|(rw[hcut];done)|(rw[hcut];simp[aP];done)|(simp[aP];done)|exact qz)
         |(refine wq [(50,0)] [] (rfl) ?_
           repeat' apply ai
           all_goals first|exact qx|(rw[hcut];done)|(rw[hcut];simp[aP];done)|(simp[aP];done)|exact qz)
       have h3: ¬3≤k.halves.length:=by simp[aP] at c22;omega
       have hcut:gM k.halves=k.halves:=by unfold gM;rw[if_neg h3]
       refine sk ?_
       first
       |(refine wq [(50,25)] [] (rfl) ?_
         repeat' apply ai
         all_goals first|exact qx|(rw[hcut];done)|(rw[hcut];simp[aP];done)|(simp[aP];done)|exact qz)
       |(refine wq [(50,0)] [] (rfl) ?_
         repeat' apply ai
         all_goals first|exact qx|(rw[hcut];done)|(rw[hcut];simp[aP];done)|(simp[aP];done)|exact qz)
     rintro s rfl
     have hc2:=kl k.halves hb
     refine sq (rT [2,3,4,58,59,60,61,62,65,66,67,68,69] (s9 (s5 (ai (by exact⟨rfl,aP _,by intro r hr;rw[aVn.1 hr];rfl,by show(_+1)*64≤_;omega⟩) (s2 (rT [2,3,4,6,58,59,60,61,62,65,66,67,68,69] (s2 (ai (by first|rfl|(simp[aP];done)) (s2 ?_)))))))))
     first
     |(refine wq [] [] (rfl) ?_
       repeat' apply ai
       all_goals first|exact qx|(rw[hput];done)|(rw[hput];rfl)|(rw[hput];simp[aP];done)|(rw[hput];exact sC _ (sE f))|(simp[aP];done)|(rw[hput];show D.i _=D.i (((gM k.halves).length:Nat):Int);refine congrArg D.i ?_;simp only[aU5,aU9,aU8,aP];rw[aE (by omega)];omega)|(rw[hput];show D.i _=D.i (((iR k.halves f.frm f.num).toNat:Nat):Int);exact congrArg D.i (Int.toNat_of_nonneg (by omega)).symm)|exact qz)
     |(refine wq [(50,0)] [] (rfl) ?_
       repeat' apply ai
       all_goals first|exact qx|(rw[hput];done)|(rw[hput];rfl)|(rw[hput];simp[aP];done)|(rw[hput];exact sC _ (sE f))|(simp[aP];done)|(rw[hput];show D.i _=D.i (((gM k.halves).length:Nat):Int);refine congrArg D.i ?_;simp only[aU5,aU9,aU8,aP];rw[aE (by omega)];omega)|(rw[hput];show D.i _=D.i (((iR k.halves f.frm f.num).toNat:Nat):Int);exact congrArg D.i (Int.toNat_of_nonneg (by omega)).symm)|exact qz)
   have hneg: ¬iR k.halves f.frm f.num<0:=by simpa using c18
   have hput:=gl hneg
   refine sk ?_
   first
   |(refine wq [] [] (rfl) ?_
     repeat' apply ai
     all_goals first|exact qx|(rw[hput];done)|(rw[hput];rfl)|(rw[hput];simp[aP];done)|(rw[hput];exact sC _ (sE f))|(simp[aP];done)|(rw[hput];show D.i _=D.i (((gM k.halves).length:Nat):Int);refine congrArg D.i ?_;simp only[aU5,aU9,aU8,aP];rw[aE (by omega)];omega)|(rw[hput];show D.i _=D.i (((iR k.halves f.frm f.num).toNat:Nat):Int);exact congrArg D.i (Int.toNat_of_nonneg (by omega)).symm)|exact qz)
   |(refine wq [(50,0)] [] (rfl) ?_
     repeat' apply ai
     all_goals first|exact qx|(rw[hput];done)|(rw[hput];rfl)|(rw[hput];simp[aP];done)|(rw[hput];exact sC _ (sE f))|(simp[aP];done)|(rw[hput];show D.i _=D.i (((gM k.halves).length:Nat):Int);refine congrArg D.i ?_;simp only[aU5,aU9,aU8,aP];rw[aE (by omega)];omega)|(rw[hput];show D.i _=D.i (((iR k.halves f.frm f.num).toNat:Nat):Int);exact congrArg D.i (Int.toNat_of_nonneg (by omega)).symm)|exact qz)
 rintro s rfl
 refine sq (rT [2,3,4,6,7,58,59,60,61,62,65,66,67,68,69] (s3 (ai (by exact⟨aP _,by omega,by omega⟩) (ai (by rw[aU4,iW hlt.1];exact⟨⟨aP _,hlt.1⟩,aU6 rfl,rfl⟩) (s2 (sq (sq (wa [tP 2 2,tP 3 3,tP 4 4,tP 7 7,tI 6 ((dK k.halves f).2:Nat),oB 2 79 [.d (.i (k).id),.d (.b (k).up),.d (.s (k).log),.d (.i (k).forced),.own 50 (dK k.halves f).1.length],oB 3 178 [.d (.i f.kind),.d (.i f.src),.d (.i f.dst),.d (.i f.frm),.d (.i f.num),.d (.i f.to),.d (.i f.til),.d (.i f.size),.d (.i f.mix),.d (.s f.data)],oB 4 79 [.d (.i 0),.d (.b false),.d (.s []),.d (.i 0),.nil],oB 7 136 [.d (.i ((bN k.halves f)).frm),.d (.i ((bN k.halves f)).num),.d (.i ((bN k.halves f)).to),.d (.i ((bN k.halves f)).til),.d (.i ((bN k.halves f)).size),.d (.sl (dU ((bN k.halves f)).got))],oR 50 136 6 (bR (dK k.halves f).1)] [] [] ?_ ?_))))))))
 · repeat' apply ai
   all_goals first|exact qx|(rw[aU4,iW hlt.1];rfl)|rfl|exact qz
 refine rT [2,3,4,6,7,70] (s6 (y4 (y1 (ai pk (s1 (y4 (y1 (ai pk (cd rfl (fun c70=> ?_) fun c70=> ?_)))))))))
 · have hno: ¬qG (bN k.halves f) f=true:=by intro h;simp only[qG,aU7,beq_iff_eq] at h;simp[h.1.1,h.1.2,h.2] at c70
   have hadd:=gm hno
   refine sq (rT [4,5] (s3 (rt (rq [] [50] rfl ?_))))
   repeat' apply ai
   all_goals try exact qx
   all_goals(first|with_reducible rfl|(rw[hadd];done)|(rw[hadd];rfl)|exact aP _)
 have hyes:qG (bN k.halves f) f=true:=by simp at c70;simp[qG,c70]
 have hadd:=bx hyes
 refine sk (sq (rT [2,3,4,6,7,8] (s2 (sq (sq (rT [2,3,4,6,7,8,9] (s1 (bk (SW.loopW (n:=(bN k.halves f).got.length) (fun m q=> ∃i:Nat,m=(bN k.halves f).got.length - i∧i≤(bN k.halves f).got.length∧q=[tP 2 2,tP 3 3,tP 4 4,tP 7 7,tI 6 ((dK k.halves f).2:Nat),tO 8 72 (iG ((bN k.halves f).got.take (i)) f.mix).length,tI 9 (i:Nat),oB 2 79 [.d (.i (k).id),.d (.b (k).up),.d (.s (k).log),.d (.i (k).forced),.own 50 (dK k.halves f).1.length],oB 3 178 [.d (.i f.kind),.d (.i f.src),.d (.i f.dst),.d (.i f.frm),.d (.i f.num),.d (.i f.to),.d (.i f.til),.d (.i f.size),.d (.i f.mix),.d (.s f.data)],oB 4 79 [.d (.i 0),.d (.b false),.d (.s []),.d (.i 0),.nil],oB 7 136 [.d (.i ((bN k.halves f)).frm),.d (.i ((bN k.halves f)).num),.d (.i ((bN k.halves f)).to),.d (.i ((bN k.halves f)).til),.d (.i ((bN k.halves f)).size),.d (.sl (dU ((bN k.halves f)).got))],oR 50 136 6 (bR (dK k.halves f).1),oR 72 155 2 (dU (iG ((bN k.halves f).got.take (i)) f.mix))]) ?_ ?_)))))))))
 · refine wq (σ':=[tP 2 2,tP 3 3,tP 4 4,tP 7 7,tI 6 ((dK k.halves f).2:Nat),tO 8 72 (iG ((bN k.halves f).got.take (0)) f.mix).length,tI 9 (0:Nat),oB 2 79 [.d (.i (k).id),.d (.b (k).up),.d (.s (k).log),.d (.i (k).forced),.own 50 (dK k.halves f).1.length],oB 3 178 [.d (.i f.kind),.d (.i f.src),.d (.i f.dst),.d (.i f.frm),.d (.i f.num),.d (.i f.to),.d (.i f.til),.d (.i f.size),.d (.i f.mix),.d (.s f.data)],oB 4 79 [.d (.i 0),.d (.b false),.d (.s []),.d (.i 0),.nil],oB 7 136 [.d (.i ((bN k.halves f)).frm),.d (.i ((bN k.halves f)).num),.d (.i ((bN k.halves f)).to),.d (.i ((bN k.halves f)).til),.d (.i ((bN k.halves f)).size),.d (.sl (dU ((bN k.halves f)).got))],oR 50 136 6 (bR (dK k.halves f).1),oR 72 155 2 (dU (iG ((bN k.halves f).got.take (0)) f.mix))]) [] [] (⟨0,rfl,aVa _,rfl⟩) ?_
   repeat' apply ai
   all_goals first|exact qx|rfl|exact qz
 rintro n s ⟨i,rfl,hi,rfl⟩
 refine sq (sq (rT [2,3,4,6,7,8,9,77] (s5 (cd rfl (fun c77=> ?_) fun c77=> ?_))))
 · have hi2:i< (bN k.halves f).got.length:=by simpa[bS] using c77
   have hg:=tT (l:=(bN k.halves f).got) hi2
   have hts:=fQ (z:=hF.zero) hi2
   have hle:=vi ((bN k.halves f).got.take i) f.mix
   rw[aVc] at hle
   refine sk (sq (bk (sq (rD [2,3,4,6,7,8,9,88] (s3 (ai (by rw[aU4,hg];exact⟨⟨by omega,by rw[bS];omega⟩,rfl⟩) (s1 (ai (by rw[aU4,hg];exact⟨aU6 rfl,rfl⟩) (s3 (ai (by kernel_rfl) (cd rfl (fun c88=> ?_) fun c88=> ?_)))))))))))
   · have hlg:=aFa (l:=(bN k.halves f).got.take i) (m:=(bN k.halves f).got.getD i .zero) (n:=f.mix) (by rw[aU4,hg] at c88;exact c88)
     refine rT [2,3,4,6,7,8,9] (s4 (ai (by rw[aU4,hg];exact⟨⟨by omega,by rw[bS];omega⟩,rfl⟩) (ai (by rw[aU4,hg];exact⟨aU6 rfl,rfl⟩) (s1 (ai (by exact⟨rfl,bS _,by intro r hr;rw[aVn.1 hr];rfl,by show(_+1)*24≤_;omega⟩) (s1 (rT [2,3,4,6,7,8,9] (s3 (wq [] [] (⟨(bN k.halves f).got.length - (i+1),by omega,i+1,rfl,by omega,rfl⟩) ?_)))))))))
     repeat' apply ai
     all_goals first|exact qx|exact congrArg D.i (by rw[aE (by omega)];omega)|(rw[hts,hlg];done)|(rw[hts,hlg,aU5];rfl)|(rw[hts,hlg];simp[bS];done)|(rw[hts,hlg,aU4,hg];exact yW _ _)|exact qz
   have hlg:=aH6 (l:=(bN k.halves f).got.take i) (m:=(bN k.halves f).got.getD i .zero) (n:=f.mix) (by rw[aU4,hg] at c88;exact c88)
   refine sk (rT [2,3,4,6,7,8,9] (s3 (wq [] [] (⟨(bN k.halves f).got.length - (i+1),by omega,i+1,rfl,by omega,rfl⟩) ?_)))
   repeat' apply ai
   all_goals first|exact qx|exact congrArg D.i (by rw[aE (by omega)];omega)|(rw[hts,hlg];done)|(rw[hts,hlg,aU5];rfl)|(rw[hts,hlg];simp[bS];done)|(rw[hts,hlg,aU4,hg];exact yW _ _)|exact qz
 have hi3:i=(bN k.halves f).got.length:=by simp[bS] at c77;omega
 subst hi3
 clear hi
 have hle:=vi (bN k.halves f).got f.mix
 refine xt (SW.midW (fun q=>q=[tP 2 2,tP 3 3,tP 4 4,tP 7 7,tI 6 ((dK k.halves f).2:Nat),tO 8 60 (rP (iG (bN k.halves f).got f.mix)).length,oB 2 79 [.d (.i (k).id),.d (.b (k).up),.d (.s (k).log),.d (.i (k).forced),.own 50 (dK k.halves f).1.length],oB 3 178 [.d (.i f.kind),.d (.i f.src),.d (.i f.dst),.d (.i f.frm),.d (.i f.num),.d (.i f.to),.d (.i f.til),.d (.i f.size),.d (.i f.mix),.d (.s f.data)],oB 4 79 [.d (.i 0),.d (.b false),.d (.s []),.d (.i 0),.nil],oB 7 136 [.d (.i ((bN k.halves f)).frm),.d (.i ((bN k.halves f)).num),.d (.i ((bN k.halves f)).to),.d (.i ((bN k.halves f)).til),.d (.i ((bN k.halves f)).size),.d (.sl (dU ((bN k.halves f)).got))],oR 50 136 6 (bR (dK k.halves f).1),oR 60 155 2 (dU (rP (iG (bN k.halves f).got f.mix)))]) ?_ ?_)
 · refine sq (rT [2,3,4,6,7,8,99] (s1 (ai (by exact bS _) (s1 (cd rfl (fun c99=> ?_) fun c99=> ?_)))))
   · have h14:14≤(iG (bN k.halves f).got f.mix).length:=by rw[aVl] at c99;simp[bS] at c99;omega
     have hcg:rP (iG (bN k.halves f).got f.mix)=(iG (bN k.halves f).got f.mix).drop 1:=by unfold rP;rw[if_pos h14]
     refine rE [2,3,4,6,7,8] (s2 (yK 101 72 rfl rfl (by simp[bS]) (by rfl) (gY (sx dH rfl (by exact⟨⟨by simp,by simp[bS] at *; omega,by simp⟩,yV _⟩) (ai (by rw[aVl];exact⟨trivial,rfl,aEk _ _ _,by have h9:=Nat.le_trans (show(((dU (iG (bN k.halves f).got f.mix)).take (gF none (dU (iG (bN k.halves f).got f.mix)).length)).drop (fD (some 1))).length≤(dU (iG (bN k.halves f).got f.mix)).length by rw[aVk,aVc];omega) (Nat.le_of_eq (bS _));simp only[aU8];show _*24≤_;omega⟩) (s1 ?_))))))
     first
     |(refine wq [(60,72)] [] (rfl) ?_
       repeat' apply ai
       all_goals first|exact qx|(rw[hcg];done)|(rw[hcg,aVl];done)|(rw[hcg];simp[bS,gF,fD];done)|(simp[bS];done)|(rw[hcg];simp[gF,fD,dU,List.map_drop];done)|(rw[hcg];simp[gF,fD,dU,List.map_drop];rw[List.take_of_length_le (by simp)];done)|exact qz)
     |(refine wq [(60,100)] [] (rfl) ?_
       repeat' apply ai
       all_goals first|exact qx|(rw[hcg];done)|(rw[hcg,aVl];done)|(rw[hcg];simp[bS,gF,fD];done)|(simp[bS];done)|(rw[hcg];simp[gF,fD,dU,List.map_drop];done)|(rw[hcg];simp[gF,fD,dU,List.map_drop];rw[List.take_of_length_le (by simp)];done)|exact qz)
   have h14: ¬14≤(iG (bN k.halves f).got f.mix).length:=by rw[aVl] at c99;simp[bS] at c99;omega
   have hcg:rP (iG (bN k.halves f).got f.mix)=(iG (bN k.halves f).got f.mix):=by unfold rP;rw[if_neg h14]
   refine sk ?_
   first
   |(refine wq [(60,72)] [] (rfl) ?_
     repeat' apply ai
     all_goals first|exact qx|(rw[hcg];done)|(rw[hcg,aVl];done)|(rw[hcg];simp[bS,gF,fD];done)|(simp[bS];done)|(rw[hcg];simp[gF,fD,dU,List.map_drop];done)|(rw[hcg];simp[gF,fD,dU,List.map_drop];rw[List.take_of_length_le (by simp)];done)|exact qz)
   |(refine wq [(60,100)] [] (rfl) ?_
     repeat' apply ai
     all_goals first|exact qx|(rw[hcg];done)|(rw[hcg,aVl];done)|(rw[hcg];simp[bS,gF,fD];done)|(simp[bS];done)|(rw[hcg];simp[gF,fD,dU,List.map_drop];done)|(rw[hcg];simp[gF,fD,dU,List.map_drop];rw[List.take_of_length_le (by simp)];done)|exact qz)
 rintro s rfl
 have hcl: (rP (iG (bN k.halves f).got f.mix)).length≤14:=by unfold rP;split<;>(try rw[aVk])<;>omega
 refine sq (rT [2,4,6,7] (s7 (ai (by exact⟨rfl,bS _,by intro r hr;rw[aVn.1 hr];rfl,by show(_+1)*24≤_;omega⟩) (s2 (sq (wa [tP 2 2,tP 4 4,tP 7 7,tI 6 ((dK k.halves f).2:Nat),oB 2 79 [.d (.i (k).id),.d (.b (k).up),.d (.s (k).log),.d (.i (k).forced),.own 50 (dK k.halves f).1.length],oB 3 178 [.d (.i f.kind),.d (.i f.src),.d (.i f.dst),.d (.i f.frm),.d (.i f.num),.d (.i f.to),.d (.i f.til),.d (.i f.size),.d (.i f.mix),.d (.s f.data)],oB 4 79 [.d (.i 0),.d (.b false),.d (.s []),.d (.i 0),.nil],oB 7 136 [.d (.i ((tW (bN k.halves f) f)).frm),.d (.i ((tW (bN k.halves f) f)).num),.d (.i ((tW (bN k.halves f) f)).to),.d (.i ((tW (bN k.halves f) f)).til),.d (.i ((tW (bN k.halves f) f)).size),.d (.sl (dU ((tW (bN k.halves f) f)).got))],oR 50 136 6 (bR (dK k.halves f).1)] [] [60] ?_ ?_))))))
 · repeat' apply ai
   all_goals first|exact qx|rfl|(exact congrArg D.sl (yW _ ⟨f.mix,f.data⟩).symm)|(simp[bS];done)|exact qz
 refine rT [2,4,6] (s4 (ai (by exact⟨aP _,by omega,by omega⟩) (ai (by rw[aU4,iW hlt.1];exact⟨aP _,hlt.1,rfl,aU6 rfl⟩) (sq (rT [4,5] (s4 (rt (rq [] [50] rfl ?_))))))))
 repeat' apply ai
 all_goals try exact qx
 all_goals(first|with_reducible rfl|(rw[hadd];done)|(rw[hadd];rfl)|(rw[aU4,hadd];exact congrArg D.sl (aCi (h:=tW (bN k.halves f) f) hlt.1).symm)|(simp[aP];done))
set_option maxHeartbeats 6400000 in
theorem qn (k:aS) (f:cH) (hok:bG k=true) (hu:k.up=true) (hf:eW f=true) (hkd:f.kind=1):Sp 168 2 [tV 0 (.e (.agg [.d (.i (k).id),.d (.b (k).up),.d (.s (k).log),.d (.i (k).forced),.own 0 k.halves.length])),(.t 1,.v f.V),oR 0 136 6 (bR k.halves)] [tV 0 (.tup [.agg [.d (.i ((dT k f).1).id),.d (.b ((dT k f).1).up),.d (.s ((dT k f).1).log),.d (.i ((dT k f).1).forced),.d (.sl (bR ((dT k f).1).halves))],.c (.d (.sl (mR (dT k f).2)))])]:=by
 have hlg:=gL hok
 have hkb:=vD hok
 have hfh:=gn hf hkd
 have hH:=aJg (km hok) hlg.2.2.2.1 hf hkd
 have h6:=eL (iA hok)
 refine sb Tryz.func168 rfl (sq (rT [2,3,4,39,40,41,42,43,44,45,46,62,63,64,65,66,67,68] (s4 (sq (rT [2,3,4,6,39,40,41,42,43,44,45,46,62,63,64,65,66,67,68] (s2 (sq (rT [2,3,4,6,7,39,40,41,42,43,44,45,46,62,63,64,65,66,67,68] (s1 (bJ (robj:=[(0,.row 136 6 (bR k.halves))]) (rl:=[(0,0)]) (bor:=[]) (aLv k (by omega)) rfl rfl rfl rfl ⟨dD rfl (aF rfl (aF rfl (aF rfl (aF rfl (bK rfl rfl rfl aH))))) (bW rfl rfl trivial),rfl⟩ rfl (.inl rfl) (aK ⟨rfl,trivial⟩) (fun _ hj=>nomatch hj) (s6 (sq (sq (rT [2,3,4,6,7,25,39,40,41,42,43,44,45,46,62,63,64,65,66,67,68] (s5 (cd rfl (fun c25=> ?_) fun c25=> ?_))))))))))))))))
 · have hlate:f.til≤(bC k).1.time:=by simpa using c25
   refine sq (rD [4,5] (s2 (xp (rS _ f) (ai rfl ?_))))
   refine s3 (ai (by kernel_rfl) (rt ?_))
   have hr:dT k f=(k,[vg 3 f]):=by rw[dT,if_pos hlate]
   refine rq [] [0,29] rfl ?_
   repeat' apply ai
   all_goals try exact qx
   all_goals(first|with_reducible rfl|(rw[hr];done)|(rw[hr];rfl)|exact aP _|rfl)
 have hlate: ¬f.til≤(bC k).1.time:=by simpa using c25
 refine sk (sq (sq (rT [2,3,4,6,47,62,63,64,65,66,67,68] (s6 (xp (gA (bC k).1.held f.frm f.num (by have:=h6.1.1;omega)) (ai rfl ?_))))))
 refine s2 (y4 (y2 (xc (fun h=>(nO (bC k).1.marks f.frm f.num (by have:=h6.1.2.1;omega))) (ai rfl (ai rk ?_)))))
 refine y1 (ai pk (cd rfl (fun c47=> ?_) fun c47=> ?_))
 · have hhave:0≤aX (bC k).1.held f.frm f.num∨0≤fW (bC k).1.marks f.frm f.num:=by simpa using c47
   refine sq (rT [2,3,4] (s2 (xp (jH k.log k.forced (by omega)) (ai rfl ?_))))
   refine s2 (sq (rD [4,5] (s2 (xp (rS _ f) (ai rfl ?_)))))
   refine s3 (ai (by kernel_rfl) (rt ?_))
   have hr:dT k f=(vB k,[vg 2 f]):=by rw[dT,if_neg hlate,if_pos hhave]
   refine rq [] [0,55] rfl ?_
   repeat' apply ai
   all_goals try exact qx
   all_goals(first|with_reducible rfl|(rw[hr];done)|(rw[hr];rfl)|exact aP _|rfl)
 have hhave: ¬(0≤aX (bC k).1.held f.frm f.num∨0≤fW (bC k).1.marks f.frm f.num):=by simpa using c47
 refine sk (sq (sq (rD [2,3,4,6,69] (s6 (y2 (xc (fun h=>(oS f.size (by omega))) (ai rfl (ai rk ?_))))))))
 refine y2 (xc (fun h=>(wD _ f.mix)) (ai rfl (ai rk ?_)))
 refine y1 (ai pk (ai (by kernel_rfl) (cd rfl (fun c69=> ?_) fun c69=> ?_)))
 · have hskip:f.frm=k.id∨ ¬sY ((f.size+3) / 4) f.mix=true:=by simpa using c69
   refine sq (rT [4,5] (s4 (rt ?_)))
   have hr:dT k f=(k,[]):=by rw[dT,if_neg hlate,if_neg hhave,if_pos hskip]
   refine rq [] [0,15] rfl ?_
   repeat' apply ai
   all_goals try exact qx
   all_goals(first|with_reducible rfl|(rw[hr];done)|(rw[hr];rfl)|exact aP _|rfl)
 have hskip: ¬(f.frm=k.id∨ ¬sY ((f.size+3) / 4) f.mix=true):=by simpa using c69
 refine sk (sq (rT [2,3,4,6,9] (s2 (bJ (robj:=[(0,.row 136 6 (bR k.halves))]) (rl:=[]) (bor:=[]) (yr k f hlg.2.2.2.1 hlg.2.2.2.2.2) rfl rfl rfl rfl ⟨dD rfl (aF rfl (aF rfl (aF rfl (aF rfl (bK rfl rfl rfl aH))))) (dD rfl (aF rfl (aF rfl (aF rfl (aF rfl (aF rfl (aF rfl (aF rfl (aF rfl (aF rfl (aF rfl aH)))))))))) (bW rfl rfl trivial)),rfl⟩ rfl (.inl rfl) (aK ⟨rfl,trivial⟩) (fun _ hj=>nomatch hj) (s5 (sq (sq (rT [2,3,4,6,9,79] (s2 (cd rfl (fun c79=> ?_) fun c79=> ?_))))))))))
 · have hneg: (bV k.halves f).2<0:=by simpa using c79
   refine sq (rT [4,5] (s4 (rt ?_)))
   have hr:dT k f=(eF k (bV k.halves f).1,[]):=by rw[dT,if_neg hlate,if_neg hhave,if_neg hskip,if_pos hneg]
   refine rq [] [15] rfl ?_
   repeat' apply ai
   all_goals try exact qx
   all_goals(first|with_reducible rfl|(rw[hr];done)|(rw[hr];rfl)|exact aP _|rfl)
 have hge: ¬(bV k.halves f).2<0:=by simpa using c79
 obtain⟨i,hi⟩: ∃i:Nat,(bV k.halves f).2=(i:Int):=⟨(bV k.halves f).2.toNat,by omega⟩
 have hil:i< (bV k.halves f).1.length:=aH9 hi
 have hgi: (bR (eF k (bV k.halves f).1).halves).getD i []=((bV k.halves f).1.getD i .zero).row:=iW hil
 have hr1:dT k f=oC k f (bV k.halves f).1 i:=by rw[dT,if_neg hlate,if_neg hhave,if_neg hskip,if_neg hge,hi];rfl
 have hgl: ((bV k.halves f).1.getD i .zero).got.length≤14:=by have h9:=(vE _).1 (hH.1.1 _ (cW (z:=eI.zero) hil));exact(nJ h9.1).2.2.2.2.2
 refine sk (sq (rD [2,3,4,6,9,10,11] (s5 (ai (by rw[hi];exact⟨⟨by omega,by rw[aP];show((i:Nat):Int)< (((bV k.halves f).1.length:Nat):Int);omega⟩,by rw[aU4,hgi];rfl⟩) (s1 (ai (by rw[hi,aU4,hgi];exact⟨aU6 rfl,rfl⟩) (xp (wh f.size ((bV k.halves f).1.getD i .zero).got (by omega)) (ai (by rw[hi,aU4,hgi];rfl) ?_))))))))
 refine s5 (ai (by kernel_rfl) (sq (sq (rT [2,3,4,6,9,10,95] (s2 (cd rfl (fun c95=> ?_) fun c95=> ?_))))))
 · have hno: ¬(dV f.size ((bV k.halves f).1.getD i .zero).got).2=true:=by exact sT c95
   refine sq (rT [4,5] (s4 (rt ?_)))
   have hr:dT k f=(eF k (bV k.halves f).1,[]):=hr1.trans (ko hno)
   refine rq [] [15] rfl ?_
   repeat' apply ai
   all_goals try exact qx
   all_goals(first|with_reducible rfl|(rw[hr];done)|(rw[hr];rfl)|exact aP _|rfl)
 have hyes: (dV f.size ((bV k.halves f).1.getD i .zero).got).2=true:=by exact kG c95
 refine sk (sq (rT [2,3,4,6,9,12] (s9 (s3 (sq (rT [2,3,4,6,12] (s3 (xp (wo (bV k.halves f).1 (i:Nat) (by omega) (by omega)) (ai (by rw[hi];rfl) ?_)))))))))
 refine s2 (sq (rT [2,3,4,6,13] (s1 (xp (fH (eU f (dV f.size ((bV k.halves f).1.getD i .zero).got).1) (by have:=aFd f.size ((bV k.halves f).1.getD i .zero).got;show(dV f.size ((bV k.halves f).1.getD i .zero).got).1.length≤_;omega)) (ai rfl ?_)))))
 refine s1 (sq (sq (rT [2,3,4,6,13,116] (s2 (cd rfl (fun c116=> ?_) fun c116=> ?_)))))
 · have hemp:gD (eU f (dV f.size ((bV k.halves f).1.getD i .zero).got).1)=[]:=by exact beq_iff_eq.1 c116
   refine sq (rT [4,5] (s4 (rt ?_)))
   have hr:dT k f=(eF k (dN (bV k.halves f).1 i),[]):=hr1.trans (du hyes hemp)
   refine rq [] [15] rfl ?_
   repeat' apply ai
   all_goals try exact qx
   all_goals(first|with_reducible rfl|(rw[hr];done)|(rw[hr];rfl)|exact aP _|rfl)
 have hemp: ¬gD (eU f (dV f.size ((bV k.halves f).1.getD i .zero).got).1)=[]:=by exact beq_eq_false_iff_ne.1 c116
 refine sk (sq (rT [2,3,4,6,14] (s2 (ai (by have:=iS (eU f (dV f.size ((bV k.halves f).1.getD i .zero).got).1);show _≤9223372036854775807;(try simp only[aU5,aU9,aU8]);omega) (xp (mN (eF k (dN (bV k.halves f).1 i)) (cI dE (eU f (dV f.size ((bV k.halves f).1.getD i .zero).got).1)) true (aCk hok hu (by have:=xM (bV k.halves f).1 i;omega) (aJf hH.1 i)) (by have h9:=vZ dE (eU f (dV f.size ((bV k.halves f).1.getD i .zero).got).1);have h8:dE.length=4:=rfl;omega)) (ai rfl ?_))))))
 refine s5 (sq (sq (rT [2,3,4,6,127] (s2 (cd rfl (fun c127=> ?_) fun c127=> ?_)))))
 · have hw: ¬(fU (eF k (dN (bV k.halves f).1 i)) (cI dE (eU f (dV f.size ((bV k.halves f).1.getD i .zero).got).1)) true).2=true:=sT c127
   refine sq (rT [4,5] (s4 (rt ?_)))
   have hr:dT k f=((fU (eF k (dN (bV k.halves f).1 i)) (cI dE (eU f (dV f.size ((bV k.halves f).1.getD i .zero).got).1)) true).1,[]):=hr1.trans (zF hyes hemp hw)
   refine rq [] [15] rfl ?_
   repeat' apply ai
   all_goals try exact qx
   all_goals(first|with_reducible rfl|(rw[hr];done)|(rw[hr];rfl)|exact aP _|rfl)
 have hw: (fU (eF k (dN (bV k.halves f).1 i)) (cI dE (eU f (dV f.size ((bV k.halves f).1.getD i .zero).got).1)) true).2=true:=kG c127
 refine sk (sq (rD [4,5] (s2 (xp (rS _ f) (ai rfl ?_)))))
 refine s3 (ai (by kernel_rfl) (rt ?_))
 have hr:dT k f=((fU (eF k (dN (bV k.halves f).1 i)) (cI dE (eU f (dV f.size ((bV k.halves f).1.getD i .zero).got).1)) true).1,[vg 2 f]):=hr1.trans (kq hyes hemp hw)
 refine rq [] [133] rfl ?_
 repeat' apply ai
 all_goals try exact qx
 all_goals(first|with_reducible rfl|(rw[hr];done)|(rw[hr];rfl)|exact aP _|rfl)
set_option maxHeartbeats 6400000 in
theorem lc (k:aS) (f:cH) (hl:k.log.length≤140737488355328):Sp 155 2 [tV 0 k.V,tV 1 f.V] [tV 0 (.tup [.agg [.d (.i ((dA k f).1).id),.d (.b ((dA k f).1).up),.d (.s ((dA k f).1).log),.d (.i ((dA k f).1).forced),.d (.sl (bR ((dA k f).1).halves))],.c (.d (.sl (mR (dA k f).2)))])]:=by
 refine sb Tryz.func155 rfl (sq (rT [2,3,4,27,28,29,32,33,34,35,36,68,69,72,73,74,75,76,77,78,79,80,83,84,85,86,87,88,89,90,91] (s4 (sq (rT [2,3,4,6,27,28,29,32,33,34,35,36,68,69,72,73,74,75,76,77,78,79,80,83,84,85,86,87,88,89,90,91] (s2 (sq (sq (rT [2,3,4,6,18,27,28,29,32,33,34,35,36,68,69,72,73,74,75,76,77,78,79,80,83,84,85,86,87,88,89,90,91] (s1 (xp (gH k hl) (ai rfl ?_))))))))))))
 refine s1 (cd rfl (fun c18=> ?_) fun c18=> ?_)
 · have hno: ¬bG k=true:=sT c18
   refine sq (rT [4,5] (s4 (rt ?_)))
   have hr:dA k f=(.zero,[]):=vj hno
   refine rq [] [15] rfl ?_
   repeat' apply ai
   all_goals try exact qx
   all_goals(first|with_reducible rfl|(rw[hr];done)|(rw[hr];rfl)|exact aP _|rfl)
 have hok:bG k=true:=kG c18
 have hlg:=gL hok
 have hK:=lE hok
 have h6:=eL (iA hok)
 have hkb:=vD hok
 have hsk:fL k.log k.forced=true:=(hZ hlg.1).2.1
 obtain⟨⟨_,htm,hnx,_⟩,_⟩:=(bX _).1 (iA hok)
 refine sk (sq (rT [2,3,4,6,7,27,28,29,32,33,34,35,36,68,69,72,73,74,75,76,77,78,79,80,83,84,85,86,87,88,89,90,91] (s1 (bJ (robj:=[]) (rl:=[(0,22)]) (bor:=[]) (we k (⟨by omega,fun x hx=>by have:=hlg.2.2.2.2.2 x hx;omega⟩)) rfl rfl rfl rfl ⟨dD rfl (aF rfl (aF rfl (aF rfl (aF rfl (aF rfl aH))))) trivial,rfl⟩ rfl (.inl rfl) (fun p hp=>nomatch hp) (fun j hj=>by(obtain rfl:j=0:=by simpa[mT,cA,iU] using hj);rfl) (s2 (sq (sq (rT [2,3,4,6,7,37,68,69,72,73,74,75,76,77,78,79,80,83,84,85,86,87,88,89,90,91] (s4 (y1 (xc (fun h=>(cn f)) (ai rfl (ai rk ?_)))))))))))))
 refine y1 (ai pk (s1 (y4 (y1 (ai pk (cd rfl (fun c37=> ?_) fun c37=> ?_))))))
 · have hnot: ¬(k.up&&eW f&&f.dst==k.id)=true:=by intro h;simp at h;simp[h.1.1,h.1.2,h.2] at c37
   refine sq (rT [4,5] (s4 (rt ?_)))
   have hr:dA k f=(k,[]):=vk hok hnot
   refine rq [] [22,15] rfl ?_
   repeat' apply ai
   all_goals try exact qx
   all_goals(first|with_reducible rfl|(rw[hr];done)|(rw[hr];rfl)|exact aP _|rfl)
 have hgo: (k.up&&eW f&&f.dst==k.id)=true:=by simp at c37;simp[c37]
 have hu:k.up=true:=by simp at hgo;exact hgo.1.1
 have hf:eW f=true:=by simp at hgo;exact hgo.1.2
 refine sk (sq (sq (rT [2,3,4,6,7,42,68,69,72,73,74,75,76,77,78,79,80,83,84,85,86,87,88,89,90,91] (s3 (cd rfl (fun c42=> ?_) fun c42=> ?_)))))
 · have hkd:f.kind=1:=by simpa using c42
   have hhh:=pw hok hu hf hkd
   refine sq (rT [4,8,9] (s2 (bJ (robj:=[(22,.row 136 6 (bR k.halves))]) (rl:=[(0,22)]) (bor:=[]) (qn k f hok hu hf hkd) rfl rfl rfl rfl ⟨dD rfl (aF rfl (aF rfl (aF rfl (aF rfl (bK rfl rfl rfl aH))))) (dD rfl (aF rfl (aF rfl (aF rfl (aF rfl (aF rfl (aF rfl (aF rfl (aF rfl (aF rfl (aF rfl aH)))))))))) (bW rfl rfl trivial)),rfl⟩ rfl (.inl rfl) (aK ⟨rfl,trivial⟩) (fun _ hj=>nomatch hj) (s6 (sq (rT [4,5] (s1 (xp (gB (dT k f).1 ⟨by have:=hhh.2;omega,fun x hx=>by have:=aJh hhh.1 x hx;omega⟩) (ai rfl ?_)))))))))
   refine s3 (rt ?_)
   have hr:dA k f=dT k f:=go hok hgo hkd
   refine rq [] [] rfl ?_
   repeat' apply ai
   all_goals try exact qx
   all_goals(first|with_reducible rfl|(rw[hr];done)|(rw[hr];rfl)|exact aP _|rfl)
 have hkd: ¬f.kind=1:=by simpa using c42
 have hfs:=lV hf
 refine sk (sq (rT [3,4,6,7,10,68,69,72,73,74,75,76,77,78,79,80,83,84,85,86,87,88,89,90,91] (s1 (xp (gX k (by omega)) (ai rfl ?_)))))
 refine s6 (sq (rT [3,4,6,7,10,12,68,69,72,73,74,75,76,77,78,79,80,83,84,85,86,87,88,89,90,91] (s6 (xp (gA (bC k).1.held f.frm f.num (by have:=h6.1.1;omega)) (ai rfl ?_)))))
 refine s1 (sq (sq (rD [3,4,6,7,92] (s4 (y2 (ai pk (s1 (y3 (ai (fun h=>(by simp[gb] at h;obtain⟨j,hj,hjl,_⟩:=rM hok (f:=f.frm) (n:=f.num) (by omega);rw[hj,aU4,aQ hjl];exact⟨⟨by omega,by rw[aA];omega⟩,rfl⟩)) (ai rk (y1 (ai (fun h=>(by simp[gb] at h;obtain⟨j,hj,hjl,_⟩:=rM hok (f:=f.frm) (n:=f.num) (by omega);rw[hj,aU4,aQ hjl];exact⟨aU6 rfl,rfl⟩)) (ai rk (y3 (ai pk (s1 (y3 (ai (fun h=>(by simp[gb] at h;obtain⟨j,hj,hjl,_⟩:=rM hok (f:=f.frm) (n:=f.num) (by omega);rw[hj,aU4,aQ hjl];exact⟨⟨by omega,by rw[aA];omega⟩,rfl⟩)) (ai rk (y1 (ai (fun h=>(by simp[gb] at h;obtain⟨j,hj,hjl,_⟩:=rM hok (f:=f.frm) (n:=f.num) (by omega);rw[hj,aU4,aQ hjl];exact⟨aU6 rfl,rfl⟩)) (ai rk (y3 (ai pk (ai (by kernel_rfl) (cd rfl (fun c92=> ?_) fun c92=> ?_))))))))))))))))))))))))))
 · have hno: ¬bv k f=true:=aN2 hok c92
   refine sq (rT [4,5] (s4 (rt ?_)))
   have hr:dA k f=(k,[]):=nd hok hgo hkd hno
   refine rq [] [22,15] rfl ?_
   repeat' apply ai
   all_goals try exact qx
   all_goals(first|with_reducible rfl|(rw[hr];done)|(rw[hr];rfl)|exact aP _|rfl)
 have hyes:bv k f=true:=aLk hok c92
 refine sk (sq (wa [tP 3 3,tP 4 4,tP 7 7,tO 6 15 0,oB 2 79 [.d (.i (k).id),.d (.b (k).up),.d (.s (k).log),.d (.i (k).forced),.d (.sl (bR (k).halves))],oB 3 178 [.d (.i f.kind),.d (.i f.src),.d (.i f.dst),.d (.i f.frm),.d (.i f.num),.d (.i f.to),.d (.i f.til),.d (.i f.size),.d (.i f.mix),.d (.s f.data)],oB 4 79 [.d (.i 0),.d (.b false),.d (.s []),.d (.i 0),.nil],oB 7 79 [.d (.i (k).id),.d (.b (k).up),.d (.s (k).log),.d (.i (k).forced),.d (.sl (bR (k).halves))],oR 15 178 10 []] [] [22] ?_ ?_))
 · repeat' apply ai
   all_goals first|exact qx|exact aP _|rfl|exact qz
 have q1:=bZ (k:=6) (n:=f.frm.toNat) (by simp;omega)
 have q2:=bZ (k:=6) (n:=f.num.toNat) (by simp;omega)
 have q3:=bZ (k:=6) (n:=f.til.toNat) (by simp;omega)
 have hll: (nc f).length≤100:=by simp[nc,iK,iZ];omega
 refine rD [4,6,13] (s7 (xp (ae f.frm f.num f.til (by have:=hfs;omega)) (ai rfl ?_)))
 refine ai (by show _≤9223372036854775807;(try simp only[aU5,aU9,aU8]);omega) (xp (mN k (nc f) false hok (by omega)) (ai rfl ?_))
 refine s6 (ai (by kernel_rfl) (sq (rT [4,5] (s4 (rt ?_)))))
 have hr:dA k f=((fU k (nc f) false).1,[]):=vl hok hgo hkd hyes
 refine rq [] [15] rfl ?_
 repeat' apply ai
 all_goals try exact qx
 all_goals(first|with_reducible rfl|(rw[hr];done)|(rw[hr];rfl)|exact aP _|rfl)
set_option maxHeartbeats 1600000 in
theorem ld (k:aS) (keep:Int) (hl:k.log.length≤140737488355328):Sp 160 2 [tV 0 k.V,tI 1 keep] [tV 0 ((nL k keep).V)]:=by
 refine sb Tryz.func160 rfl (sq (rT [1,2,4] (s2 (sq (sq (rT [1,2,4,7] (s1 (xp (gH k hl) (ai rfl ?_)))))))))
 refine s1 (cd rfl (fun c7=> ?_) fun c7=> ?_)
 · have hno: ¬bG k=true:=sT c7
   refine sq (rT [4] (s2 (rt ?_)))
   have hr:nL k keep= .zero:=if_neg hno
   refine rq [] [] rfl ?_
   repeat' apply ai
   all_goals try exact qx
   all_goals(first|with_reducible rfl|(rw[hr];done)|(rw[hr];rfl)|rfl)
 have hok:bG k=true:=kG c7
 have hlg:=gL hok
 refine sk (sq (rD [4] (s5 (xp (nn k.log k.forced keep (by omega)) (ai rfl ?_)))))
 refine s2 (ai (by kernel_rfl) (rt ?_))
 have hr:nL k keep=⟨k.id,false,(jY k.log k.forced keep).1,(jY k.log k.forced keep).2,[]⟩:=if_pos hok
 refine rq [] [] rfl ?_
 repeat' apply ai
 all_goals try exact qx
 all_goals(first|with_reducible rfl|(rw[hr];done)|(rw[hr];rfl)|rfl)
set_option maxHeartbeats 1600000 in
theorem lf (k:aS) (hl:k.log.length≤140737488355328):Sp 161 1 [tV 0 k.V] [tV 0 ((kF k).V)]:=by
 refine sb Tryz.func161 rfl (sq (rT [1,2] (s2 (sq (sq (rT [1,2,5] (s1 (xp (gH k hl) (ai rfl ?_)))))))))
 refine s1 (cd rfl (fun c5=> ?_) fun c5=> ?_)
 · have hno: ¬bG k=true:=sT c5
   refine sq (rT [2] (s2 (rt ?_)))
   have hr:kF k= .zero:=if_neg hno
   refine rq [] [] rfl ?_
   repeat' apply ai
   all_goals try exact qx
   all_goals(first|with_reducible rfl|(rw[hr];done)|(rw[hr];rfl)|rfl)
 have hok:bG k=true:=kG c5
 have hlg:=gL hok
 refine sk (sq (sq (rT [1,2,8] (s2 (cd rfl (fun c8=> ?_) fun c8=> ?_)))))
 · have hu:k.up=true:=c8
   refine sq (rT [2] (s1 (xp (gB k (⟨by omega,fun x hx=>by have:=hlg.2.2.2.2.2 x hx;omega⟩)) (ai rfl ?_))))
   refine s1 (rt ?_)
   have hr:kF k=k:=by rw[kF,if_pos hok];cases k;simp at hu;simp[hu]
   refine rq [] [] rfl ?_
   repeat' apply ai
   all_goals try exact qx
   all_goals(first|with_reducible rfl|(rw[hr];done)|(rw[hr];rfl)|rfl)
 have hu:k.up=false:=c8
 refine sk (sq (rT [2] (s6 (rt ?_))))
 have hr:=aK4 hok hu
 refine rq [] [] rfl ?_
 repeat' apply ai
 all_goals try exact qx
 all_goals(first|with_reducible rfl|(rw[hr];done)|(rw[hr];rfl)|rfl)
set_option maxHeartbeats 1600000 in
theorem gu (k:aS) (hl:k.log.length≤140737488355328):Sp 164 1 [tV 0 k.V] [tV 0 (.tup [.agg [.d (.i ((eO k).1).id),.d (.b ((eO k).1).up),.d (.s ((eO k).1).log),.d (.i ((eO k).1).forced),.d (.sl (bR ((eO k).1).halves))],.c (.d (.b (eO k).2))])]:=by
 refine sb Tryz.func164 rfl (sq (rT [1,2,15,16,17,18,19,20,21,22] (s3 (sq (sq (rT [1,2,7,15,16,17,18,19,20,21,22] (s1 (xp (gH k hl) (ai rfl ?_)))))))))
 refine s1 (cd rfl (fun c7=> ?_) fun c7=> ?_)
 · have hno: ¬bG k=true:=sT c7
   refine sq (rT [2,3] (s3 (rt ?_)))
   have hr:eO k=(.zero,false):=if_neg hno
   refine rq [] [] rfl ?_
   repeat' apply ai
   all_goals try exact qx
   all_goals(first|with_reducible rfl|(rw[hr];done)|(rw[hr];rfl)|rfl)
 have hok:bG k=true:=kG c7
 have hlg:=gL hok
 refine sk (sq (rT [1,2,4,15,16,17,18,19,20,21,22] (s1 (xp (gB k (⟨by omega,fun x hx=>by have:=hlg.2.2.2.2.2 x hx;omega⟩)) (ai rfl ?_)))))
 refine s2 (sq (sq (rT [1,2,4,23] (s4 (y4 (y4 (ai pk (cd rfl (fun c23=> ?_) fun c23=> ?_))))))))
 · refine sq (rT [2,3] (s3 (rt ?_)))
   have hr:eO k=(k,false):=by rw[eO,if_pos hok,if_pos c23]
   refine rq [] [] rfl ?_
   repeat' apply ai
   all_goals try exact qx
   all_goals(first|with_reducible rfl|(rw[hr];done)|(rw[hr];rfl)|rfl)
 refine sk (sq (rT [2,4] (s2 (xp (jH k.log k.forced (by omega)) (ai rfl ?_)))))
 refine s2 (sq (rT [2,3] (s3 (rt ?_))))
 have hr:eO k=(vB k,true):=by rw[eO,if_pos hok,if_neg (by rw[c23];decide)]
 refine rq [] [] rfl ?_
 repeat' apply ai
 all_goals try exact qx
 all_goals(first|with_reducible rfl|(rw[hr];done)|(rw[hr];rfl)|rfl)
set_option maxHeartbeats 1600000 in
theorem cp (a:Nat) (l:List cH) (ha:a≤30) (hl:l.length≤1000) (hp: ∀f∈l,FP f):Sp 156 2 [tV 0 (.e (.c (ps 804 4 (a)))),tD 1 (.sl (mR l)),(.o 804,aI 175 4 fV)] [tV 0 (.e (.c (ps 804 4 (ew a l.length)))),(.o 804,aI 175 4 fV)]:=by
 refine sb Tryz.func156 rfl (sq (rT [0,1,11,12,13] (s1 (sq (sq (rT [0,1,5,11,12,13] (s1 (bk (SW.loopW (n:=l.length) (fun m q=> ∃i:Nat,m=l.length - i∧(i≤l.length∧a+i≤30)∧q=[tV 0 (.e (.c (ps 804 4 (a+i)))),tD 1 (.sl (mR l)),tI 5 (i:Nat),(.o 804,aI 175 4 fV)]) ?_ ?_)))))))))
 · exact wq (σ':=[tV 0 (.e (.c (ps 804 4 (a+0)))),tD 1 (.sl (mR l)),tI 5 (0:Nat),(.o 804,aI 175 4 fV)]) [] [] (⟨0,rfl,⟨aVa _,ha⟩,rfl⟩) qz
 rintro n s ⟨i,rfl,hi,rfl⟩
 refine sq (sq (rT [0,1,5,11,12,13,14] (s5 (y1 (aCo dH rfl rfl rfl rfl rfl rk (y1 (ai pk (cd rfl (fun c14=> ?_) fun c14=> ?_))))))))
 · have hi2:i<l.length∧a+i<30:=by simp[lP] at c14;omega
   have hg:=vn (l:=l) hi2.1
   have hfp:=hp _ (cW (z:=cH.zero) hi2.1)
   refine sk (sq (bk (rD [0,1,5,11,12,13] (s3 (ai (by rw[aU4,hg];exact⟨⟨by omega,by rw[lP];omega⟩,rfl⟩) (s1 (ai (by rw[aU4,hg];exact⟨aU6 rfl,rfl⟩) (s2 (ai (by rw[aU4,hg];exact⟨⟨by omega,by rw[lP];omega⟩,rfl⟩) (s1 (ai (by rw[aU4,hg];exact⟨aU6 rfl,rfl⟩) (s2 (ai (by rw[aU4,hg];exact⟨⟨by omega,by rw[lP];omega⟩,rfl⟩) (ai (by rw[aU4,hg];exact⟨aU6 rfl,rfl⟩) (bJ (robj:=[]) (rl:=[(0,32)]) (bor:=[]) (rQ (l.getD i .zero)) rfl rfl rfl rfl ⟨dD rfl (by rw[aU4,hg];exact(aF rfl (aF rfl (aF rfl (aF rfl (aF rfl (aF rfl (aF rfl (aF rfl (aF rfl (aF rfl aH))))))))))) trivial,rfl⟩ rfl (.inl rfl) (fun p hp=>nomatch hp) (fun j hj=>by(obtain rfl:j=0:=by simpa[mT,cA,iU] using hj);rfl) ?_)))))))))))))))
   refine ai (by exact⟨aV _,by rw[cE]⟩) (s2 (mi (m:=1) (z:=[.i 0,.i 0,.s [],.b false]) dH rfl rfl rfl rfl rfl rfl rfl rfl vm (ix dH (by decide) rfl rfl rfl (fun r hr=> ?_) rfl) ?_ ?_))
   · rw[aVn.1 hr,aU4,hg]
     exact⟨rfl,⟨_,_,_,_⟩,rfl,hfp.1,by have:=xl (l.getD i .zero);show(iQ (aC (pH (l.getD i .zero)))).length≤1000;rw[cE];omega⟩
   · show(a+i+1)*40≤_;omega
   refine s1 (ai (by kernel_rfl) (rT [0,1,5,11,12,13] (s3 (wq [] [] (⟨l.length - (i+1),by omega,i+1,rfl,by omega,rfl⟩) ?_))))
   repeat' apply ai
   all_goals first|exact qx|exact congrArg D.i (by rw[aE (by omega)];omega)|omega|exact qz
 have hi3:i=l.length∨a+i=30:=by simp[lP] at c14;omega
 refine xt (sq (rT [4] (s2 (rt (eN _ [] [] rfl (aM3 rfl rfl ?_ rfl (aY rfl rfl trivial)) rfl rfl)))))
 unfold ew;omega
theorem wt (a b:Int):Sp 153 2 [tI 0 a,tI 1 b] [tI 0 (bz a b)]:=by
 refine sb Tryz.func153 rfl (sq (rT [0,1] (s1 (sq (sq (rT [0,1,7] (s3 (cd rfl (fun c7=> ?_) fun c7=> ?_))))))))
 · refine sq (rT [4] (s2 (rt (bH rfl (congrArg D.i ?_)))))
   simp[bz] at *; omega
 refine sk (sq (rT [4] (s2 (rt (bH rfl (congrArg D.i ?_))))))
 simp[bz] at *; omega
set_option maxHeartbeats 3200000 in
theorem yt (tm:Int) (ks:List aS) (ls:List Bool) (a b c:Nat) (e:EvR) (hw:xf ks ls a b c) (htx:e.text.length≤1000) (hat:0≤e.at_∧e.at_≤3):qu 157 2 [tV 0 (.e (.agg [.d (.i (tm)),.own 802 4,.own 803 3,ps 804 4 (a),ps 805 5 (b),ps 806 5 (c)])),(.t 1,.v e.V),oR 802 79 5 (aG ks),oR 803 4 1 (aM ls),(.o 804,aI 175 4 fV),(.o 805,aI 29 5 cP),(.o 806,aI 29 5 cP)] (fun s=> ∃(tm:Int) (ks:List aS) (ls:List Bool) (a b c:Nat) (ok:Bool),xf ks ls a b c∧s=[tV 0 (.tup [.agg [.d (.i (tm)),.own 802 4,.own 803 3,ps 804 4 (a),ps 805 5 (b),ps 806 5 (c)],.c (.d (.b (ok)))]),oR 802 79 5 (aG ks),oR 803 4 1 (aM ls),(.o 804,aI 175 4 fV),(.o 805,aI 29 5 cP),(.o 806,aI 29 5 cP)]):=by
 obtain⟨i,hi,hil⟩:=zJ hat
 have hks:=hw.at hil
 refine vt Tryz.func157 rfl (sq (rT [2,3,4] (s4 (sq (sq (rT [2,3,4,11] (s2 (fw dH rfl rfl rfl rfl rfl (s1 (cd rfl (fun c11=> ?_) fun c11=> ?_))))))))))
 · refine sq (rT [4,5] (s3 (rt (cV [tV 0 (.tup [.agg [.d (.i (tm)),.own 802 4,.own 803 3,ps 804 4 (a),ps 805 5 (b),ps 806 5 (c)],.c (.d (.b (false)))]),oR 802 79 5 (aG ks),oR 803 4 1 (aM ls),(.o 804,aI 175 4 fV),(.o 805,aI 29 5 cP),(.o 806,aI 29 5 cP)] ⟨tm,ks,ls,a,b,c,false,hw,rfl⟩ (rq [] [] rfl ?_)))))
   repeat' apply ai
   all_goals try exact qx
   all_goals(first|with_reducible rfl|(rw[hi,aU4];exact bF (by rw[hw.four];exact hil))|rfl)
 have hb6:b<6:=by simp at c11;omega
 refine sk (sq (rD [2,3,4,6,7] (s4 (ai (by rw[hi];exact⟨by rw[bD];exact hw.four,by omega,by omega⟩) (ai (by rw[hi,aU4,cB (by rw[hw.four];exact hil)];exact⟨⟨by rw[bD];exact hw.four,hil⟩,aU6 rfl,rfl⟩) (s6 (xp (nr (ks.getD i .zero) e.dst e.til e.text (by have:=hks.1;omega) (by omega)) (ai (by rw[hi,aU4,cB (by rw[hw.four];exact hil)];rfl) ?_))))))))
 refine s6 (ai (by kernel_rfl) (sq (sq (rT [2,3,4,6,7,30] (s2 (cd rfl (fun c30=> ?_) fun c30=> ?_))))))
 · refine sq (rT [4,5] (s3 (rt (cV [tV 0 (.tup [.agg [.d (.i (tm)),.own 802 4,.own 803 3,ps 804 4 (a),ps 805 5 (b),ps 806 5 (c)],.c (.d (.b (false)))]),oR 802 79 5 (aG ks),oR 803 4 1 (aM ls),(.o 804,aI 175 4 fV),(.o 805,aI 29 5 cP),(.o 806,aI 29 5 cP)] ⟨tm,ks,ls,a,b,c,false,hw,rfl⟩ (rq [] [] rfl ?_)))))
   repeat' apply ai
   all_goals try exact qx
   all_goals(first|with_reducible rfl|(rw[hi,aU4];exact bF (by rw[hw.four];exact hil))|rfl)
 refine sk (sq (rT [2,3,4,7] (s5 (ai (by rw[hi];exact⟨by rw[bD];exact hw.four,by omega,by omega⟩) (ai (by rw[hi,aU4,cB (by rw[hw.four];exact hil)];exact⟨by rw[bD];exact hw.four,hil,rfl,aU6 rfl⟩) (sq (wa [tP 2 2,tP 3 3,tP 4 4,tI 7 ((eE (ks.getD i .zero) e.dst e.til e.text).2),oB 2 84 [.d (.i (tm)),.own 802 4,.own 803 3,ps 804 4 (a),ps 805 5 (b),ps 806 5 (c)],oB 3 140 [.d (.i e.kind),.d (.i e.at_),.d (.i e.frm),.d (.i e.num),.d (.i e.word),.d (.i e.mix),.d (.i e.keep),.d (.i e.dst),.d (.i e.til),.d (.s e.text)],oB 4 84 [.d (.i 0),.nil,.nil,.nil,.nil,.nil],oB 6 79 [.d (.i (((eE (ks.getD i .zero) e.dst e.til e.text).1)).id),.d (.b (((eE (ks.getD i .zero) e.dst e.til e.text).1)).up),.d (.s (((eE (ks.getD i .zero) e.dst e.til e.text).1)).log),.d (.i (((eE (ks.getD i .zero) e.dst e.til e.text).1)).forced),.d (.sl (bR (((eE (ks.getD i .zero) e.dst e.til e.text).1)).halves))],oR 802 79 5 (aG (ks.set i (eE (ks.getD i .zero) e.dst e.til e.text).1)),oR 803 4 1 (aM ls),(.o 804,aI 175 4 fV),(.o 805,aI 29 5 cP),(.o 806,aI 29 5 cP)] [] [] ?_ ?_)))))))
 · repeat' apply ai
   all_goals first|exact qx|(rw[hi,aU4];exact bF (k:=(eE (ks.getD i .zero) e.dst e.til e.text).1) (by rw[hw.four];exact hil))|rfl|exact qz
 refine rT [2,4] (s9 (s4 (mi (m:=1) (z:=[.i 0,.i 0,.i 0,.i 0,.s []]) dH rfl rfl rfl rfl rfl rfl rfl rfl aFe (ix dH (by decide) rfl rfl rfl (fun r hr=> ?_) rfl) ?_ ?_)))
 · rw[aVn.1 hr]
   exact⟨rfl,⟨_,_,_,_,_⟩,rfl,by show e.text.length≤1000000;omega⟩
 · have:=hw.rb;show(_+1)*48≤_;omega
 refine s2 (sq (rT [4,5] (s3 (rt (cV [tV 0 (.tup [.agg [.d (.i (tm)),.own 802 4,.own 803 3,ps 804 4 (a),ps 805 5 ((b+1)),ps 806 5 (c)],.c (.d (.b (true)))]),oR 802 79 5 (aG (ks.set i (eE (ks.getD i .zero) e.dst e.til e.text).1)),oR 803 4 1 (aM ls),(.o 804,aI 175 4 fV),(.o 805,aI 29 5 cP),(.o 806,aI 29 5 cP)] ⟨tm,(ks.set i (eE (ks.getD i .zero) e.dst e.til e.text).1),ls,a,(b+1),c,true,((hw.set (aLl hks) i).to hw.ra (by omega) hw.rc),rfl⟩ (rq [] [] rfl ?_))))))
 repeat' apply ai
 all_goals try exact qx
 all_goals(first|with_reducible rfl|(rw[hi,aU4];exact bF (by rw[hw.four];exact hil))|rfl)
set_option maxHeartbeats 6400000 in
theorem nw (tm:Int) (ks:List aS) (ls:List Bool) (a b c:Nat) (e:EvR) (hw:xf ks ls a b c) (htx:e.text.length≤1000) (hat:0≤e.at_∧e.at_≤3):qu 148 2 [tV 0 (.e (.agg [.d (.i (tm)),.own 802 4,.own 803 3,ps 804 4 (a),ps 805 5 (b),ps 806 5 (c)])),(.t 1,.v e.V),oR 802 79 5 (aG ks),oR 803 4 1 (aM ls),(.o 804,aI 175 4 fV),(.o 805,aI 29 5 cP),(.o 806,aI 29 5 cP)] (fun s=> ∃(tm:Int) (ks:List aS) (ls:List Bool) (a b c:Nat) (ok:Bool),xf ks ls a b c∧s=[tV 0 (.tup [.agg [.d (.i (tm)),.own 802 4,.own 803 3,ps 804 4 (a),ps 805 5 (b),ps 806 5 (c)],.c (.d (.b (ok)))]),oR 802 79 5 (aG ks),oR 803 4 1 (aM ls),(.o 804,aI 175 4 fV),(.o 805,aI 29 5 cP),(.o 806,aI 29 5 cP)]):=by
 obtain⟨i,hi,hil⟩:=zJ hat
 have hks:=hw.at hil
 refine vt Tryz.func148 rfl (sq (rT [2,3,4,103,104,105,106] (s4 (sq (rT [2,3,4,6,103,104,105,106] (s4 (ai (by rw[hi];exact⟨by rw[bD];exact hw.four,by omega,by omega⟩) (ai (by rw[hi,aU4,cB (by rw[hw.four];exact hil)];exact⟨⟨by rw[bD];exact hw.four,hil⟩,aU6 rfl,rfl⟩) (s2 (sq (wa [tP 2 2,tP 3 3,tP 4 4,tP 6 6,oB 2 84 [.d (.i (tm)),.own 802 4,.own 803 3,ps 804 4 (a),ps 805 5 (b),ps 806 5 (c)],oB 3 140 [.d (.i e.kind),.d (.i e.at_),.d (.i e.frm),.d (.i e.num),.d (.i e.word),.d (.i e.mix),.d (.i e.keep),.d (.i e.dst),.d (.i e.til),.d (.s e.text)],oB 4 84 [.d (.i 0),.nil,.nil,.nil,.nil,.nil],oB 6 79 [.d (.i ((ks.getD i .zero)).id),.d (.b ((ks.getD i .zero)).up),.d (.s ((ks.getD i .zero)).log),.d (.i ((ks.getD i .zero)).forced),.d (.sl (bR ((ks.getD i .zero)).halves))],oR 802 79 5 (aG ks),oR 803 4 1 (aM ls),(.o 804,aI 175 4 fV),(.o 805,aI 29 5 cP),(.o 806,aI 29 5 cP)] [] [] ?_ ?_)))))))))))
 · repeat' apply ai
   all_goals first|exact qx|(rw[hi,aU4,cB (by rw[hw.four];exact hil)];rfl)|exact qz
 refine rT [2,3,4,6,7,103,104,105,106] (s1 (SW.midW (fun q=> ∃(ks2:List aS) (ok2:Bool),xf ks2 ls a b c∧q=[tP 2 2,tP 4 4,tB 7 ok2,oB 2 84 [.d (.i (tm)),.own 802 4,.own 803 3,ps 804 4 (a),ps 805 5 (b),ps 806 5 (c)],oB 3 140 [.d (.i e.kind),.d (.i e.at_),.d (.i e.frm),.d (.i e.num),.d (.i e.word),.d (.i e.mix),.d (.i e.keep),.d (.i e.dst),.d (.i e.til),.d (.s e.text)],oB 4 84 [.d (.i 0),.nil,.nil,.nil,.nil,.nil],oR 802 79 5 (aG ks2),oR 803 4 1 (aM ls),(.o 804,aI 175 4 fV),(.o 805,aI 29 5 cP),(.o 806,aI 29 5 cP)]) ?_ ?_))
 · refine sq (rT [2,3,4,6,7,20,103,104,105,106] (s2 (bk (sq (rT [2,3,4,6,7,20,21,103,104,105,106] (s2 (cd rfl (fun c21=> ?_) fun c21=> ?_)))))))
   · refine sq (rE [4,5] (s2 (cK (robj:=[(802,.row 79 5 (aG ks)),(803,.row 4 1 (aM ls)),(804,aI 175 4 fV),(805,aI 29 5 cP),(806,aI 29 5 cP)]) (rl:=[]) (bor:=[]) (news:=[]) (yt tm ks ls a b c e hw htx hat) rfl rfl rfl rfl ⟨dD rfl (aF rfl (bK rfl rfl rfl (bK rfl rfl rfl (bE rfl rfl rfl (bE rfl rfl rfl (bE rfl rfl rfl aH)))))) (dD rfl (aF rfl (aF rfl (aF rfl (aF rfl (aF rfl (aF rfl (aF rfl (aF rfl (aF rfl (aF rfl aH)))))))))) (bW rfl rfl (bW rfl rfl (aY rfl rfl (aY rfl rfl (aY rfl rfl trivial)))))),rfl⟩ (by rintro _ ⟨tm2,ks2,ls2,a2,b2,c2,ok2,hw2,rfl⟩;exact⟨rfl,.inl rfl,fun j hj=>nomatch hj⟩) (aK ⟨rfl,rfl,rfl,rfl,rfl,trivial⟩) (fun j hj=>nomatch hj) ?_)))
     rintro _ ⟨tm2,ks2,ls2,a2,b2,c2,ok2,hw2,rfl⟩
     refine s4 (rt (cV [tV 0 (.tup [.agg [.d (.i (tm2)),.own 802 4,.own 803 3,ps 804 4 (a2),ps 805 5 (b2),ps 806 5 (c2)],.c (.d (.b (ok2)))]),oR 802 79 5 (aG ks2),oR 803 4 1 (aM ls2),(.o 804,aI 175 4 fV),(.o 805,aI 29 5 cP),(.o 806,aI 29 5 cP)] ⟨tm2,ks2,ls2,a2,b2,c2,ok2,hw2,rfl⟩ (rq [] [] rfl ?_)))
     repeat' apply ai
     all_goals try exact qx
     all_goals(first|with_reducible rfl|(rw[hi,aU4];exact bF (by rw[hw.four];exact hil))|rfl)
   refine sq (rT [2,3,4,6,7,20,28,103,104,105,106] (s2 (cd rfl (fun c28=> ?_) fun c28=> ?_)))
   · refine rD [2,4,7] (s5 (xp (kx (ks.getD i .zero) (by have:=hks.1;omega)) (ai rfl ?_)))
     refine s3 (ai (by rw[hi];exact⟨by rw[bD];exact hw.four,by omega,by omega⟩) (ai (by rw[hi,aU4,cB (by rw[hw.four];exact hil)];exact⟨by rw[bD];exact hw.four,hil,rfl,aU6 rfl⟩) (s1 (ai (by kernel_rfl) ?_))))
     first
     |(refine wq [] [] (⟨(ks.set i (eM (ks.getD i .zero)).1),(eM (ks.getD i .zero)).2,(hw.set (zH hks) i),rfl⟩) ?_
       repeat' apply ai
       all_goals try exact qx
       all_goals(first|with_reducible rfl|(rw[hi,aU4];exact bF (by rw[hw.four];exact hil))|rfl))
     |(refine wq [] [] (⟨(ks.set i (eG (ks.getD i .zero)).1),(eG (ks.getD i .zero)).2,(hw.set (zI hks) i),rfl⟩) ?_
       repeat' apply ai
       all_goals try exact qx
       all_goals(first|with_reducible rfl|(rw[hi,aU4];exact bF (by rw[hw.four];exact hil))|rfl))
     |(refine wq [] [] (⟨(ks.set i (eO (ks.getD i .zero)).1),(eO (ks.getD i .zero)).2,(hw.set (wC hks) i),rfl⟩) ?_
       repeat' apply ai
       all_goals try exact qx
       all_goals(first|with_reducible rfl|(rw[hi,aU4];exact bF (by rw[hw.four];exact hil))|rfl))
     |(refine wq [] [] (⟨ks,false,hw,rfl⟩) ?_
       repeat' apply ai
       all_goals try exact qx
       all_goals(first|with_reducible rfl|(rw[hi,aU4];exact bF (by rw[hw.four];exact hil))|rfl))
   refine sq (rT [2,3,4,6,7,20,40,103,104,105,106] (s2 (cd rfl (fun c40=> ?_) fun c40=> ?_)))
   · refine sq (rT [2,4,8,9] (s7 (xp (nq (ks.getD i .zero) e.frm e.num e.mix (by have:=hks.1;omega)) (ai rfl ?_))))
     refine s6 (sq (sq (rT [2,4,8,9,53] (s1 (cd rfl (fun c53=> ?_) fun c53=> ?_)))))
     · refine rE [2,4,9] (s4 (yK 57 57 rfl rfl rfl (by rfl) (gY (bJ (robj:=[(804,aI 175 4 fV)]) (rl:=[]) (bor:=[]) (cp a [(eK (ks.getD i .zero) e.frm e.num e.mix).1] hw.ra (by simp) (fun f hf=>by rw[aVn.1 hf];exact aS7 c53)) rfl rfl rfl rfl ⟨aM3 rfl rfl rfl rfl (cJ rfl rfl (aY rfl rfl trivial)),rfl⟩ rfl (.inl rfl) (aK ⟨rfl,trivial⟩) (fun j hj=>nomatch hj) (s2 (sq (rT [4,5] (s4 (rt ?_)))))))))
       first
       |(refine cV [tV 0 (.tup [.agg [.d (.i (tm)),.own 802 4,.own 803 3,ps 804 4 ((ew a 1)),ps 805 5 (b),ps 806 5 (c)],.c (.d (.b ((eK (ks.getD i .zero) e.frm e.num e.mix).2)))]),oR 802 79 5 (aG ks),oR 803 4 1 (aM ls),(.o 804,aI 175 4 fV),(.o 805,aI 29 5 cP),(.o 806,aI 29 5 cP)] ⟨tm,ks,ls,(ew a 1),b,c,(eK (ks.getD i .zero) e.frm e.num e.mix).2,(hw.to (vo hw.ra) hw.rb hw.rc),rfl⟩ (rq [] [] rfl ?_)
         repeat' apply ai
         all_goals try exact qx
         all_goals(first|with_reducible rfl|(rw[hi,aU4];exact bF (by rw[hw.four];exact hil))|rfl))
       |(refine cV [tV 0 (.tup [.agg [.d (.i (tm)),.own 802 4,.own 803 3,ps 804 4 (a),ps 805 5 (b),ps 806 5 (c)],.c (.d (.b ((eK (ks.getD i .zero) e.frm e.num e.mix).2)))]),oR 802 79 5 (aG ks),oR 803 4 1 (aM ls),(.o 804,aI 175 4 fV),(.o 805,aI 29 5 cP),(.o 806,aI 29 5 cP)] ⟨tm,ks,ls,a,b,c,(eK (ks.getD i .zero) e.frm e.num e.mix).2,hw,rfl⟩ (rq [] [] rfl ?_)
         repeat' apply ai
         all_goals try exact qx
         all_goals(first|with_reducible rfl|(rw[hi,aU4];exact bF (by rw[hw.four];exact hil))|rfl))
     refine sk (sq (rT [4,5] (s4 (rt ?_))))
     first
     |(refine cV [tV 0 (.tup [.agg [.d (.i (tm)),.own 802 4,.own 803 3,ps 804 4 ((ew a 1)),ps 805 5 (b),ps 806 5 (c)],.c (.d (.b ((eK (ks.getD i .zero) e.frm e.num e.mix).2)))]),oR 802 79 5 (aG ks),oR 803 4 1 (aM ls),(.o 804,aI 175 4 fV),(.o 805,aI 29 5 cP),(.o 806,aI 29 5 cP)] ⟨tm,ks,ls,(ew a 1),b,c,(eK (ks.getD i .zero) e.frm e.num e.mix).2,(hw.to (vo hw.ra) hw.rb hw.rc),rfl⟩ (rq [] [] rfl ?_)
       repeat' apply ai
       all_goals try exact qx
       all_goals(first|with_reducible rfl|(rw[hi,aU4];exact bF (by rw[hw.four];exact hil))|rfl))
     |(refine cV [tV 0 (.tup [.agg [.d (.i (tm)),.own 802 4,.own 803 3,ps 804 4 (a),ps 805 5 (b),ps 806 5 (c)],.c (.d (.b ((eK (ks.getD i .zero) e.frm e.num e.mix).2)))]),oR 802 79 5 (aG ks),oR 803 4 1 (aM ls),(.o 804,aI 175 4 fV),(.o 805,aI 29 5 cP),(.o 806,aI 29 5 cP)] ⟨tm,ks,ls,a,b,c,(eK (ks.getD i .zero) e.frm e.num e.mix).2,hw,rfl⟩ (rq [] [] rfl ?_)
       repeat' apply ai
       all_goals try exact qx
       all_goals(first|with_reducible rfl|(rw[hi,aU4];exact bF (by rw[hw.four];exact hil))|rfl))
   refine sq (rT [2,3,4,6,7,20,62,103,104,105,106] (s2 (cd rfl (fun c62=> ?_) fun c62=> ?_)))
   · refine sq (rD [2,4,6] (s7 (xp (ld (ks.getD i .zero) e.keep (by have:=hks.1;omega)) (ai rfl ?_))))
     refine ai (by rw[hi];exact⟨by rw[bD];exact hw.four,by omega,by omega⟩) (ai (by rw[hi,aU4,cB (by rw[hw.four];exact hil)];exact⟨by rw[bD];exact hw.four,hil,rfl,aU6 rfl⟩) (ai (by kernel_rfl) (sq (rD [4,5] (s5 (ai (by kernel_rfl) (rt (cV [tV 0 (.tup [.agg [.d (.i (tm)),.own 802 4,.own 803 3,ps 804 4 (a),ps 805 5 (b),ps 806 5 (c)],.c (.d (.b ((ks.getD i .zero).up)))]),oR 802 79 5 (aG (ks.set i (nL (ks.getD i .zero) e.keep))),oR 803 4 1 (aM ls),(.o 804,aI 175 4 fV),(.o 805,aI 29 5 cP),(.o 806,aI 29 5 cP)] ⟨tm,(ks.set i (nL (ks.getD i .zero) e.keep)),ls,a,b,c,(ks.getD i .zero).up,(hw.set (aIb hks) i),rfl⟩ (rq [] [] rfl ?_)))))))))
     repeat' apply ai
     all_goals try exact qx
     all_goals(first|with_reducible rfl|(rw[hi,aU4];exact bF (k:=(nL (ks.getD i .zero) e.keep)) (by rw[hw.four];exact hil))|rfl)
   refine sq (rT [2,3,4,6,7,20,76,103,104,105,106] (s2 (cd rfl (fun c76=> ?_) fun c76=> ?_)))
   · refine sq (rD [2,4,6] (s5 (xp (lf (ks.getD i .zero) (by have:=hks.1;omega)) (ai rfl ?_))))
     refine ai (by rw[hi];exact⟨by rw[bD];exact hw.four,by omega,by omega⟩) (ai (by rw[hi,aU4,cB (by rw[hw.four];exact hil)];exact⟨by rw[bD];exact hw.four,hil,rfl,aU6 rfl⟩) (ai (by kernel_rfl) (sq (rD [4,5] (s6 (ai (by kernel_rfl) (rt (cV [tV 0 (.tup [.agg [.d (.i (tm)),.own 802 4,.own 803 3,ps 804 4 (a),ps 805 5 (b),ps 806 5 (c)],.c (.d (.b ((!(ks.getD i .zero).up))))]),oR 802 79 5 (aG (ks.set i (kF (ks.getD i .zero)))),oR 803 4 1 (aM ls),(.o 804,aI 175 4 fV),(.o 805,aI 29 5 cP),(.o 806,aI 29 5 cP)] ⟨tm,(ks.set i (kF (ks.getD i .zero))),ls,a,b,c,(!(ks.getD i .zero).up),(hw.set (aIc hks) i),rfl⟩ (rq [] [] rfl ?_)))))))))
     repeat' apply ai
     all_goals try exact qx
     all_goals(first|with_reducible rfl|(rw[hi,aU4];exact bF (k:=(kF (ks.getD i .zero))) (by rw[hw.four];exact hil))|rfl)
   refine sq (rT [2,3,4,6,7,20,89,103,104,105,106] (s2 (cd rfl (fun c89=> ?_) fun c89=> ?_)))
   · refine sq (rT [2,3,4,10,11,12,103,104,105,106] (s5 (xp (nt (ks.getD i .zero) e.frm e.num (by have:=hks.1;omega)) (ai rfl ?_))))
     refine s9 (sq (sq (wa [tP 2 2,tP 3 3,tP 4 4,tP 10 10,tP 11 11,tB 12 ((cL (ks.getD i .zero) e.frm e.num).2.2),oB 2 84 [.d (.i (tm)),.own 802 4,.own 803 3,ps 804 4 (a),ps 805 5 (b),ps 806 5 (c)],oB 3 140 [.d (.i e.kind),.d (.i e.at_),.d (.i e.frm),.d (.i e.num),.d (.i e.word),.d (.i e.mix),.d (.i e.keep),.d (.i e.dst),.d (.i e.til),.d (.s e.text)],oB 4 84 [.d (.i 0),.nil,.nil,.nil,.nil,.nil],oB 10 79 [.d (.i (((cL (ks.getD i .zero) e.frm e.num).1)).id),.d (.b (((cL (ks.getD i .zero) e.frm e.num).1)).up),.d (.s (((cL (ks.getD i .zero) e.frm e.num).1)).log),.d (.i (((cL (ks.getD i .zero) e.frm e.num).1)).forced),.d (.sl (bR (((cL (ks.getD i .zero) e.frm e.num).1)).halves))],oB 11 29 [.d (.i (cL (ks.getD i .zero) e.frm e.num).2.1.frm),.d (.i (cL (ks.getD i .zero) e.frm e.num).2.1.num),.d (.i (cL (ks.getD i .zero) e.frm e.num).2.1.to),.d (.i (cL (ks.getD i .zero) e.frm e.num).2.1.til),.d (.s (cL (ks.getD i .zero) e.frm e.num).2.1.text)],oR 802 79 5 (aG ks),oR 803 4 1 (aM ls),(.o 804,aI 175 4 fV),(.o 805,aI 29 5 cP),(.o 806,aI 29 5 cP)] [] [] qz (rT [2,3,4,10,11,107] (s2 (y2 (aCo dH rfl rfl rfl rfl rfl rk ?_)))))))
     refine y1 (ai pk (cd rfl (fun c107=> ?_) fun c107=> ?_))
     · have hc6:c<6:=by simp at c107;omega
       refine sq (rT [2,4,11] (s5 (ai (by rw[hi];exact⟨by rw[bD];exact hw.four,by omega,by omega⟩) (ai (by rw[hi,aU4,cB (by rw[hw.four];exact hil)];exact⟨by rw[bD];exact hw.four,hil,rfl,aU6 rfl⟩) (sq (wa [tP 2 2,tP 4 4,tP 11 11,oB 2 84 [.d (.i (tm)),.own 802 4,.own 803 3,ps 804 4 (a),ps 805 5 (b),ps 806 5 (c)],oB 3 140 [.d (.i e.kind),.d (.i e.at_),.d (.i e.frm),.d (.i e.num),.d (.i e.word),.d (.i e.mix),.d (.i e.keep),.d (.i e.dst),.d (.i e.til),.d (.s e.text)],oB 4 84 [.d (.i 0),.nil,.nil,.nil,.nil,.nil],oB 11 29 [.d (.i (cL (ks.getD i .zero) e.frm e.num).2.1.frm),.d (.i (cL (ks.getD i .zero) e.frm e.num).2.1.num),.d (.i (cL (ks.getD i .zero) e.frm e.num).2.1.to),.d (.i (cL (ks.getD i .zero) e.frm e.num).2.1.til),.d (.s (cL (ks.getD i .zero) e.frm e.num).2.1.text)],oR 802 79 5 (aG (ks.set i (cL (ks.getD i .zero) e.frm e.num).1)),oR 803 4 1 (aM ls),(.o 804,aI 175 4 fV),(.o 805,aI 29 5 cP),(.o 806,aI 29 5 cP)] [] [] ?_ ?_))))))
       · repeat' apply ai
         all_goals first|exact qx|(rw[hi,aU4];exact bF (k:=(cL (ks.getD i .zero) e.frm e.num).1) (by rw[hw.four];exact hil))|rfl|exact qz
       refine rT [2,4] (s4 (mi (m:=1) (z:=[.i 0,.i 0,.i 0,.i 0,.s []]) dH rfl rfl rfl rfl rfl rfl rfl rfl aFe (ix dH (by decide) rfl rfl rfl (fun r hr=> ?_) rfl) ?_ ?_))
       · rw[aVn.1 hr]
         exact⟨rfl,⟨_,_,_,_,_⟩,rfl,by exact aN5 hks⟩
       · have:=hw.rc;show(_+1)*48≤_;omega
       refine s2 (sq (rT [4,5] (s3 (rt (cV [tV 0 (.tup [.agg [.d (.i (tm)),.own 802 4,.own 803 3,ps 804 4 (a),ps 805 5 (b),ps 806 5 ((c+1))],.c (.d (.b (true)))]),oR 802 79 5 (aG (ks.set i (cL (ks.getD i .zero) e.frm e.num).1)),oR 803 4 1 (aM ls),(.o 804,aI 175 4 fV),(.o 805,aI 29 5 cP),(.o 806,aI 29 5 cP)] ⟨tm,(ks.set i (cL (ks.getD i .zero) e.frm e.num).1),ls,a,b,(c+1),true,((hw.set (aLm hks) i).to hw.ra hw.rb (by omega)),rfl⟩ (rq [] [] rfl ?_))))))
       repeat' apply ai
       all_goals try exact qx
       all_goals(first|with_reducible rfl|(rw[hi,aU4];exact bF (by rw[hw.four];exact hil))|rfl)
     refine sk (sq (rT [4,5] (s3 (rt (cV [tV 0 (.tup [.agg [.d (.i (tm)),.own 802 4,.own 803 3,ps 804 4 (a),ps 805 5 (b),ps 806 5 (c)],.c (.d (.b (false)))]),oR 802 79 5 (aG ks),oR 803 4 1 (aM ls),(.o 804,aI 175 4 fV),(.o 805,aI 29 5 cP),(.o 806,aI 29 5 cP)] ⟨tm,ks,ls,a,b,c,false,hw,rfl⟩ (rq [] [] rfl ?_))))))
     repeat' apply ai
     all_goals try exact qx
     all_goals(first|with_reducible rfl|(rw[hi,aU4];exact bF (by rw[hw.four];exact hil))|rfl)
   refine sq (rT [2,3,4,6,7,20,122] (s2 (cd rfl (fun c122=> ?_) fun c122=> ?_)))
   · refine rD [2,4,7] (s5 (xp (ky (ks.getD i .zero) (by have:=hks.1;omega)) (ai rfl ?_)))
     refine s3 (ai (by rw[hi];exact⟨by rw[bD];exact hw.four,by omega,by omega⟩) (ai (by rw[hi,aU4,cB (by rw[hw.four];exact hil)];exact⟨by rw[bD];exact hw.four,hil,rfl,aU6 rfl⟩) (s1 (ai (by kernel_rfl) ?_))))
     first
     |(refine wq [] [] (⟨(ks.set i (eM (ks.getD i .zero)).1),(eM (ks.getD i .zero)).2,(hw.set (zH hks) i),rfl⟩) ?_
       repeat' apply ai
       all_goals try exact qx
       all_goals(first|with_reducible rfl|(rw[hi,aU4];exact bF (by rw[hw.four];exact hil))|rfl))
     |(refine wq [] [] (⟨(ks.set i (eG (ks.getD i .zero)).1),(eG (ks.getD i .zero)).2,(hw.set (zI hks) i),rfl⟩) ?_
       repeat' apply ai
       all_goals try exact qx
       all_goals(first|with_reducible rfl|(rw[hi,aU4];exact bF (by rw[hw.four];exact hil))|rfl))
     |(refine wq [] [] (⟨(ks.set i (eO (ks.getD i .zero)).1),(eO (ks.getD i .zero)).2,(hw.set (wC hks) i),rfl⟩) ?_
       repeat' apply ai
       all_goals try exact qx
       all_goals(first|with_reducible rfl|(rw[hi,aU4];exact bF (by rw[hw.four];exact hil))|rfl))
     |(refine wq [] [] (⟨ks,false,hw,rfl⟩) ?_
       repeat' apply ai
       all_goals try exact qx
       all_goals(first|with_reducible rfl|(rw[hi,aU4];exact bF (by rw[hw.four];exact hil))|rfl))
   refine sq (rT [2,3,4,6,7,134] (s2 (cd rfl (fun c134=> ?_) fun c134=> ?_)))
   · refine rD [2,4,7] (s5 (xp (gu (ks.getD i .zero) (by have:=hks.1;omega)) (ai rfl ?_)))
     refine s3 (ai (by rw[hi];exact⟨by rw[bD];exact hw.four,by omega,by omega⟩) (ai (by rw[hi,aU4,cB (by rw[hw.four];exact hil)];exact⟨by rw[bD];exact hw.four,hil,rfl,aU6 rfl⟩) (s1 (ai (by kernel_rfl) ?_))))
     first
     |(refine wq [] [] (⟨(ks.set i (eM (ks.getD i .zero)).1),(eM (ks.getD i .zero)).2,(hw.set (zH hks) i),rfl⟩) ?_
       repeat' apply ai
       all_goals try exact qx
       all_goals(first|with_reducible rfl|(rw[hi,aU4];exact bF (by rw[hw.four];exact hil))|rfl))
     |(refine wq [] [] (⟨(ks.set i (eG (ks.getD i .zero)).1),(eG (ks.getD i .zero)).2,(hw.set (zI hks) i),rfl⟩) ?_
       repeat' apply ai
       all_goals try exact qx
       all_goals(first|with_reducible rfl|(rw[hi,aU4];exact bF (by rw[hw.four];exact hil))|rfl))
     |(refine wq [] [] (⟨(ks.set i (eO (ks.getD i .zero)).1),(eO (ks.getD i .zero)).2,(hw.set (wC hks) i),rfl⟩) ?_
       repeat' apply ai
       all_goals try exact qx
       all_goals(first|with_reducible rfl|(rw[hi,aU4];exact bF (by rw[hw.four];exact hil))|rfl))
     |(refine wq [] [] (⟨ks,false,hw,rfl⟩) ?_
       repeat' apply ai
       all_goals try exact qx
       all_goals(first|with_reducible rfl|(rw[hi,aU4];exact bF (by rw[hw.four];exact hil))|rfl))
   refine sk ?_
   first
   |(refine wq [] [] (⟨(ks.set i (eM (ks.getD i .zero)).1),(eM (ks.getD i .zero)).2,(hw.set (zH hks) i),rfl⟩) ?_
     repeat' apply ai
     all_goals try exact qx
     all_goals(first|with_reducible rfl|(rw[hi,aU4];exact bF (by rw[hw.four];exact hil))|rfl))
   |(refine wq [] [] (⟨(ks.set i (eG (ks.getD i .zero)).1),(eG (ks.getD i .zero)).2,(hw.set (zI hks) i),rfl⟩) ?_
     repeat' apply ai
     all_goals try exact qx
     all_goals(first|with_reducible rfl|(rw[hi,aU4];exact bF (by rw[hw.four];exact hil))|rfl))
   |(refine wq [] [] (⟨(ks.set i (eO (ks.getD i .zero)).1),(eO (ks.getD i .zero)).2,(hw.set (wC hks) i),rfl⟩) ?_
     repeat' apply ai
     all_goals try exact qx
     all_goals(first|with_reducible rfl|(rw[hi,aU4];exact bF (by rw[hw.four];exact hil))|rfl))
   |(refine wq [] [] (⟨ks,false,hw,rfl⟩) ?_
     repeat' apply ai
     all_goals try exact qx
     all_goals(first|with_reducible rfl|(rw[hi,aU4];exact bF (by rw[hw.four];exact hil))|rfl))
 rintro s ⟨ks2,ok2,hw2,rfl⟩
 refine sq (rT [4,5] (s4 (rt (cV [tV 0 (.tup [.agg [.d (.i (tm)),.own 802 4,.own 803 3,ps 804 4 (a),ps 805 5 (b),ps 806 5 (c)],.c (.d (.b (ok2)))]),oR 802 79 5 (aG ks2),oR 803 4 1 (aM ls),(.o 804,aI 175 4 fV),(.o 805,aI 29 5 cP),(.o 806,aI 29 5 cP)] ⟨tm,ks2,ls,a,b,c,ok2,hw2,rfl⟩ (rq [] [] rfl ?_)))))
 repeat' apply ai
 all_goals try exact qx
 all_goals(first|with_reducible rfl|(rw[hi,aU4];exact bF (by rw[hw.four];exact hil))|rfl)
set_option maxHeartbeats 6400000 in
theorem qo (tm:Int) (ks:List aS) (ls:List Bool) (a b c:Nat) (e:EvR) (hw:xf ks ls a b c) (htx:e.text.length≤1000):qu 147 2 [tV 0 (.e (.agg [.d (.i (tm)),.own 802 4,.own 803 3,ps 804 4 (a),ps 805 5 (b),ps 806 5 (c)])),(.t 1,.v e.V),oR 802 79 5 (aG ks),oR 803 4 1 (aM ls),(.o 804,aI 175 4 fV),(.o 805,aI 29 5 cP),(.o 806,aI 29 5 cP)] (fun s=> ∃(tm:Int) (ks:List aS) (ls:List Bool) (a b c:Nat) (ok:Bool),xf ks ls a b c∧s=[tV 0 (.tup [.agg [.d (.i (tm)),.own 802 4,.own 803 3,ps 804 4 (a),ps 805 5 (b),ps 806 5 (c)],.c (.d (.b (ok)))]),oR 802 79 5 (aG ks),oR 803 4 1 (aM ls),(.o 804,aI 175 4 fV),(.o 805,aI 29 5 cP),(.o 806,aI 29 5 cP)]):=by
 refine vt Tryz.func147 rfl (sq (rT [2,3,4,33,34,35,36,37,38,39,40,43,44,45,46,84,85,86,87,88,89,90,91,92,93,100,101,102,133,134,135,136,137,140,141,142,143,144] (s4 (sq (sq (rT [2,3,4,19,33,34,35,36,37,38,39,40,43,44,45,46,84,85,86,87,88,89,90,91,92,93,100,101,102,133,134,135,136,137,140,141,142,143,144] (s4 (fw dH rfl rfl rfl rfl rfl (s1 (xp (dJ _ _ _) (ai rfl ?_)))))))))))
 refine s1 (cd rfl (fun c19=> ?_) fun c19=> ?_)
 · refine sq (rT [4,5] (s3 (rt (cV [tV 0 (.tup [.agg [.d (.i (tm)),.own 802 4,.own 803 3,ps 804 4 (a),ps 805 5 (b),ps 806 5 (c)],.c (.d (.b (false)))]),oR 802 79 5 (aG ks),oR 803 4 1 (aM ls),(.o 804,aI 175 4 fV),(.o 805,aI 29 5 cP),(.o 806,aI 29 5 cP)] ⟨tm,ks,ls,a,b,c,false,hw,rfl⟩ (rq [] [] rfl ?_)))))
   repeat' apply ai
   all_goals try exact qx
   all_goals(first|with_reducible rfl|(rw[hi,aU4];exact bF (by rw[hw.four];exact hil))|rfl)
 have hwd0:0≤e.word∧e.word≤(a:Int) - 1:=by rw[aE (by have:=hw.ra;omega)] at c19;simp[iB] at c19;omega
 refine sk (sq ?_)
 obtain⟨wi,hwi,hwl⟩: ∃wi:Nat,e.word=(wi:Int)∧wi<a:=⟨e.word.toNat,by omega,by omega⟩
 have hwd:0≤e.word∧e.word< (a:Int):=by omega
 refine rE [2,3,4,6,33,34,35,36,37,38,39,40,43,44,45,46,84,85,86,87,88,89,90,91,92,93,100,101,102,133,134,135,136,137,140,141,142,143,144] (s4 (gY (aGy dH rfl rfl rfl rfl rfl rfl rfl rfl hwd (aM0 dH rfl rfl rfl rfl rfl rfl (aU6 rfl) ?_))))
 rintro _ _ ⟨p,rfl,hpp⟩
 refine s2 (sq (sq (rT [2,3,4,6,29,33,34,35,36,37,38,39,40,43,44,45,46,84,85,86,87,88,89,90,91,92,93,100,101,102,133,134,135,136,137,140,141,142,143,144] (s3 (cd rfl (fun c29=> ?_) fun c29=> ?_)))))
 · refine sq (sq (rT [2,3,4,6,47] (s3 (y4 (y2 (xc (fun h=>(dJ _ _ _)) (ai rfl (ai rk ?_))))))))
   refine y1 (ai pk (s1 (y2 (xc (fun h=>(dJ _ _ _)) (ai rfl (ai rk ?_))))))
   refine y1 (ai pk (cd rfl (fun c47=> ?_) fun c47=> ?_))
   · refine sq (rT [4,5] (s3 (rt (cV [tV 0 (.tup [.agg [.d (.i (tm)),.own 802 4,.own 803 3,ps 804 4 (a),ps 805 5 (b),ps 806 5 (c)],.c (.d (.b (false)))]),oR 802 79 5 (aG ks),oR 803 4 1 (aM ls),(.o 804,aI 175 4 fV),(.o 805,aI 29 5 cP),(.o 806,aI 29 5 cP)] ⟨tm,ks,ls,a,b,c,false,hw,rfl⟩ (rq [] [] rfl ?_)))))
     repeat' apply ai
     all_goals try exact qx
     all_goals(first|with_reducible rfl|(rw[hi,aU4];exact bF (by rw[hw.four];exact hil))|rfl)
   have hpl:=hpp.2
   have hmx:0≤e.mix∧e.mix≤(p.data.length:Int) - 1:=by rw[aE (by omega)] at c47;simp[gb,iB] at c47;omega
   refine sk (sq (rT [2,3,4,7] (s2 (ai (by omega) (s1 (sq ?_))))))
   obtain⟨i,hi,hil⟩: ∃i:Nat,e.mix=(i:Int)∧i<p.data.length:=⟨e.mix.toNat,by omega,by omega⟩
   have hgb:=iY (l:=p.data) (i:=i) hil
   refine rD [2,3,4,7] (s6 (ai (aUu (by omega) (by omega) rfl) (ai (by rw[hi,aU4,hgb,aV];exact⟨⟨rfl,hil⟩,aVf _,rfl⟩) (s4 (ai (aUu (by omega) (by omega) rfl) (ai (by rw[hi,aU4,hgb,aV];exact⟨rfl,hil,rfl,aVf _⟩) (ai (by kernel_rfl) (sq (wa [tP 2 2,tP 3 3,tP 4 4,tO 7 51 p.data.length,oB 2 84 [.d (.i (tm)),.own 802 4,.own 803 3,ps 804 4 (a),ps 805 5 (b),ps 806 5 (c)],oB 3 140 [.d (.i e.kind),.d (.i e.at_),.d (.i e.frm),.d (.i e.num),.d (.i e.word),.d (.i e.mix),.d (.i e.keep),.d (.i e.dst),.d (.i e.til),.d (.s e.text)],oB 4 84 [.d (.i 0),.nil,.nil,.nil,.nil,.nil],oR 802 79 5 (aG ks),oR 803 4 1 (aM ls),(.o 804,aI 175 4 fV),(.o 805,aI 29 5 cP),(.o 806,aI 29 5 cP),oR 51 5 1 (aC ((p.data.set i (u8 (lq ((p.data.getD i 0).toNat:Int) (iM e.keep))))))] [] [] ?_ ?_)))))))))
   · repeat' apply ai
     all_goals first|exact qx|(rw[List.length_set];done)|(simp[aV];done)|(rw[hi,aU4,hgb];refine Eq.trans ?_ (aNd hil (ga _ _));rw[hgb];rfl)|exact qz
   refine rT [2,3,4] (s5 (ai (by exact⟨by first|exact aV _|(simp[aV];done),by rw[cE]⟩) (aGy dH rfl rfl rfl rfl rfl rfl rfl rfl hwd (aMy dH rfl rfl rfl rfl rfl (aDq dH rfl rfl rfl rfl rfl rfl rfl rfl rfl (aU6 rfl) ?_ ?_)))))
   · rintro r hr ⟨q,rfl,hq⟩
     exact⟨⟨q.frm,q.to,(p.data.set i (u8 (lq ((p.data.getD i 0).toNat:Int) (iM e.keep)))),q.done⟩,congrArg (fun z=>[D.i q.frm,D.i q.to,D.s z,D.b q.done]) (cE _),hq.1,by show((p.data.set i (u8 (lq ((p.data.getD i 0).toNat:Int) (iM e.keep))))).length≤1000;rw[List.length_set];exact hpp.2⟩
   refine sq (rT [2,4] (s4 (aGy dH rfl rfl rfl rfl rfl rfl rfl rfl hwd (aMy dH rfl rfl rfl rfl rfl (aDq dH rfl rfl rfl rfl rfl rfl rfl rfl rfl (aU6 rfl) ?_ ?_)))))
   · rintro r hr ⟨q,rfl,hq⟩
     exact⟨⟨q.frm,q.to,q.data,true⟩,rfl,hq⟩
   refine sq (rT [4,5] (s3 (rt (cV [tV 0 (.tup [.agg [.d (.i (tm)),.own 802 4,.own 803 3,ps 804 4 (a),ps 805 5 (b),ps 806 5 (c)],.c (.d (.b (true)))]),oR 802 79 5 (aG ks),oR 803 4 1 (aM ls),(.o 804,aI 175 4 fV),(.o 805,aI 29 5 cP),(.o 806,aI 29 5 cP)] ⟨tm,ks,ls,a,b,c,true,hw,rfl⟩ (rq [] [] rfl ?_)))))
   repeat' apply ai
   all_goals try exact qx
   all_goals(first|with_reducible rfl|(rw[hi,aU4];exact bF (by rw[hw.four];exact hil))|rfl)
 refine sk (sq (sq ?_))
 obtain⟨q,hq,hql⟩: ∃q:Nat,bz p.frm p.to=(q:Int)∧q<3:=by have h9:=aCl hpp.1;exact⟨(bz p.frm p.to).toNat,by omega,by omega⟩
 refine rD [2,3,4,6,94,100,101,102,133,134,135,136,137,140,141,142,143,144] (s4 (y4 (y2 (xc (fun h=>(wt p.frm p.to)) (ai rfl (ai rk ?_))))))
 refine ai (fun h=>(by rw[hq];exact⟨by rw[cS];exact hw.three,by omega,by omega⟩)) (ai rk (ai (fun h=>(by rw[hq,aU4,lB (by rw[hw.three];exact hql)];exact⟨⟨by rw[cS];exact hw.three,hql⟩,aU6 rfl,rfl⟩)) (ai rk (y1 (ai pk (ai (by kernel_rfl) (cd rfl (fun c94=> ?_) fun c94=> ?_)))))))
 · refine sq (rT [4,5] (s3 (rt (cV [tV 0 (.tup [.agg [.d (.i (tm)),.own 802 4,.own 803 3,ps 804 4 (a),ps 805 5 (b),ps 806 5 (c)],.c (.d (.b (false)))]),oR 802 79 5 (aG ks),oR 803 4 1 (aM ls),(.o 804,aI 175 4 fV),(.o 805,aI 29 5 cP),(.o 806,aI 29 5 cP)] ⟨tm,ks,ls,a,b,c,false,hw,rfl⟩ (rq [] [] rfl ?_)))))
   repeat' apply ai
   all_goals try exact qx
   all_goals(first|with_reducible rfl|(rw[hi,aU4];exact bF (by rw[hw.four];exact hil))|rfl)
 refine sk (SW.midL (fun a2:Nat=>xf ks ls a2 b c) (fun a2=>[tP 2 2,tP 3 3,tP 4 4,tP 6 6,oB 2 84 [.d (.i (tm)),.own 802 4,.own 803 3,ps 804 4 (a2),ps 805 5 (b),ps 806 5 (c)],oB 3 140 [.d (.i e.kind),.d (.i e.at_),.d (.i e.frm),.d (.i e.num),.d (.i e.word),.d (.i e.mix),.d (.i e.keep),.d (.i e.dst),.d (.i e.til),.d (.s e.text)],oB 4 84 [.d (.i 0),.nil,.nil,.nil,.nil,.nil],oB 6 175 [.d (.i p.frm),.d (.i p.to),.d (.s p.data),.d (.b p.done)],oR 802 79 5 (aG ks),oR 803 4 1 (aM ls),(.o 804,aI 175 4 fV),(.o 805,aI 29 5 cP),(.o 806,aI 29 5 cP)]) ?_ ?_)
 · refine sq (rT [2,3,4,6,103,133,134,135,136,137,140,141,142,143,144] (s4 (y3 (ai pk (cd rfl (fun c103=> ?_) fun c103=> ?_)))))
   · refine SW.newPool 88 175 4 fV rfl (rX [2,3,4,6] (aPm (j:=88) dH rfl rfl rfl rfl rfl rfl (sx dH rfl vc (sx dH rfl vc (sx dH rfl vc (sx dH rfl vc (aDr (m:=wi) dH rfl rfl rfl rfl rfl rfl rfl rfl rfl (by rw[hwi];refine⟨?_,?_⟩<;>first|trivial|(simp[yz,fD,gF]<;>omega)) (by rw[hwi];simp[fD,gF]) ?_)))))))
     refine mi (m:=wi) (z:=[.i 0,.i 0,.s [],.b false]) dH rfl rfl rfl rfl rfl rfl rfl rfl vm (aDt dH (by decide) rfl rfl rfl) (by show(0+wi)*40≤_;have:=hw.ra;omega) (sx dH rfl vc (sx dH rfl vc (sx dH rfl vc (sx dH rfl vc (sx dH rfl vc (aDr (m:=a - (wi+1)) dH rfl rfl rfl rfl rfl rfl rfl rfl rfl (by rw[hwi,aE (by have:=hw.ra;omega)];simp[yz,fD,gF]<;>omega) (by rw[hwi,aE (by have:=hw.ra;omega)];simp[fD,gF]<;>omega) (mi (m:=a - (wi+1)) (z:=[.i 0,.i 0,.s [],.b false]) dH rfl rfl rfl rfl rfl rfl rfl rfl vm (aDt dH (by decide) rfl rfl rfl) (by show(0+wi+(a - (wi+1)))*40≤_;have:=hw.ra;omega) (sx dH rfl vc (sx dH rfl vc (⟨by kernel_rfl,?_⟩))))))))))
     first
     |(refine⟨(0+wi+(a - (wi+1))),(hw.to (by have:=hw.ra;omega) hw.rb hw.rc),?_⟩
       refine aFf 804 88 rfl rfl (by decide) (by rfl) (kt (wq [] [] rfl ?_))
       repeat' apply ai
       all_goals try exact qx
       all_goals(first|with_reducible rfl|omega))
     |(refine⟨a,hw,?_⟩
       refine kt (wq [] [] rfl ?_)
       repeat' apply ai
       all_goals try exact qx
       all_goals(first|with_reducible rfl|omega))
   refine sk ?_
   first
   |(refine⟨(0+wi+(a - (wi+1))),(hw.to (by have:=hw.ra;omega) hw.rb hw.rc),?_⟩
     refine aFf 804 88 rfl rfl (by decide) (by rfl) (kt (wq [] [] rfl ?_))
     repeat' apply ai
     all_goals try exact qx
     all_goals(first|with_reducible rfl|omega))
   |(refine⟨a,hw,?_⟩
     refine kt (wq [] [] rfl ?_)
     repeat' apply ai
     all_goals try exact qx
     all_goals(first|with_reducible rfl|omega))
 rintro a2 hw2
 refine sq (sq (rT [2,4,6,121,133,134,135,136,137,140,141,142,143,144] (s3 (cd rfl (fun c121=> ?_) fun c121=> ?_))))
 · refine sq (rT [4,5] (s3 (rt (cV [tV 0 (.tup [.agg [.d (.i (tm)),.own 802 4,.own 803 3,ps 804 4 (a2),ps 805 5 (b),ps 806 5 (c)],.c (.d (.b (true)))]),oR 802 79 5 (aG ks),oR 803 4 1 (aM ls),(.o 804,aI 175 4 fV),(.o 805,aI 29 5 cP),(.o 806,aI 29 5 cP)] ⟨tm,ks,ls,a2,b,c,true,hw2,rfl⟩ (rq [] [] rfl ?_)))))
   repeat' apply ai
   all_goals try exact qx
   all_goals(first|with_reducible rfl|(rw[hi,aU4];exact bF (by rw[hw.four];exact hil))|rfl)
 refine sk (sq (rT [2,4,6,8,9,133,134,135,136,137,140,141,142,143,144] (s2 (ai (by have:=hpp.2;omega) (bJ (robj:=[(126,.row 5 1 (aC (p.data)))]) (rl:=[]) (bor:=[126]) (gt p.data) rfl rfl rfl rfl ⟨gE rfl rfl rfl (by first|exact aV _|(simp[aV,aBm];done)) rfl (trivial),rfl⟩ rfl (.inr (aG3 rfl)) (aK ⟨rfl,trivial⟩) (fun _ hj=>nomatch hj) (s6 (sq (sq (rT [2,4,6,8,145] (s3 (y4 (y1 (ai pk (s1 (y4 (y1 (ai pk (cd rfl (fun c145=> ?_) fun c145=> ?_))))))))))))))))))
 · refine sq (rT [4,5] (s3 (rt (cV [tV 0 (.tup [.agg [.d (.i (tm)),.own 802 4,.own 803 3,ps 804 4 (a2),ps 805 5 (b),ps 806 5 (c)],.c (.d (.b (true)))]),oR 802 79 5 (aG ks),oR 803 4 1 (aM ls),(.o 804,aI 175 4 fV),(.o 805,aI 29 5 cP),(.o 806,aI 29 5 cP)] ⟨tm,ks,ls,a2,b,c,true,hw2,rfl⟩ (rq [] [] rfl ?_)))))
   repeat' apply ai
   all_goals try exact qx
   all_goals(first|with_reducible rfl|(rw[hi,aU4];exact bF (by rw[hw.four];exact hil))|rfl)
 refine sk (sq ?_)
 obtain⟨i,hi,hil⟩:=zJ hpp.1.2.1
 have hks:=hw2.at hil
 refine rD [2,4,6,10,11] (s4 (ai (by rw[hi];exact⟨by rw[bD];exact hw.four,by omega,by omega⟩) (ai (by rw[hi,aU4,cB (by rw[hw.four];exact hil)];exact⟨⟨by rw[bD];exact hw.four,hil⟩,aU6 rfl,rfl⟩) (s1 (xp (lc (ks.getD i .zero) (gN p.data) (by have:=hks.1;omega)) (ai (by rw[hi,aU4,cB (by rw[hw2.four];exact hil)];rfl) ?_))))))
 refine s6 (ai (by kernel_rfl) (sq (rT [2,4,11] (s5 (ai (by rw[hi];exact⟨by rw[bD];exact hw.four,by omega,by omega⟩) (ai (by rw[hi,aU4,cB (by rw[hw.four];exact hil)];exact⟨by rw[bD];exact hw.four,hil,rfl,aU6 rfl⟩) (sq (wa [tP 2 2,tP 4 4,tD 11 (.sl (mR (dA (ks.getD i .zero) (gN p.data)).2)),oB 2 84 [.d (.i (tm)),.own 802 4,.own 803 3,ps 804 4 (a2),ps 805 5 (b),ps 806 5 (c)],oB 3 140 [.d (.i e.kind),.d (.i e.at_),.d (.i e.frm),.d (.i e.num),.d (.i e.word),.d (.i e.mix),.d (.i e.keep),.d (.i e.dst),.d (.i e.til),.d (.s e.text)],oB 4 84 [.d (.i 0),.nil,.nil,.nil,.nil,.nil],oR 802 79 5 (aG (ks.set i (dA (ks.getD i .zero) (gN p.data)).1)),oR 803 4 1 (aM ls),(.o 804,aI 175 4 fV),(.o 805,aI 29 5 cP),(.o 806,aI 29 5 cP)] [] [] ?_ ?_))))))))
 · repeat' apply ai
   all_goals first|exact qx|(rw[hi,aU4];exact bF (k:=(dA (ks.getD i .zero) (gN p.data)).1) (by rw[hw.four];exact hil))|rfl|exact qz
 refine rT [2,4] (s3 (bJ (robj:=[(804,aI 175 4 fV)]) (rl:=[]) (bor:=[]) (cp a2 (dA (ks.getD i .zero) (gN p.data)).2 hw2.ra (by have:=(aJi (k:=(ks.getD i .zero)) (f:=gN p.data)).2;omega) aJi.1) rfl rfl rfl rfl ⟨aM3 rfl rfl rfl rfl (cJ rfl rfl (aY rfl rfl trivial)),rfl⟩ rfl (.inl rfl) (aK ⟨rfl,trivial⟩) (fun j hj=>nomatch hj) (s2 (sq (rT [4,5] (s3 (rt (cV [tV 0 (.tup [.agg [.d (.i (tm)),.own 802 4,.own 803 3,ps 804 4 ((ew a2 (dA (ks.getD i .zero) (gN p.data)).2.length)),ps 805 5 (b),ps 806 5 (c)],.c (.d (.b (true)))]),oR 802 79 5 (aG (ks.set i (dA (ks.getD i .zero) (gN p.data)).1)),oR 803 4 1 (aM ls),(.o 804,aI 175 4 fV),(.o 805,aI 29 5 cP),(.o 806,aI 29 5 cP)] ⟨tm,(ks.set i (dA (ks.getD i .zero) (gN p.data)).1),ls,(ew a2 (dA (ks.getD i .zero) (gN p.data)).2.length),b,c,true,((hw2.set (aId hks) i).to (vo hw2.ra) hw2.rb hw2.rc),rfl⟩ ?_))))))))
 refine rq [] [] rfl ?_
 repeat' apply ai
 all_goals try exact qx
 all_goals(first|with_reducible rfl|(rw[hi,aU4];exact bF (k:=(dA (ks.getD i .zero) (gN p.data)).1) (by rw[hw.four];exact hil))|rfl)
end Go.Proofs.YtcbjphphppaoiaaGreatDoor
