/- Plain functions, and contracts of the functions that the law reaches. -/
import Derived.Test.YtcbjphphppaoiaaGreatDoorB2
namespace Go.Proofs.YtcbjphphppaoiaaGreatDoor
open Int renaming toNat_natCast→aSd
open List renaming length_append→aSe,length_nil→aSh,length_cons→aSi,length_take→aSk,getD_eq_getElem?_getD→aSl,getElem?_eq_some_iff→aSm,getElem?_eq_getElem→aSn,range→aSp,mem_map→aSq,length_drop→aSr,mem_singleton→aSs,all_eq_true→aSu,take_length→aSv,mem_cons→aSw
open Nat renaming le_of_ble_eq_true→aSf,zero_le→aSj,le_refl→aSo,add_mul→aSt
open Bool renaming and_eq_true→aSg
open Go Go.Ab Go.RowKit
set_option linter.unusedVariables false
set_option linter.unusedSimpArgs false
set_option maxRecDepth 9000
set_option maxHeartbeats 6400000 in
theorem co (k:aR) (rec:List UInt8) (hb:k.held.length≤100000∧k.marks.length≤100000∧k.inbox.length≤100000) (hr:rec.length≤900000):Sp 36 2 [tV 0 k.V,tD 1 (.s rec)] [tV 0 (.tup [.agg [.d (.i ((fJ k rec).1).id),.d (.i ((fJ k rec).1).time),.d (.i ((fJ k rec).1).next),.d (.sl (aE ((fJ k rec).1).held)),.d (.sl (aL ((fJ k rec).1).marks)),.d (.sl (aE ((fJ k rec).1).inbox))],.c (.d (.b (fJ k rec).2))])]:=by
 have hl1:=sW rec
 have hl2:=bc rec
 have hl3:=xE (aN rec)
 have e0:dc (((cR (eM 3 (aN rec))).getD 0 []).getD 0 (.i 0))=dG (aN rec) 0:=qg (by omega)
 have e1:dc (((cR (eM 3 (aN rec))).getD 1 []).getD 0 (.i 0))=dG (aN rec) 1:=qg (by omega)
 have e2:dc (((cR (eM 3 (aN rec))).getD 2 []).getD 0 (.i 0))=dG (aN rec) 2:=qg (by omega)
 refine sb Tryz.func36 rfl (sq (rT [1,2,4,48,49,50,51,52,55,56,57,58,59,81,82,83,84,85,116,117,118,119,120,121,122,123,126,127,128,129,130,131,132,133,157,158,159,160,161,162,163,164,165,166,167,168,169,170,171,172,173,174,192,193,194,195,196,197,198,199,200,201,228,229,230,231,232,233,234,235,236,237] (s3 (sq (rT [2,4,6,7,48,49,50,51,52,55,56,57,58,59,81,82,83,84,85,116,117,118,119,120,121,122,123,126,127,128,129,130,131,132,133,157,158,159,160,161,162,163,164,165,166,167,168,169,170,171,172,173,174,192,193,194,195,196,197,198,199,200,201,228,229,230,231,232,233,234,235,236,237] (s1 (xp (cl rec (by omega)) (ai rfl ?_))))))))
 refine s5 (sq (sq (rT [2,4,6,7,25,48,49,50,51,52,55,56,57,58,59,81,82,83,84,85,116,117,118,119,120,121,122,123,126,127,128,129,130,131,132,133,157,158,159,160,161,162,163,164,165,166,167,168,169,170,171,172,173,174,192,193,194,195,196,197,198,199,200,201,228,229,230,231,232,233,234,235,236,237] (s1 (bk (sq (rT [2,4,6,7,25,26,48,49,50,51,52,55,56,57,58,59,81,82,83,84,85,116,117,118,119,120,121,122,123,126,127,128,129,130,131,132,133,157,158,159,160,161,162,163,164,165,166,167,168,169,170,171,172,173,174,192,193,194,195,196,197,198,199,200,201,228,229,230,231,232,233,234,235,236,237] (s2 (cd rfl (fun c26=> ?_) fun c26=> ?_)))))))))
 · refine sq (rT [2,4,8] (s1 (xp (sR (aN rec) (by omega)) (ai rfl ?_))))
   refine s1 (sq (sq (rT [2,4,8,33] (s4 (cd rfl (fun c33=> ?_) fun c33=> ?_)))))
   · refine sq (rT [4,5] (s3 (rt ?_)))
     have hr:fJ k rec=(k,false):=(if_pos c26).trans (if_pos (by simpa using c33))
     refine bN rfl rfl ?_
     rw[hr]<;>rfl
   refine sk (sq (rT [4,5] (s2 (xp (ss k (fS (aN rec)) hb) (ai rfl ?_)))))
   refine s2 (rt ?_)
   have hr:fJ k rec=_:=(if_pos c26).trans (if_neg (by simpa using c33))
   refine bN rfl rfl ?_
   rw[hr]<;>rfl
 refine sq (rT [2,4,6,7,25,38,48,49,50,51,52,55,56,57,58,59,81,82,83,84,85,116,117,118,119,120,121,122,123,126,127,128,129,130,131,132,133,157,158,159,160,161,162,163,164,165,166,167,168,169,170,171,172,173,174,192,193,194,195,196,197,198,199,200,201,228,229,230,231,232,233,234,235,236,237] (s2 (cd rfl (fun c38=> ?_) fun c38=> ?_)))
 · refine sq (rT [2,4,9,10,48,49,50,51,52,55,56,57,58,59] (s1 (xp (rZ (aN rec) (by omega)) (ai rfl ?_))))
   refine s6 (sq (sq (rT [2,4,9,60] (s3 (y4 (y1 (ai pk (s1 (y4 (y1 (ai pk (cd rfl (fun c60=> ?_) fun c60=> ?_))))))))))))
   · refine sq (rT [4,5] (s3 (rt ?_)))
     have hr:fJ k rec=(k,false):=(if_neg (bn c26)).trans ((if_pos c38).trans (if_pos c60))
     refine bN rfl rfl ?_
     rw[hr]<;>rfl
   refine sk (sq (rT [2,4,9] (s5 (sq (rT [4,5] (s2 (xp (aj {k with next:=wrap64 (k.next+1)} (dR (aN rec)).1 hb (by omega)) (ai rfl ?_))))))))
   refine s4 (rt ?_)
   have hr:fJ k rec=_:=(if_neg (bn c26)).trans ((if_pos c38).trans (if_neg (bn c60)))
   refine bN rfl rfl ?_
   rw[hr]<;>rfl
 refine sq (rT [2,4,6,7,25,71,81,82,83,84,85,116,117,118,119,120,121,122,123,126,127,128,129,130,131,132,133,157,158,159,160,161,162,163,164,165,166,167,168,169,170,171,172,173,174,192,193,194,195,196,197,198,199,200,201,228,229,230,231,232,233,234,235,236,237] (s2 (cd rfl (fun c71=> ?_) fun c71=> ?_)))
 · refine sq (rT [2,4,11,12,81,82,83,84,85] (s1 (xp (rZ (aN rec) (by omega)) (ai rfl ?_))))
   refine s6 (sq (sq (rT [2,4,11,86] (s3 (y4 (y1 (ai pk (cd rfl (fun c86=> ?_) fun c86=> ?_))))))))
   · refine sq (rT [4,5] (s3 (rt ?_)))
     have hr:fJ k rec=(k,false):=(if_neg (bn c26)).trans ((if_neg (bn c38)).trans ((if_pos c71).trans (if_pos c86)))
     refine bN rfl rfl ?_
     rw[hr]<;>rfl
   refine sk (sq (rT [4,5] (s2 (xp (aj k (dR (aN rec)).1 hb (by omega)) (ai rfl ?_)))))
   refine s4 (rt ?_)
   have hr:fJ k rec=_:=(if_neg (bn c26)).trans ((if_neg (bn c38)).trans ((if_pos c71).trans (if_neg (bn c86))))
   refine bN rfl rfl ?_
   rw[hr]<;>rfl
 refine sq (rT [2,4,6,7,25,93,116,117,118,119,120,121,122,123,126,127,128,129,130,131,132,133,157,158,159,160,161,162,163,164,165,166,167,168,169,170,171,172,173,174,192,193,194,195,196,197,198,199,200,201,228,229,230,231,232,233,234,235,236,237] (s2 (cd rfl (fun c93=> ?_) fun c93=> ?_)))
 · refine sq (rT [2,4,13] (s1 (xp (sR (aN rec) (by omega)) (ai rfl ?_))))
   refine s1 (sq (sq (rT [2,4,13,100] (s4 (cd rfl (fun c100=> ?_) fun c100=> ?_)))))
   · refine sq (rT [4,5] (s3 (rt ?_)))
     have hr:fJ k rec=(k,false):=(if_neg (bn c26)).trans ((if_neg (bn c38)).trans ((if_neg (bn c71)).trans ((if_pos c93).trans (if_pos (by simpa using c100)))))
     refine bN rfl rfl ?_
     rw[hr]<;>rfl
   refine sk (sq (rT [2,4] (s3 (sq (rT [4,5] (s3 (rt ?_)))))))
   have hr:fJ k rec=_:=(if_neg (bn c26)).trans ((if_neg (bn c38)).trans ((if_neg (bn c71)).trans ((if_pos c93).trans (if_neg (by simpa using c100)))))
   refine bN rfl rfl ?_
   rw[hr]<;>rfl
 refine SW.midW (fun q=>q=[tP 2 2,tP 4 4,tD 6 (.s (bA rec)),tD 7 (.s (aN rec)),tB 105 (bA rec==gY||bA rec==fT),oB 2 26 [.d (.i k.id),.d (.i k.time),.d (.i k.next),.d (.sl (aE k.held)),.d (.sl (aL k.marks)),.d (.sl (aE k.inbox))],oB 4 26 [.d (.i 0),.d (.i 0),.d (.i 0),.nil,.nil,.nil]]) ?_ ?_
 · refine sq (rT [2,4,6,7,25,105,116,117,118,119,120,121,122,123,126,127,128,129,130,131,132,133,157,158,159,160,161,162,163,164,165,166,167,168,169,170,171,172,173,174,192,193,194,195,196,197,198,199,200,201,228,229,230,231,232,233,234,235,236,237] (s2 (cd rfl (fun c105=> ?_) fun c105=> ?_)))
   · refine sk (wq [] [] (rfl) ?_)
     repeat' apply ai
     all_goals first|exact qx|(refine congrArg D.b ?_;simp_all[gY,fT])|exact qz
   refine rT [2,4,6,7,105,116,117,118,119,120,121,122,123,126,127,128,129,130,131,132,133,157,158,159,160,161,162,163,164,165,166,167,168,169,170,171,172,173,174,192,193,194,195,196,197,198,199,200,201,228,229,230,231,232,233,234,235,236,237] (s2 (wq [] [] (rfl) ?_))
   repeat' apply ai
   all_goals first|exact qx|(refine congrArg D.b ?_;simp_all[gY,fT])|exact qz
 rintro s rfl
 refine cd rfl (fun c105=> ?_) fun c105=> ?_
 · refine sq (rT [2,4,6,14,15,116,117,118,119,120,121,122,123,126,127,128,129,130,131,132,133] (s1 (xp (rZ (aN rec) (by omega)) (ai rfl ?_))))
   refine s6 (sq (sq (rT [2,4,6,14,134] (s3 (y4 (y2 (xc (fun h=>(fK k.held _ _ (by omega))) (ai rfl (ai rk ?_)))))))))
   refine y1 (ai pk (s1 (y4 (y2 (xc (fun h=>(fK k.inbox _ _ (by omega))) (ai rfl (ai rk ?_)))))))
   refine y1 (ai pk (cd rfl (fun c134=> ?_) fun c134=> ?_))
   · refine sq (rT [4,5] (s3 (rt ?_)))
     have hr:fJ k rec=(k,false):=(if_neg (bn c26)).trans ((if_neg (bn c38)).trans ((if_neg (bn c71)).trans ((if_neg (bn c93)).trans ((if_pos c105).trans (if_pos c134)))))
     refine bN rfl rfl ?_
     rw[hr]<;>rfl
   refine sk (sq (sq (rT [2,4,14,137] (s2 (cd rfl (fun c137=> ?_) fun c137=> ?_)))))
   · refine rT [2,4] (s3 (xp (lX k.held (dR (aN rec)).1 hb.1) (ai rfl ?_)))
     refine s2 (sq (rT [4,5] (s3 (rt ?_))))
     first|have hr:fJ k rec=_:=(if_neg (bn c26)).trans ((if_neg (bn c38)).trans ((if_neg (bn c71)).trans ((if_neg (bn c93)).trans ((if_pos c105).trans ((if_neg (bn c134)).trans (if_pos c137))))))|have hr:fJ k rec=_:=(if_neg (bn c26)).trans ((if_neg (bn c38)).trans ((if_neg (bn c71)).trans ((if_neg (bn c93)).trans ((if_pos c105).trans ((if_neg (bn c134)).trans (if_neg (bn c137)))))))
     refine bN rfl rfl ?_
     rw[hr]<;>rfl
   refine rT [2,4] (s3 (xp (lX k.inbox (dR (aN rec)).1 hb.2.2) (ai rfl ?_)))
   refine s2 (sq (rT [4,5] (s3 (rt ?_))))
   first|have hr:fJ k rec=_:=(if_neg (bn c26)).trans ((if_neg (bn c38)).trans ((if_neg (bn c71)).trans ((if_neg (bn c93)).trans ((if_pos c105).trans ((if_neg (bn c134)).trans (if_pos c137))))))|have hr:fJ k rec=_:=(if_neg (bn c26)).trans ((if_neg (bn c38)).trans ((if_neg (bn c71)).trans ((if_neg (bn c93)).trans ((if_pos c105).trans ((if_neg (bn c134)).trans (if_neg (bn c137)))))))
   refine bN rfl rfl ?_
   rw[hr]<;>rfl
 refine sk (sq (rT [2,4,6,7,16,17,157,158,159,160,161,162,163,164,165,166,167,168,169,170,171,172,173,174,192,193,194,195,196,197,198,199,200,201,228,229,230,231,232,233,234,235,236,237] (s1 (xp (cm (aN rec) 3 (by omega) (by omega)) (ai rfl ?_)))))
 refine s5 (sq (sq (rD [2,4,6,16,175,192,193,194,195,196,197,198,199,200,201,228,229,230,231,232,233,234,235,236,237] (s3 (y2 (ai (fun h=>(by exact fo (l:=eM 3 (aN rec)) (by omega) (by rw[bG];omega))) (ai rk (ai (fun h=>(by have:=gS (l:=eM 3 (aN rec)) (i:=0) (by rw[bG];omega);rw[show((0:Int)).toNat=((0:Nat):Int).toNat from rfl,this];exact⟨aSf rfl,rfl⟩)) (ai rk (xc (fun h=>uB (dG (aN rec) 0) (fO _ _)) (ai (by exact aGv e0) (ai rk ?_))))))))))))
 refine ai (fun h=>(by have q0:=kQ (fO (aN rec) 0);have q1:=kQ (fO (aN rec) 1);have q2:=kQ (fO (aN rec) 2);show _≤9223372036854775807;simp only[aSe,aSi,aSh];omega)) (ai rk (y1 (ai (fun h=>(by exact fo (l:=eM 3 (aN rec)) (by omega) (by rw[bG];omega))) (ai rk (ai (fun h=>(by have:=gS (l:=eM 3 (aN rec)) (i:=1) (by rw[bG];omega);rw[show((1:Int)).toNat=((1:Nat):Int).toNat from rfl,this];exact⟨aSf rfl,rfl⟩)) (ai rk (xc (fun h=>uB (dG (aN rec) 1) (fO _ _)) (ai (by exact aGv e1) (ai rk ?_)))))))))
 refine ai (fun h=>(by have q0:=kQ (fO (aN rec) 0);have q1:=kQ (fO (aN rec) 1);have q2:=kQ (fO (aN rec) 2);show _≤9223372036854775807;simp only[aSe,aSi,aSh];omega)) (ai rk (ai (fun h=>(by have q0:=kQ (fO (aN rec) 0);have q1:=kQ (fO (aN rec) 1);have q2:=kQ (fO (aN rec) 2);show _≤9223372036854775807;simp only[aSe,aSi,aSh];omega)) (ai rk (y1 (ai (fun h=>(by exact fo (l:=eM 3 (aN rec)) (by omega) (by rw[bG];omega))) (ai rk (ai (fun h=>(by have:=gS (l:=eM 3 (aN rec)) (i:=2) (by rw[bG];omega);rw[show((2:Int)).toNat=((2:Nat):Int).toNat from rfl,this];exact⟨aSf rfl,rfl⟩)) (ai rk (xc (fun h=>uB (dG (aN rec) 2) (fO _ _)) (ai (by exact aGv e2) (ai rk ?_)))))))))))
 refine ai (fun h=>(by have q0:=kQ (fO (aN rec) 0);have q1:=kQ (fO (aN rec) 1);have q2:=kQ (fO (aN rec) 2);show _≤9223372036854775807;simp only[aSe,aSi,aSh];omega)) (ai rk (y1 (ai pk (ai (by kernel_rfl) (cd rfl (fun c175=> ?_) fun c175=> ?_)))))
 · refine sq (rT [4,5] (s3 (rt ?_)))
   have hr:fJ k rec=(k,false):=(if_neg (bn c26)).trans ((if_neg (bn c38)).trans ((if_neg (bn c71)).trans ((if_neg (bn c93)).trans ((if_neg (bn c105)).trans (if_pos c175)))))
   refine bN rfl rfl ?_
   rw[hr]<;>rfl
 refine sk (sq (sq (rT [2,4,16,177,192,193,194,195,196,197,198,199,200,201,228,229,230,231,232,233,234,235,236,237] (s1 (bk (sq (rT [2,4,16,177,178,192,193,194,195,196,197,198,199,200,201,228,229,230,231,232,233,234,235,236,237] (s2 (cd rfl (fun c178=> ?_) fun c178=> ?_)))))))))
 · refine sq (rD [2,4,16,18,192,193,194,195,196,197,198,199,200,201] (s3 (ai (by exact fo (l:=eM 3 (aN rec)) (by omega) (by rw[bG];omega)) (ai (by have:=gS (l:=eM 3 (aN rec)) (i:=0) (by rw[bG];omega);rw[show((0:Int)).toNat=((0:Nat):Int).toNat from rfl,this];exact⟨aSf rfl,rfl⟩) (s1 (ai (by exact fo (l:=eM 3 (aN rec)) (by omega) (by rw[bG];omega)) (ai (by have:=gS (l:=eM 3 (aN rec)) (i:=1) (by rw[bG];omega);rw[show((1:Int)).toNat=((1:Nat):Int).toNat from rfl,this];exact⟨aSf rfl,rfl⟩) (xp (fK k.held (dG (aN rec) 0) (dG (aN rec) 1) (by omega)) (ai (by exact qf e0 e1) ?_)))))))))
   refine s1 (ai (by kernel_rfl) (sq (sq (rD [2,4,16,202] (s3 (y3 (ai (fun h=>(by have hp:0≤aX k.held (dG (aN rec) 0) (dG (aN rec) 1):=(by have h8:=h;simp[gb] at h8;omega);have hr:=fD k.held (dG (aN rec) 0) (dG (aN rec) 1);rw[aQ (by omega)];exact⟨⟨hp,by rw[aA];omega⟩,rfl⟩)) (ai rk (y1 (ai (fun h=>(by have hp:0≤aX k.held (dG (aN rec) 0) (dG (aN rec) 1):=(by have h8:=h;simp[gb] at h8;omega);have hr:=fD k.held (dG (aN rec) 0) (dG (aN rec) 1);rw[aQ (by omega)];exact⟨aSf rfl,rfl⟩)) (ai rk (y1 (ai (fun h=>(by exact fo (l:=eM 3 (aN rec)) (by omega) (by rw[bG];omega))) (ai rk (ai (fun h=>(by have:=gS (l:=eM 3 (aN rec)) (i:=2) (by rw[bG];omega);rw[show((2:Int)).toNat=((2:Nat):Int).toNat from rfl,this];exact⟨aSf rfl,rfl⟩)) (ai rk (y1 (ai pk (ai (by kernel_rfl) (cd rfl (fun c202=> ?_) fun c202=> ?_))))))))))))))))))))
   · have hq:=bi (y:=(k.held.getD (aX k.held (dG (aN rec) 0) (dG (aN rec) 1)).toNat .zero).til != (dG (aN rec) 2)) c202 (fun hp=>by have hr:=fD k.held (dG (aN rec) 0) (dG (aN rec) 1);rw[aQ (by omega)];exact congrArg (fun z=>((k.held.getD (aX k.held (dG (aN rec) 0) (dG (aN rec) 1)).toNat .zero).til != z)) e2)
     refine sq (rT [4,5] (s3 (rt ?_)))
     have hr:fJ k rec=(k,false):=(if_neg (bn c26)).trans ((if_neg (bn c38)).trans ((if_neg (bn c71)).trans ((if_neg (bn c93)).trans ((if_neg (bn c105)).trans ((if_neg (bn c175)).trans ((if_pos c178).trans (if_pos hq)))))))
     refine bN rfl rfl ?_
     rw[hr]<;>rfl
   have hq:=bi (y:=(k.held.getD (aX k.held (dG (aN rec) 0) (dG (aN rec) 1)).toNat .zero).til != (dG (aN rec) 2)) c202 (fun hp=>by have hr:=fD k.held (dG (aN rec) 0) (dG (aN rec) 1);rw[aQ (by omega)];exact congrArg (fun z=>((k.held.getD (aX k.held (dG (aN rec) 0) (dG (aN rec) 1)).toNat .zero).til != z)) e2)
   refine sk (sq (rD [4,5] (s2 (ai (by exact fo (l:=eM 3 (aN rec)) (by omega) (by rw[bG];omega)) (ai (by have:=gS (l:=eM 3 (aN rec)) (i:=0) (by rw[bG];omega);rw[show((0:Int)).toNat=((0:Nat):Int).toNat from rfl,this];exact⟨aSf rfl,rfl⟩) (s1 (ai (by exact fo (l:=eM 3 (aN rec)) (by omega) (by rw[bG];omega)) (ai (by have:=gS (l:=eM 3 (aN rec)) (i:=1) (by rw[bG];omega);rw[show((1:Int)).toNat=((1:Nat):Int).toNat from rfl,this];exact⟨aSf rfl,rfl⟩) (xp (uz k (dG (aN rec) 0) (dG (aN rec) 1) hb) (ai (by exact qf e0 e1) ?_))))))))))
   refine s4 (ai (by kernel_rfl) (rt ?_))
   have hr:fJ k rec=_:=(if_neg (bn c26)).trans ((if_neg (bn c38)).trans ((if_neg (bn c71)).trans ((if_neg (bn c93)).trans ((if_neg (bn c105)).trans ((if_neg (bn c175)).trans ((if_pos c178).trans (if_neg (bn hq))))))))
   refine bN rfl rfl ?_
   rw[hr]<;>rfl
 refine sq (rT [2,4,16,177,214,228,229,230,231,232,233,234,235,236,237] (s2 (cd rfl (fun c214=> ?_) fun c214=> ?_)))
 · refine sq (rD [2,4,16,19,228,229,230,231,232,233,234,235,236,237] (s3 (ai (by exact fo (l:=eM 3 (aN rec)) (by omega) (by rw[bG];omega)) (ai (by have:=gS (l:=eM 3 (aN rec)) (i:=0) (by rw[bG];omega);rw[show((0:Int)).toNat=((0:Nat):Int).toNat from rfl,this];exact⟨aSf rfl,rfl⟩) (s1 (ai (by exact fo (l:=eM 3 (aN rec)) (by omega) (by rw[bG];omega)) (ai (by have:=gS (l:=eM 3 (aN rec)) (i:=1) (by rw[bG];omega);rw[show((1:Int)).toNat=((1:Nat):Int).toNat from rfl,this];exact⟨aSf rfl,rfl⟩) (xp (fK k.inbox (dG (aN rec) 0) (dG (aN rec) 1) (by omega)) (ai (by exact qf e0 e1) ?_)))))))))
   refine s1 (ai (by kernel_rfl) (sq (sq (rD [2,4,16,238] (s3 (y3 (ai (fun h=>(by have hp:0≤aX k.inbox (dG (aN rec) 0) (dG (aN rec) 1):=(by have h8:=h;simp[gb] at h8;omega);have hr:=fD k.inbox (dG (aN rec) 0) (dG (aN rec) 1);rw[aQ (by omega)];exact⟨⟨hp,by rw[aA];omega⟩,rfl⟩)) (ai rk (y1 (ai (fun h=>(by have hp:0≤aX k.inbox (dG (aN rec) 0) (dG (aN rec) 1):=(by have h8:=h;simp[gb] at h8;omega);have hr:=fD k.inbox (dG (aN rec) 0) (dG (aN rec) 1);rw[aQ (by omega)];exact⟨aSf rfl,rfl⟩)) (ai rk (y1 (ai (fun h=>(by exact fo (l:=eM 3 (aN rec)) (by omega) (by rw[bG];omega))) (ai rk (ai (fun h=>(by have:=gS (l:=eM 3 (aN rec)) (i:=2) (by rw[bG];omega);rw[show((2:Int)).toNat=((2:Nat):Int).toNat from rfl,this];exact⟨aSf rfl,rfl⟩)) (ai rk (y1 (ai pk (ai (by kernel_rfl) (cd rfl (fun c238=> ?_) fun c238=> ?_))))))))))))))))))))
   · have hq:=bi (y:=(k.inbox.getD (aX k.inbox (dG (aN rec) 0) (dG (aN rec) 1)).toNat .zero).til != (dG (aN rec) 2)) c238 (fun hp=>by have hr:=fD k.inbox (dG (aN rec) 0) (dG (aN rec) 1);rw[aQ (by omega)];exact congrArg (fun z=>((k.inbox.getD (aX k.inbox (dG (aN rec) 0) (dG (aN rec) 1)).toNat .zero).til != z)) e2)
     refine sq (rT [4,5] (s3 (rt ?_)))
     have hr:fJ k rec=(k,false):=(if_neg (bn c26)).trans ((if_neg (bn c38)).trans ((if_neg (bn c71)).trans ((if_neg (bn c93)).trans ((if_neg (bn c105)).trans ((if_neg (bn c175)).trans ((if_neg (bn c178)).trans ((if_pos c214).trans (if_pos hq))))))))
     refine bN rfl rfl ?_
     rw[hr]<;>rfl
   have hq:=bi (y:=(k.inbox.getD (aX k.inbox (dG (aN rec) 0) (dG (aN rec) 1)).toNat .zero).til != (dG (aN rec) 2)) c238 (fun hp=>by have hr:=fD k.inbox (dG (aN rec) 0) (dG (aN rec) 1);rw[aQ (by omega)];exact congrArg (fun z=>((k.inbox.getD (aX k.inbox (dG (aN rec) 0) (dG (aN rec) 1)).toNat .zero).til != z)) e2)
   refine sk (sq (rD [4,5] (s2 (ai (by exact fo (l:=eM 3 (aN rec)) (by omega) (by rw[bG];omega)) (ai (by have:=gS (l:=eM 3 (aN rec)) (i:=0) (by rw[bG];omega);rw[show((0:Int)).toNat=((0:Nat):Int).toNat from rfl,this];exact⟨aSf rfl,rfl⟩) (s1 (ai (by exact fo (l:=eM 3 (aN rec)) (by omega) (by rw[bG];omega)) (ai (by have:=gS (l:=eM 3 (aN rec)) (i:=1) (by rw[bG];omega);rw[show((1:Int)).toNat=((1:Nat):Int).toNat from rfl,this];exact⟨aSf rfl,rfl⟩) (xp (vd k (dG (aN rec) 0) (dG (aN rec) 1) hb) (ai (by exact qf e0 e1) ?_))))))))))
   refine s4 (ai (by kernel_rfl) (rt ?_))
   have hr:fJ k rec=_:=(if_neg (bn c26)).trans ((if_neg (bn c38)).trans ((if_neg (bn c71)).trans ((if_neg (bn c93)).trans ((if_neg (bn c105)).trans ((if_neg (bn c175)).trans ((if_neg (bn c178)).trans ((if_pos c214).trans (if_neg (bn hq)))))))))
   refine bN rfl rfl ?_
   rw[hr]<;>rfl
 refine sq (rT [2,4,16,250] (s2 (cd rfl (fun c250=> ?_) fun c250=> ?_)))
 · refine sq (sq (rD [2,4,16,261] (s3 (ai (by exact fo (l:=eM 3 (aN rec)) (by omega) (by rw[bG];omega)) (ai (by have:=gS (l:=eM 3 (aN rec)) (i:=0) (by rw[bG];omega);rw[show((0:Int)).toNat=((0:Nat):Int).toNat from rfl,this];exact⟨aSf rfl,rfl⟩) (s1 (ai (by exact fo (l:=eM 3 (aN rec)) (by omega) (by rw[bG];omega)) (ai (by have:=gS (l:=eM 3 (aN rec)) (i:=1) (by rw[bG];omega);rw[show((1:Int)).toNat=((1:Nat):Int).toNat from rfl,this];exact⟨aSf rfl,rfl⟩) (xp (mR k.marks (dG (aN rec) 0) (dG (aN rec) 1) (by omega)) (ai (by exact qf e0 e1) ?_))))))))))
   refine s1 (ai (by kernel_rfl) (cd rfl (fun c261=> ?_) fun c261=> ?_))
   · refine sq (rT [4,5] (s3 (rt ?_)))
     have hr:fJ k rec=(k,false):=(if_neg (bn c26)).trans ((if_neg (bn c38)).trans ((if_neg (bn c71)).trans ((if_neg (bn c93)).trans ((if_neg (bn c105)).trans ((if_neg (bn c175)).trans ((if_neg (bn c178)).trans ((if_neg (bn c214)).trans ((if_pos c250).trans (if_pos (of_decide_eq_true c261))))))))))
     refine bN rfl rfl ?_
     rw[hr]<;>rfl
   refine sk (sq (rD [2,4] (s3 (ai (by exact fo (l:=eM 3 (aN rec)) (by omega) (by rw[bG];omega)) (ai (by have:=gS (l:=eM 3 (aN rec)) (i:=0) (by rw[bG];omega);rw[show((0:Int)).toNat=((0:Nat):Int).toNat from rfl,this];exact⟨aSf rfl,rfl⟩) (s1 (ai (by exact fo (l:=eM 3 (aN rec)) (by omega) (by rw[bG];omega)) (ai (by have:=gS (l:=eM 3 (aN rec)) (i:=1) (by rw[bG];omega);rw[show((1:Int)).toNat=((1:Nat):Int).toNat from rfl,this];exact⟨aSf rfl,rfl⟩) (s1 (ai (by exact fo (l:=eM 3 (aN rec)) (by omega) (by rw[bG];omega)) (ai (by have:=gS (l:=eM 3 (aN rec)) (i:=2) (by rw[bG];omega);rw[show((2:Int)).toNat=((2:Nat):Int).toNat from rfl,this];exact⟨aSf rfl,rfl⟩) (s1 (xp (pN k.marks ⟨(dG (aN rec) 0),(dG (aN rec) 1),(dG (aN rec) 2)⟩ hb.2.1) (ai (by exact aK2 e0 e1 e2) ?_))))))))))))))
   refine s2 (ai (by kernel_rfl) (sq (rT [4,5] (s3 (rt ?_)))))
   have hr:fJ k rec=_:=(if_neg (bn c26)).trans ((if_neg (bn c38)).trans ((if_neg (bn c71)).trans ((if_neg (bn c93)).trans ((if_neg (bn c105)).trans ((if_neg (bn c175)).trans ((if_neg (bn c178)).trans ((if_neg (bn c214)).trans ((if_pos c250).trans (if_neg (of_decide_eq_false c261))))))))))
   refine bN rfl rfl ?_
   rw[hr]<;>rfl
 refine sk (sq (rT [4,5] (s3 (rt ?_))))
 have hr:fJ k rec=(k,false):=(if_neg (bn c26)).trans ((if_neg (bn c38)).trans ((if_neg (bn c71)).trans ((if_neg (bn c93)).trans ((if_neg (bn c105)).trans ((if_neg (bn c175)).trans ((if_neg (bn c178)).trans ((if_neg (bn c214)).trans (if_neg (bn c250)))))))))
 refine bN rfl rfl ?_
 rw[hr]<;>rfl
theorem kx (id:Int):Sp 63 1 [tI 0 id] [tV 0 ((aY id).V)]:=by
 refine sb Tryz.func63 rfl (sq (rT [0,2] (s1 (sq (sq (rT [0,2,5] (s1 (xp (cW _) (ai rfl ?_)))))))))
 refine s1 (cd rfl (fun c5=> ?_) fun c5=> ?_)
 · have hr:aY id= .zero:=if_neg (by simpa using c5)
   refine sq (rT [2] (s2 (rt ?_)))
   rw[hr]
   exact rq [] [] rfl qz
 have hr:aY id=⟨id,0,1,[],[],[]⟩:=if_pos (by simpa using c5)
 refine sk (sq (rT [2] (s3 (rt ?_))))
 rw[hr]
 exact rq [] [] rfl qz
set_option maxHeartbeats 1600000 in
theorem cp (k:aR) (rec:List UInt8) (hk:KB k) (hr:rec.length≤900000):Sp 15 2 [tV 0 k.V,tD 1 (.s rec)] [tV 0 (.tup [.agg [.d (.i ((gH k rec).1).id),.d (.i ((gH k rec).1).time),.d (.i ((gH k rec).1).next),.d (.sl (aE ((gH k rec).1).held)),.d (.sl (aL ((gH k rec).1).marks)),.d (.sl (aE ((gH k rec).1).inbox))],.c (.d (.b (gH k rec).2))])]:=by
 refine sb Tryz.func15 rfl (sq (rT [1,2,4,22,23,24] (s3 (sq (sq (rT [1,2,4,10,22,23,24] (s1 (xp (lR k hk.1 hk.2.1 hk.2.2) (ai rfl ?_)))))))))
 refine s1 (cd rfl (fun c10=> ?_) fun c10=> ?_)
 · refine sq (rT [4,5] (s3 (rt ?_)))
   have hr:gH k rec=(.zero,false):=if_neg (by simpa using c10)
   rw[hr]
   exact rq [] [] rfl qz
 have hok:dS k=true:=by simpa using c10
 refine sk (sq (rT [2,4,6,7,22,23,24] (s1 (xp (pM k (by have:=hk.1;omega)) (ai rfl ?_)))))
 refine s1 (xp (co k rec hk.1 hr) (ai rfl ?_))
 refine s6 (sq (sq (rT [2,4,6,25] (s3 (y1 (xc (fun h=>lR (fJ k rec).1 (oL (eC hok) (by omega)).big.1 (oL (eC hok) (by omega)).2.1 (oL (eC hok) (by omega)).2.2) (ai rfl (ai rk ?_))))))))
 refine y1 (ai pk (cd rfl (fun c25=> ?_) fun c25=> ?_))
 · refine sq (rT [4,5] (s1 (xp (pM k (by have:=hk.1;omega)) (ai rfl ?_))))
   refine s2 (rt ?_)
   have hr:gH k rec=(k,false):=(if_pos hok).trans (if_neg (by intro h;rw[aSg] at h;rw[h.1,h.2] at c25;cases c25))
   rw[hr]
   exact rq [] [] rfl qz
 refine sk (sq (rT [4,5] (s1 (xp (pM (fJ k rec).1 (by have:=(oL (eC hok) (show rec.length≤1000000 by omega)).1;omega)) (ai rfl ?_)))))
 refine s2 (rt ?_)
 have hr:gH k rec=((fJ k rec).1,true):=(if_pos hok).trans (if_pos (by simpa using c25))
 rw[hr]
 exact rq [] [] rfl qz
theorem aDd (k:aR) (rec:List UInt8) (hk:KB k) (hr:rec.length≤900000):Ab.Spec Tryz.prog 15 2 [(.t 0,.v (k.V)),(.t 1,.v (Dv (.s rec)))] [(.t 0,.v (.tup [.agg [.d (.i ((bY k rec).1).id),.d (.i ((bY k rec).1).time),.d (.i ((bY k rec).1).next),.d (.sl (aE ((bY k rec).1).held)),.d (.sl (aL ((bY k rec).1).marks)),.d (.sl (aE ((bY k rec).1).inbox))],.c (.d (.b (bY k rec).2))]))]:=bj k rec▸cp k rec hk hr
set_option maxHeartbeats 1600000 in
theorem vM (id:Int) (l:List (List UInt8)) (hl:l.length≤900000) (hx: ∀x∈l,x.length≤900000):Sp 116 2 [tI 0 id,tD 1 (.sl (bL l))] [tV 0 (.tup [.agg [.d (.i ((gT id l).1).id),.d (.i ((gT id l).1).time),.d (.i ((gT id l).1).next),.d (.sl (aE ((gT id l).1).held)),.d (.sl (aL ((gT id l).1).marks)),.d (.sl (aE ((gT id l).1).inbox))],.c (.d (.b (gT id l).2))])]:=by
 refine sb Tryz.func116 rfl (sq (rT [0,1,4] (s2 (sq (rT [0,1,4,6] (s1 (xp (kx id) (ai rfl ?_))))))))
 refine s2 (sq (sq (rT [1,4,6,14] (s1 (xp (cW _) (ai rfl ?_))))))
 refine s1 (cd rfl (fun c14=> ?_) fun c14=> ?_)
 · refine sq (rT [4,5] (s3 (rt ?_)))
   have hr:gT id l=(.zero,false):=if_neg (by simpa using c14)
   have hz:aY id= .zero:=if_neg (by simpa using c14)
   rw[hr,hz]
   exact rq [] [] rfl qz
 have hnode:eB id=true:=by simpa using c14
 refine sk (sq (sq (rT [1,4,6,7] (s1 (bk (SW.loopW (n:=l.length) (fun m s=> ∃(i:Nat) (q:aR),m=l.length - i∧i≤l.length∧K6 q∧nI (aY id) l=nI q (l.drop i)∧s=[tD 1 (.sl (bL l)),tP 4 4,tP 6 6,tI 7 (i:Nat),oB 4 26 [.d (.i 0),.d (.i 0),.d (.i 0),.nil,.nil,.nil],oB 6 26 [.d (.i (q).id),.d (.i (q).time),.d (.i (q).next),.d (.sl (aE (q).held)),.d (.sl (aL (q).marks)),.d (.sl (aE (q).inbox))]]) ?_ ?_))))))
 · refine wq (σ':=[tD 1 (.sl (bL l)),tP 4 4,tP 6 6,tI 7 (0:Nat),oB 4 26 [.d (.i 0),.d (.i 0),.d (.i 0),.nil,.nil,.nil],oB 6 26 [.d (.i (aY id).id),.d (.i (aY id).time),.d (.i (aY id).next),.d (.sl (aE (aY id).held)),.d (.sl (aL (aY id).marks)),.d (.sl (aE (aY id).inbox))]]) [] [] (⟨0,aY id,rfl,aSj _,gh id,rfl,rfl⟩) ?_
   repeat' apply ai
   all_goals first|exact qx|rfl|(rw[aU];done)|exact qz
 rintro n s ⟨i,q,rfl,hi,hq,hgo,rfl⟩
 refine sq (sq (rT [1,4,6,7,19] (s4 (cd rfl (fun c19=> ?_) fun c19=> ?_))))
 · have hi2:i<l.length:=by simpa[aU] using c19
   have hg:=gG (l:=l) hi2
   have hmem:l.getD i []∈l:=dU hi2
   have es:toS (((bL l).getD (i:Int).toNat []).getD 0 (.i 0))=l.getD i []:=by rw[aSd,hg];rfl
   refine sk (sq (bk (sq (rD [1,4,6,7,8,9] (s3 (ai (by rw[aSd,hg];exact⟨⟨by omega,by rw[aU];omega⟩,rfl⟩) (ai (by rw[aSd,hg];exact⟨aSf rfl,rfl⟩) (xp (aDd q (l.getD i []) hq.seven.big (hx _ hmem)) (ai (by exact aR8 es) ?_)))))))))
   refine s6 (ai (by kernel_rfl) (sq (sq (rT [1,4,6,7,8,32] (s2 (cd rfl (fun c32=> ?_) fun c32=> ?_))))))
   · have hno: (bY q (l.getD i [])).2=false:=by simpa using c32
     rw[List.drop_eq_getElem_cons hi2,nI,show l[i]=l.getD i [] by rw[aSl,aSn hi2];rfl,hno] at hgo
     refine sq (rT [4,5] (s3 (rt ?_)))
     have hr:gT id l=(.zero,false):=(if_pos hnode).trans (hgo.trans (if_neg (by simp)))
     rw[hr]
     exact rq [] [] rfl qz
   have hno: (bY q (l.getD i [])).2=true:=by simpa using c32
   rw[List.drop_eq_getElem_cons hi2,nI,show l[i]=l.getD i [] by rw[aSl,aSn hi2];rfl,if_pos hno] at hgo
   refine sk (rT [1,4,6,7] (s2 (rT [1,4,6,7] (s3 (wq [] [] (⟨l.length - (i+1),by omega,i+1,(bY q (l.getD i [])).1,rfl,by omega,kc,hgo,rfl⟩) ?_)))))
   repeat' apply ai
   all_goals first|exact qx|exact congrArg D.i (aF (by omega))|exact qz
 have hi3:i=l.length:=by simp[aU] at c19;omega
 subst hi3
 refine xt (sq (rT [4,5] (s3 (rt ?_))))
 have hr:gT id l=(q,true):=(if_pos hnode).trans (hgo.trans (by rw[List.drop_length];rfl))
 rw[hr]
 exact rq [] [] rfl qz
theorem eY (s:List UInt8) (hl:s.length≤1000000):Sp 115 1 [tD 0 (.s s)] [tV 0 (.tup [.c (.d (.sl (bL (dB s).1))),.c (.d (.i ((dB s).2:Nat)))])]:=by
 refine Spec.told (rl:=[]) (bor:=[0]) (ku s hl) ?_ rfl rfl
 refine qs ?_
 repeat' first|exact qx|apply ai
 all_goals first|rfl|exact aU _
theorem mS (l:List UInt8) (f:Int) (hl:l.length≤140737488355328):Sp 114 1 [tV 0 (.e (.agg [.d (.s l),.d (.i f)]))] [tB 0 (eV l f)]:=by
 refine sb Tryz.func114 rfl (sq (rT [1,12,13,14,15,16,17,18,41,42,43,44] (s2 (sq (sq (rT [1,19,41,42,43,44] (s5 (y4 (y1 (xc (fun h=>(dC _ _ _)) (ai rfl (ai rk ?_))))))))))))
 refine y1 (ai pk (cd rfl (fun c19=> ?_) fun c19=> ?_))
 · refine sq (rT [2] (s1 (rt (bQ rfl (congrArg D.b ?_)))))
   exact(aE9 c19).symm
 obtain⟨⟨h1,h2,h3⟩,hs⟩:=aCm c19
 refine sk (sq (rT [1,4,41,42,43,44] (s2 (xp (eY l (by omega)) (ai rfl ?_)))))
 refine s5 (sq (rT [1,4,6,41,42,43,44] (s4 (ai (by exact⟨by simp,by simpa using h2,by simpa using h3⟩) (xp (eY (l.take f.toNat) (by rw[aSk];omega)) (ai rfl ?_))))))
 refine s5 (sq (rT [2] (s6 (y4 (ai pk (s1 (rt (bQ rfl (congrArg D.b ?_)))))))))
 exact hs.symm
set_option maxHeartbeats 800000 in
theorem gE (k:aO) (hl:k.log.length≤900000):Sp 95 1 [tV 0 k.V] [tV 0 (.tup [.agg [.d (.i ((aZ k).1).id),.d (.i ((aZ k).1).time),.d (.i ((aZ k).1).next),.d (.sl (aE ((aZ k).1).held)),.d (.sl (aL ((aZ k).1).marks)),.d (.sl (aE ((aZ k).1).inbox))],.c (.d (.b (aZ k).2))])]:=by
 refine sb Tryz.func95 rfl (sq (rT [1,2] (s3 (sq (rT [1,2,4] (s3 (xp (eY k.log (by omega)) (ai rfl ?_))))))))
 refine s5 (sq (rT [2,3] (s3 (xp (vM k.id (dB k.log).1 (mJ k.log hl).1 (mJ k.log hl).2) (ai rfl ?_)))))
 exact s4 (rt (bN rfl rfl rfl))
theorem uW (b n:Int):Sp 146 2 [tI 0 b,tI 1 n] [tB 0 (rS b n)]:=by
 refine sb Tryz.func146 rfl (sq (rT [0,1,8,9] (s1 (sq (rT [4] (s1 (xp (dC _ _ _) (ai rfl ?_))))))))
 refine s1 (y1 (xc (fun h=>(dC _ _ _)) (ai rfl (ai rk ?_))))
 refine ai pk (s1 (rt (bQ rfl ?_)))
 rfl
theorem nV (n:Int) (hn:0≤n∧n≤140737488355328):Sp 133 1 [tI 0 n] [tI 0 ((n+3) / 4)]:=by
 refine sb Tryz.func133 rfl (sq (rT [0] (s1 (sq (rT [2] (s3 (ai (by decide) (s1 (rt (bQ rfl (congrArg D.i ?_)))))))))))
 rw[aF (n:=n+4) (by omega),aF (n:=n+4 - 1) (by omega),Int.tdiv_eq_ediv_of_nonneg (by omega),aF (by omega)]
 omega
theorem ak (b:Int) (m:gI):Sp 132 2 [tI 0 b,tV 1 m.V] [tB 0 (rS b m.num&&decide ((m.data.length:Int)=4))]:=by
 refine sb Tryz.func132 rfl (sq (rT [0,3,10,11,12,13] (s2 (sq (rT [4] (s3 (xp (uW _ _) (ai rfl ?_))))))))
 refine s1 (y4 (ai pk (s1 (rt (bQ rfl (congrArg D.b ?_))))))
 show(_&&_)=_
 congr 1
set_option maxHeartbeats 1600000 in
theorem ky (h:dY):Sp 117 1 [tV 0 h.V] [tB 0 (qD h)]:=by
 refine sb Tryz.func117 rfl (sq (rT [1,10,11,12,13,16,17,18,19,22,23,24,25,28,29,30,31,34,35,36,37] (s2 (sq (sq (rT [1,38] (s2 (xp (cW _) (ai rfl ?_)))))))))
 refine s2 (y2 (xc (fun h=>(cW _)) (ai rfl (ai rk ?_))))
 refine y1 (ai pk (s1 (y2 (xc (fun h=>(dC _ _ _)) (ai rfl (ai rk ?_))))))
 refine y1 (ai pk (s1 (y2 (xc (fun h=>(dC _ _ _)) (ai rfl (ai rk ?_))))))
 refine y1 (ai pk (s1 (y2 (xc (fun h=>(dC _ _ _)) (ai rfl (ai rk ?_))))))
 refine y1 (ai pk (s1 (y4 (ai pk (cd rfl (fun c38=> ?_) fun c38=> ?_)))))
 · have hh:=aCl c38
   refine sq (rT [2] (s1 (rt (bQ rfl (congrArg D.b ?_)))))
   rw[qD,hh];rfl
 have hh:=aCl c38
 obtain⟨p1,p2,p3,p4,p5,p6⟩:=mM hh
 have hb1:gX ((h.size+3) / 4) 1 6=true:=by simp only[gX,aSg,decide_eq_true_eq];omega
 refine sk (sq (sq (rT [1,3] (s1 (bk (SW.loopW (n:=h.got.length) (fun m q=> ∃i:Nat,m=h.got.length - i∧i≤h.got.length∧(∀k,k<i→nS h.got k=true)∧q=[tP 1 1,tI 3 (i:Nat),oB 1 136 [.d (.i (h).frm),.d (.i (h).num),.d (.i (h).to),.d (.i (h).til),.d (.i (h).size),.d (.sl (dM (h).got))]]) ?_ ?_))))))
 · exact wq (σ':=[tP 1 1,tI 3 (0:Nat),oB 1 136 [.d (.i (h).frm),.d (.i (h).num),.d (.i (h).to),.d (.i (h).til),.d (.i (h).size),.d (.sl (dM (h).got))]]) [] [] (⟨0,rfl,aSj _,fun k h=>absurd h (by omega),rfl⟩) qz
 rintro n s ⟨i,rfl,hi,hk,rfl⟩
 refine sq (sq (rT [1,3,43] (s5 (cd rfl (fun c43=> ?_) fun c43=> ?_))))
 · have hi2:i<h.got.length:=by simpa[bO] using c43
   have hg:=sM (l:=h.got) hi2
   refine sk (sq (bk (sq (sq (rD [1,3,55] (s2 (xp (nV h.size (by omega)) (ai rfl ?_))))))))
   refine s3 (ai (by rw[aSd,hg];exact⟨⟨by omega,by rw[bO];omega⟩,rfl⟩) (ai (by rw[aSd,hg];exact⟨aSf rfl,rfl⟩) (xp (ak ((h.size+3) / 4) (h.got.getD i .zero)) (ai (by rw[aSd,hg];rfl) ?_))))
   refine s1 (ai (by kernel_rfl) (cd rfl (fun c55=> ?_) fun c55=> ?_))
   · have hm:zO (h.got.getD i .zero)=false:=by
      have h9:=c55
      rw[rS,hb1,Bool.true_and] at h9
      simpa only[zO,Bool.not_eq_true'] using h9
     have hs:=aCi hm
     refine sq (rT [2] (s1 (rt (bQ rfl (congrArg D.b ?_)))))
     rw[qD,hh,Bool.not_false,Bool.true_and,gA hi2 hs]
   have hm:zO (h.got.getD i .zero)=true:=by
    have h9:=c55
    rw[rS,hb1,Bool.true_and] at h9
    simpa only[zO,Bool.not_eq_false'] using h9
   refine sk (sq (rT [1,3,4] (s1 (bk (SW.loopW (n:=i) (fun m q=> ∃j:Nat,m=i - j∧j≤i∧(∀k,k<j→((h.got.getD k .zero).num==(h.got.getD i .zero).num)=false)∧q=[tP 1 1,tI 3 (i:Nat),tI 4 (j:Nat),oB 1 136 [.d (.i (h).frm),.d (.i (h).num),.d (.i (h).to),.d (.i (h).til),.d (.i (h).size),.d (.sl (dM (h).got))]]) ?_ ?_)))))
   · exact wq (σ':=[tP 1 1,tI 3 (i:Nat),tI 4 (0:Nat),oB 1 136 [.d (.i (h).frm),.d (.i (h).num),.d (.i (h).to),.d (.i (h).til),.d (.i (h).size),.d (.sl (dM (h).got))]]) [] [] (⟨0,rfl,aSj _,fun k h=>absurd h (by omega),rfl⟩) qz
   rintro n s ⟨j,rfl,hj,hkj,rfl⟩
   refine sq (sq (rT [1,3,4,58] (s3 (cd rfl (fun c58=> ?_) fun c58=> ?_))))
   · have hj2:j<i:=by simpa using c58
     have hg2:=sM (l:=h.got) (i:=j) (by omega)
     refine sk (sq (bk (sq (rD [1,3,4,73] (s3 (ai (by rw[aSd,hg2];exact⟨⟨by omega,by rw[bO];omega⟩,rfl⟩) (s1 (ai (by rw[aSd,hg2];exact⟨aSf rfl,rfl⟩) (s3 (ai (by rw[aSd,hg];exact⟨⟨by omega,by rw[bO];omega⟩,rfl⟩) (s1 (ai (by rw[aSd,hg];exact⟨aSf rfl,rfl⟩) (s1 (ai (by kernel_rfl) (cd rfl (fun c73=> ?_) fun c73=> ?_)))))))))))))))
     · have hq: ((h.got.getD j .zero).num==(h.got.getD i .zero).num)=true:=by
        have h9:=c73
        rw[aSd,aSd,hg2,hg] at h9
        exact h9
       have hs:=aE8 hj2 hq
       refine sq (rT [2] (s1 (rt (bQ rfl (congrArg D.b ?_)))))
       rw[qD,hh,Bool.not_false,Bool.true_and,gA hi2 hs]
     refine sk (rT [1,3,4] (s3 ?_))
     have hq: ((h.got.getD j .zero).num==(h.got.getD i .zero).num)=false:=by
      have h9:=c73
      rw[aSd,aSd,hg2,hg] at h9
      exact h9
     refine wq [] [] (⟨i - (j+1),by omega,j+1,rfl,by omega,fun k h=>by by_cases e:k=j;exact e▸hq;exact hkj k (by omega),rfl⟩) ?_
     repeat' apply ai
     all_goals first|exact qx|exact congrArg D.i (aF (by omega))|exact qz
   have hj3:j=i:=by simp at c58;omega
   subst hj3
   have hs:=aCh hm hkj
   refine xt (rT [1,3] (s3 (wq [] [] (⟨h.got.length - (j+1),by omega,j+1,rfl,by omega,fun k h=>by by_cases e:k=j;exact e▸hs;exact hk k (by omega),rfl⟩) ?_)))
   repeat' apply ai
   all_goals first|exact qx|exact congrArg D.i (aF (by omega))|exact qz
 have hi3:i=h.got.length:=by simp[bO] at c43;omega
 refine xt (sq (rT [2] (s1 (rt (bQ rfl (congrArg D.b ?_))))))
 rw[qD,hh,Bool.not_false,Bool.true_and]
 subst hi3
 exact(iR hk).symm
set_option maxHeartbeats 3200000 in
theorem fP (k:aO) (hl:k.log.length≤140737488355328):Sp 94 1 [tV 0 k.V] [tB 0 (bF k)]:=by
 refine sb Tryz.func94 rfl (sq (rT [1,16,17,18,19,22,23,24,25,28,29,30,31,32,33,34,35,36,64,65,100,101,102,103,104,105,106,107,108,109,110,111,112] (s2 (sq (sq (rT [1,37,64,65,100,101,102,103,104,105,106,107,108,109,110,111,112] (s2 (xp (cW _) (ai rfl ?_)))))))))
 refine s2 (y2 (xc (fun h=>(mS k.log k.forced hl)) (ai rfl (ai rk ?_))))
 refine y1 (ai pk (s1 (y4 (ai pk (s1 (y4 (y4 (ai (fun h=>pk) (ai rk (ai pk (cd rfl (fun c37=> ?_) fun c37=> ?_)))))))))))
 · have hh:=qo c37
   refine sq (rT [2] (s1 (rt (bQ rfl (congrArg D.b ?_)))))
   exact(cc hh).symm
 have hh:=qo c37
 obtain⟨p1,p2,p3,p4⟩:=gM hh
 obtain⟨q1,q2,q3,q4⟩:=qT p2
 refine sk (sq (rT [1,3,64,65,100,101,102,103,104,105,106,107,108,109,110,111,112] (s6 (ai (by exact⟨by simp,by simpa using q2.1,by simpa using q2.2⟩) (xp (eY (k.log.take k.forced.toNat) (by rw[aSk];omega)) (ai rfl ?_))))))
 refine s5 (sq (rT [1,6,64,65,100,101,102,103,104,105,106,107,108,109,110,111,112] (s3 (xp (vM k.id (dB (k.log.take k.forced.toNat)).1 (mJ _ (by rw[aSk];omega)).1 (mJ _ (by rw[aSk];omega)).2) (ai rfl ?_)))))
 refine s6 (sq (rT [1,6,8,64,65,100,101,102,103,104,105,106,107,108,109,110,111,112] (s1 (xp (gE k (by omega)) (ai rfl ?_)))))
 refine s6 (sq (sq (rT [1,66,100,101,102,103,104,105,106,107,108,109,110,111,112] (s3 (y2 (ai pk (cd rfl (fun c66=> ?_) fun c66=> ?_)))))))
 · have hn:=aCk (k:=k) c66 (.inl ⟨rfl,rfl⟩)
   refine sq (rT [2] (s1 (rt (bQ rfl (congrArg D.b ?_)))))
   exact hn.symm
 have hy:=zm (k:=k) hh c66 (.inl ⟨rfl,rfl⟩)
 refine sk (sq (sq (rT [1,9,100,101,102,103,104,105,106,107,108,109,110,111,112] (s1 (bk (SW.loopW (n:=k.halves.length) (fun m q=> ∃i:Nat,m=k.halves.length - i∧i≤k.halves.length∧(∀j,j<i→kE k.halves j=true)∧q=[tP 1 1,tI 9 (i:Nat),oB 1 79 [.d (.i (k).id),.d (.b (k).up),.d (.s (k).log),.d (.i (k).forced),.d (.sl (bM (k).halves))]]) ?_ ?_))))))
 · exact wq (σ':=[tP 1 1,tI 9 (0:Nat),oB 1 79 [.d (.i (k).id),.d (.b (k).up),.d (.s (k).log),.d (.i (k).forced),.d (.sl (bM (k).halves))]]) [] [] (⟨0,rfl,aSj _,fun j h=>absurd h (by omega),rfl⟩) qz
 rintro n s ⟨i,rfl,hi,hk,rfl⟩
 refine sq (sq (rT [1,9,71,100,101,102,103,104,105,106,107,108,109,110,111,112] (s5 (cd rfl (fun c71=> ?_) fun c71=> ?_))))
 · have hi2:i<k.halves.length:=by simpa[aM] using c71
   have hg:=iD (l:=k.halves) hi2
   refine sk (sq (bk (sq (sq (rT [1,9,80,100,101,102,103,104,105,106,107,108,109,110,111,112] (s3 (ai (by rw[aSd,hg];exact⟨⟨by omega,by rw[aM];omega⟩,rfl⟩) (ai (by rw[aSd,hg];exact⟨aSf rfl,rfl⟩) (xp (ky (k.halves.getD i .zero)) (ai (by rw[aSd,hg];rfl) ?_))))))))))
   refine s1 (cd rfl (fun c80=> ?_) fun c80=> ?_)
   · have hs:=zl (by simpa using c80)
     refine sq (rT [2] (s1 (rt (bQ rfl (congrArg D.b ?_)))))
     rw[hy,gA hi2 hs]
   refine sk (sq (rT [1,9,10,100,101,102,103,104,105,106,107,108,109,110,111,112] (s1 (bk (SW.loopW (n:=i) (fun m q=> ∃j:Nat,m=i - j∧j≤i∧(∀k1,k1<j→kR k.halves (k.halves.getD i .zero).frm (k.halves.getD i .zero).num k1=false)∧q=[tP 1 1,tI 9 (i:Nat),tI 10 (j:Nat),oB 1 79 [.d (.i (k).id),.d (.b (k).up),.d (.s (k).log),.d (.i (k).forced),.d (.sl (bM (k).halves))]]) ?_ ?_)))))
   · exact wq (σ':=[tP 1 1,tI 9 (i:Nat),tI 10 (0:Nat),oB 1 79 [.d (.i (k).id),.d (.b (k).up),.d (.s (k).log),.d (.i (k).forced),.d (.sl (bM (k).halves))]]) [] [] (⟨0,rfl,aSj _,fun j h=>absurd h (by omega),rfl⟩) qz
   rintro n s ⟨j,rfl,hj,hkj,rfl⟩
   refine sq (sq (rT [1,9,10,83,100,101,102,103,104,105,106,107,108,109,110,111,112] (s3 (cd rfl (fun c83=> ?_) fun c83=> ?_))))
   · have hj2:j<i:=by simpa using c83
     have hg2:=iD (l:=k.halves) (i:=j) (by omega)
     refine sk (sq (bk (sq (rD [1,9,10,100,101,102,103,104,105,106,107,108,109,110,111,112,113] (s3 (ai (by rw[aSd,hg2];exact⟨⟨by omega,by rw[aM];omega⟩,rfl⟩) (s1 (ai (by rw[aSd,hg2];exact⟨aSf rfl,rfl⟩) (s3 (ai (by rw[aSd,hg];exact⟨⟨by omega,by rw[aM];omega⟩,rfl⟩) (s1 (ai (by rw[aSd,hg];exact⟨aSf rfl,rfl⟩) (s2 (y3 (ai (fun h=>(by rw[aSd,hg2];exact⟨⟨by omega,by rw[aM];omega⟩,rfl⟩)) (ai rk (y1 (ai (fun h=>(by rw[aSd,hg2];exact⟨aSf rfl,rfl⟩)) (ai rk (y3 (ai (fun h=>(by rw[aSd,hg];exact⟨⟨by omega,by rw[aM];omega⟩,rfl⟩)) (ai rk (y1 (ai (fun h=>(by rw[aSd,hg];exact⟨aSf rfl,rfl⟩)) (ai rk (y1 (ai pk (ai (by kernel_rfl) (cd rfl (fun c113=> ?_) fun c113=> ?_)))))))))))))))))))))))))))))
     · have hq:kR k.halves (k.halves.getD i .zero).frm (k.halves.getD i .zero).num j=true:=by
        have h9:=c113
        rw[aSd,aSd,hg2,hg] at h9
        exact h9
       have hs:=aCj hj2 hq
       refine sq (rT [2] (s1 (rt (bQ rfl (congrArg D.b ?_)))))
       rw[hy,gA hi2 hs]
     refine sk (rT [1,9,10,100,101,102,103,104,105,106,107,108,109,110,111,112] (s3 ?_))
     have hq:kR k.halves (k.halves.getD i .zero).frm (k.halves.getD i .zero).num j=false:=by
      have h9:=c113
      rw[aSd,aSd,hg2,hg] at h9
      exact h9
     refine wq [] [] (⟨i - (j+1),by omega,j+1,rfl,by omega,fun m h=>by by_cases e:m=j;exact e▸hq;exact hkj m (by omega),rfl⟩) ?_
     repeat' apply ai
     all_goals first|exact qx|exact congrArg D.i (aF (by omega))|exact qz
   have hj3:j=i:=by simp at c83;omega
   subst hj3
   have hs:=zk (by simpa using c80) hkj
   refine xt (rT [1,9,100,101,102,103,104,105,106,107,108,109,110,111,112] (s3 (wq [] [] (⟨k.halves.length - (j+1),by omega,j+1,rfl,by omega,fun m h=>by by_cases e:m=j;exact e▸hs;exact hk m (by omega),rfl⟩) ?_)))
   repeat' apply ai
   all_goals first|exact qx|exact congrArg D.i (aF (by omega))|exact qz
 have hi3:i=k.halves.length:=by simp[aM] at c71;omega
 refine xt (sq (rT [2] (s1 (rt (bQ rfl (congrArg D.b ?_))))))
 subst hi3
 rw[hy,iR hk]
theorem iP (l:List UInt8) (f:Int) (hl:l.length≤140737488355328):Sp 175 1 [tV 0 (.e (.agg [.d (.s l),.d (.i f)]))] [tV 0 (.e (.agg [.d (.s (mN l f).1),.d (.i (mN l f).2)]))]:=by
 refine sb Tryz.func175 rfl (sq (rT [1,2] (s2 (sq (sq (rT [1,2,5] (s1 (xp (mS l f hl) (ai rfl ?_)))))))))
 refine s1 (cd rfl (fun c5=> ?_) fun c5=> ?_)
 · refine sq (rT [2] (s2 (rt ?_)))
   have hr:mN l f=([],0):=if_neg (by simpa using c5)
   refine bN rfl rfl ?_
   rw[hr]<;>rfl
 refine sk (sq (rT [2] (s7 (rt ?_))))
 have hr:mN l f=(l,(l.length:Int)):=if_pos (by simpa using c5)
 refine bN rfl rfl ?_
 rw[hr]<;>rfl
set_option maxHeartbeats 800000 in
theorem kz (l:List UInt8) (f keep:Int) (hl:l.length≤140737488355328):Sp 173 2 [tV 0 (.e (.agg [.d (.s l),.d (.i f)])),tI 1 keep] [tV 0 (.e (.agg [.d (.s (jE l f keep).1),.d (.i (jE l f keep).2)]))]:=by
 refine sb Tryz.func173 rfl (sq (rT [1,2,4] (s2 (sq (sq (rT [1,2,4,8] (s1 (xp (mS l f hl) (ai rfl ?_)))))))))
 refine s1 (cd rfl (fun c8=> ?_) fun c8=> ?_)
 · refine sq (rT [4] (s2 (rt ?_)))
   have hr:jE l f keep=([],0):=if_neg (by simpa using c8)
   refine bN rfl rfl ?_
   rw[hr]<;>rfl
 have hok:eV l f=true:=by simpa using c8
 obtain⟨q1,q2,q3,q4⟩:=qT hok
 have hfa:=zn (keep:=keep) q2
 have hfl: (dB (List.take (jV l f keep).toNat l)).2≤l.length:=aFa l f keep
 refine sk (sq (rT [1,2,4,5] (s3 (sq (sq (rT [1,2,4,5,18] (s7 (cd rfl (fun c18=> ?_) fun c18=> ?_))))))))
 · have hd:=of_decide_eq_true c18
   rw[aF (by omega)] at hd
   refine rT [1,2,4,5] (s6 (sq (sq (rT [1,2,4,5,25] (s2 (cd rfl (fun c25=> ?_) fun c25=> ?_))))))
   · have hz:=of_decide_eq_true c25
     refine rT [2,4,5] (s4 (sq (wa [tP 2 2,tP 4 4,tI 5 (jV l f keep),oB 2 76 [.d (.s l),.d (.i f)],oB 4 76 [.d (.s []),.d (.i 0)]] [] [] ?_ ?_)))
     · repeat' apply ai
       all_goals first|exact qx|exact congrArg D.i (by unfold jV;(try rw[aF (n:=(l.length:Int) - f) (by omega)] at*);split<;>first|omega|(rw[aF (by omega)];omega))|exact qz
     refine rT [2,4,5] (s3 (ai (by exact⟨by simp,by simpa using(by omega:0≤jV l f keep),by simpa using hfa.2⟩) (xp (eY (l.take (jV l f keep).toNat) (by rw[aSk];omega)) (ai rfl ?_))))
     refine s4 (sq (rT [4] (s3 (ai (by exact⟨by simp,by simp,by simpa using hfl⟩) (s3 (rt ?_))))))
     have hr:jE l f keep=_:=if_pos hok
     refine bN rfl rfl ?_
     rw[hr]
     rfl
   have hz:=of_decide_eq_false c25
   refine sk (sq (wa [tP 2 2,tP 4 4,tI 5 (jV l f keep),oB 2 76 [.d (.s l),.d (.i f)],oB 4 76 [.d (.s []),.d (.i 0)]] [] [] ?_ ?_))
   · repeat' apply ai
     all_goals first|exact qx|exact congrArg D.i (by unfold jV;(try rw[aF (n:=(l.length:Int) - f) (by omega)] at*);split<;>first|omega|(rw[aF (by omega)];omega))|exact qz
   refine rT [2,4,5] (s3 (ai (by exact⟨by simp,by simpa using(by omega:0≤jV l f keep),by simpa using hfa.2⟩) (xp (eY (l.take (jV l f keep).toNat) (by rw[aSk];omega)) (ai rfl ?_))))
   refine s4 (sq (rT [4] (s3 (ai (by exact⟨by simp,by simp,by simpa using hfl⟩) (s3 (rt ?_))))))
   have hr:jE l f keep=_:=if_pos hok
   refine bN rfl rfl ?_
   rw[hr]
   rfl
 have hd:=of_decide_eq_false c18
 rw[aF (by omega)] at hd
 refine sk (sq (sq (rT [1,2,4,5,25] (s2 (cd rfl (fun c25=> ?_) fun c25=> ?_)))))
 · have hz:=of_decide_eq_true c25
   refine rT [2,4,5] (s4 (sq (wa [tP 2 2,tP 4 4,tI 5 (jV l f keep),oB 2 76 [.d (.s l),.d (.i f)],oB 4 76 [.d (.s []),.d (.i 0)]] [] [] ?_ ?_)))
   · repeat' apply ai
     all_goals first|exact qx|exact congrArg D.i (by unfold jV;(try rw[aF (n:=(l.length:Int) - f) (by omega)] at*);split<;>first|omega|(rw[aF (by omega)];omega))|exact qz
   refine rT [2,4,5] (s3 (ai (by exact⟨by simp,by simpa using(by omega:0≤jV l f keep),by simpa using hfa.2⟩) (xp (eY (l.take (jV l f keep).toNat) (by rw[aSk];omega)) (ai rfl ?_))))
   refine s4 (sq (rT [4] (s3 (ai (by exact⟨by simp,by simp,by simpa using hfl⟩) (s3 (rt ?_))))))
   have hr:jE l f keep=_:=if_pos hok
   refine bN rfl rfl ?_
   rw[hr]
   rfl
 have hz:=of_decide_eq_false c25
 refine sk (sq (wa [tP 2 2,tP 4 4,tI 5 (jV l f keep),oB 2 76 [.d (.s l),.d (.i f)],oB 4 76 [.d (.s []),.d (.i 0)]] [] [] ?_ ?_))
 · repeat' apply ai
   all_goals first|exact qx|exact congrArg D.i (by unfold jV;(try rw[aF (n:=(l.length:Int) - f) (by omega)] at*);split<;>first|omega|(rw[aF (by omega)];omega))|exact qz
 refine rT [2,4,5] (s3 (ai (by exact⟨by simp,by simpa using(by omega:0≤jV l f keep),by simpa using hfa.2⟩) (xp (eY (l.take (jV l f keep).toNat) (by rw[aSk];omega)) (ai rfl ?_))))
 refine s4 (sq (rT [4] (s3 (ai (by exact⟨by simp,by simp,by simpa using hfl⟩) (s3 (rt ?_))))))
 have hr:jE l f keep=_:=if_pos hok
 refine bN rfl rfl ?_
 rw[hr]
 rfl
theorem nW (n:Int):Sp 191 1 [tI 0 n] [tI 0 (eI n)]:=by
 refine sb Tryz.func191 rfl (sq (rT [0] (s1 (sq (sq (rT [0,5] (s1 (xp (dC _ _ _) (ai rfl ?_)))))))))
 refine s1 (cd rfl (fun c5=> ?_) fun c5=> ?_)
 · refine sq (rT [2] (s1 (rt (bQ rfl (congrArg D.i ?_)))))
   simp at c5
   simp[eI,c5,Int.mul_comm]
 refine sk (sq (rT [2] (s5 (rt (bQ rfl (congrArg D.i ?_))))))
 simp at c5
 simp[eI,c5,Int.mul_comm]
theorem yK (b d:Int) (hb:1≤b∧b≤6) (hd:1≤d∧d≤6):Sp 194 2 [tI 0 b,tI 1 d] [tI 0 (mH b d)]:=by
 refine sb Tryz.func194 rfl (sq (rT [0,1] (s1 (sq (sq (rT [0,1,6] (s2 (cd rfl (fun c6=> ?_) fun c6=> ?_))))))))
 · have h1:d=1:=by simpa using c6
   refine sq (rT [4] (s1 (ai (by omega) (s2 (rt (bQ rfl (congrArg D.i ?_)))))))
   exact(if_pos h1).symm
 have h1: ¬d=1:=by simpa using c6
 have h2:wrap64 (d*wrap64 (d - 1))≠0:=zq (by omega)
 refine sk (sq (rT [4] (s4 (ai (h2) (s1 (rt (bQ rfl (congrArg D.i ?_))))))))
 exact(if_neg h1).symm
set_option maxHeartbeats 800000 in
theorem lc (b n:Int) (hok:rS b n=true):Sp 192 2 [tI 0 b,tI 1 n] [tI 0 (jX b n)]:=by
 obtain⟨hb,hn⟩:=vV hok
 refine sb Tryz.func192 rfl (sq (rT [0,1] (s1 (sq (sq (rT [0,1,12] (s2 (xp (uW _ _) (ai rfl ?_)))))))))
 refine s1 (cd rfl (fun c12=> ?_) fun c12=> ?_)
 · rw[hok] at c12
   cases c12
 refine sk (sq (sq (rT [0,1,15] (s3 (cd rfl (fun c15=> ?_) fun c15=> ?_)))))
 · have hs:n<b:=by simpa using c15
   refine sq (rT [4] (s1 (rt (bQ rfl (congrArg D.i ?_)))))
   exact(na hok hs).symm
 have hs: ¬n<b:=by simpa using c15
 refine sk (sq (rT [0,1,5] (s1 (sq (sq (rT [0,1,5,6] (s1 (bk (SW.loopW (n:=7) (fun m s=> ∃i:Nat,m=7 - i∧(i:Int)≤b∧s=[tI 0 b,tI 1 n,tI 5 (vI b (i)),tI 6 ((i+1:Nat):Int)]) ?_ ?_)))))))))
 · refine wq [] [] (⟨0,rfl,by omega,rfl⟩) ?_
   repeat' apply ai
   all_goals first|exact qx|rfl|exact congrArg D.i (by rw[aF (by omega)];omega)|(simp;done)|omega|exact qz
 rintro n s ⟨i,rfl,hi,rfl⟩
 refine sq (sq (rT [0,1,5,6,18] (s3 (cd rfl (fun c18=> ?_) fun c18=> ?_))))
 · have hi2: ((i+1:Nat):Int)≤b:=by simpa using c18
   have hr1:=tX hb (d:=i) (by omega)
   have hw1:=tK (b:=b) (d:=((i+1:Nat):Int)) hb (by omega)
   refine sk (sq (bk (rT [0,1,5,6] (s3 (xp (yK b _ (by omega) (by omega)) (ai rfl ?_))))))
   refine s2 (rT [0,1,5,6] (s3 (wq [] [] (⟨7 - (i+1),by omega,i+1,rfl,by omega,rfl⟩) ?_)))
   repeat' apply ai
   all_goals first|exact qx|(show D.i _=D.i (vI b i+mH b ((i+1:Nat):Int));exact congrArg D.i (aF (by omega)))|exact congrArg D.i (by rw[aF (by omega)];omega)|(simp;done)|omega|exact qz
 have hi3: ¬((i+1:Nat):Int)≤b:=by simpa using c18
 have hie:i=b.toNat:=by omega
 subst hie
 have hq:=tX hb (d:=b.toNat) (by omega)
 refine xt (sq (rT [0,7] (s4 (xp (nW _) (ai rfl ?_)))))
 refine xp (nW _) (ai rfl ?_)
 refine ai (by decide) (s1 (ai (by omega) (s1 (sq (sq (rT [0,7,8] (s1 (bk ?_))))))))
 have hdr:=aFb (n:=n) hb
 refine SW.loopW (n:=7) (fun m s=> ∃j:Nat,m=7 - j∧((j:Int)≤b∧(j+1:Int)≤b)∧yQ b (ke b n) (6 - j) (j+1)=jX b n∧s=[tI 0 b,tI 7 (ke b n - vI b (j)),tI 8 ((j+1:Nat):Int)]) ?_ ?_
 · refine wq [] [] (⟨0,rfl,by omega,(ud hok hs).symm,rfl⟩) ?_
   repeat' apply ai
   all_goals first|exact qx|(show D.i (ke b n)=D.i (ke b n - 0);rw[Int.sub_zero])|rfl|exact congrArg D.i (by rw[aF (by omega)];omega)|(simp;done)|omega|exact qz
 rintro n s ⟨j,rfl,hj,hdg,rfl⟩
 refine sq (sq (rT [0,7,8,37] (s3 (cd rfl (fun c37=> ?_) fun c37=> ?_))))
 · have hj2: ((j+1:Nat):Int)<b:=by simpa using c37
   have hr1:=tX hb (d:=j) (by omega)
   have hw1:=tK (b:=b) (d:=((j+1:Nat):Int)) hb (by omega)
   have hsum:wrap64 (ke b n - vI b j - mH b ((j+1:Nat):Int))=ke b n - vI b (j+1):=by
    show _=ke b n - (vI b j+mH b ((j+1:Nat):Int))
    rw[aF (by omega)];omega
   refine sk (sq (bk (sq (rT [0,7,8] (s3 (xp (yK b _ (by omega) (by omega)) (ai rfl ?_)))))))
   refine s2 (sq (rT [0,7,8,46] (s2 (cd rfl (fun c46=> ?_) fun c46=> ?_))))
   · have hlt:ke b n<vI b (j+1):=by
      have h9:=of_decide_eq_true c46
      rw[hsum] at h9;omega
     refine sq (rT [4] (s2 (rt (bQ rfl (congrArg D.i ?_)))))
     rw[← hdg]
     exact(aIp (by omega) (by omega) hlt).symm
   have hnl: ¬ke b n<vI b (j+1):=by
    have h9:=of_decide_eq_false c46
    rw[hsum] at h9;omega
   have hst:=aIo (by omega) (by omega) hnl
   refine sk (rT [0,7,8] (s3 (wq [] [] (⟨7 - (j+1),by omega,j+1,rfl,by omega,hst▸hdg,rfl⟩) ?_)))
   repeat' apply ai
   all_goals first|exact qx|(rw[hsum];done)|exact congrArg D.i (by rw[aF (by omega)];omega)|(simp;done)|omega|exact qz
 have hj3: ¬((j+1:Nat):Int)<b:=by simpa using c37
 refine xt (sq (rT [4] (s2 (rt (bQ rfl (congrArg D.i ?_))))))
 rw[← hdg]
 rw[gn (by omega)]
set_option maxHeartbeats 1600000 in
theorem il (b n:Int):Sp 184 2 [tI 0 b,tI 1 n] [tD 0 (.sl (cR (cM b n)))]:=by
 refine sb Tryz.func184 rfl (sq (rT [0,1] (s1 (sq (rT [0,1,5] (s2 (sq (sq (rT [0,1,5,15] (s2 (xp (uW _ _) (ai rfl ?_))))))))))))
 refine s1 (cd rfl (fun c15=> ?_) fun c15=> ?_)
 · have hok: ¬rS b n=true:=by simpa using c15
   refine sq (rT [4] (s2 (rt (eE _ [] [11] rfl (fM rfl rfl rfl ?_ (congrArg D.sl ?_) trivial) rfl rfl))))
   · rfl
   rw[xN hok];rfl
 have hok:rS b n=true:=by simpa using c15
 obtain⟨hb,hn⟩:=vV hok
 have hmd:=rY hok
 refine sk (sq (sq (rT [0,1,5,19] (s3 (cd rfl (fun c19=> ?_) fun c19=> ?_)))))
 · have hs:n<b:=by simpa using c19
   refine sq (rT [4] (s5 (rt (eE _ [] [11] rfl (fM rfl rfl rfl ?_ (congrArg D.sl ?_) trivial) rfl rfl))))
   · rfl
   rw[zQ hok hs];rfl
 have hs: ¬n<b:=by simpa using c19
 refine sk (sq (rT [0,1,5,6] (s1 (ai (by refine⟨rfl,by omega,?_⟩;show((1:Nat):Int)*_≤_;omega) (s1 (sq (rT [0,1,5,6,7] (s3 (xp (nW _) (ai rfl ?_))))))))))
 refine s1 (sq (sq (rT [0,5,6,7,8] (s2 (xp (lc b n hok) (ai rfl ?_))))))
 refine s1 (bk (SW.loopW (n:=(jX b n).toNat*1) (fun m s=> ∃(x:Int) (k:Nat) (u:List Bool),m=k*1∧(UOk b u∧(u.count true:Int)+k≤b)∧aCn b k x u=vJ b n∧s=[tI 0 b,tO 5 11 (([]:List Int)).length,tO 6 25 b.toNat,tI 7 (x),tI 8 (k:Nat),oR 11 3 1 (cR ([])),oR 25 4 1 (aK ((u).take b.toNat))]) ?_ ?_))
 · refine wq (σ':=[tI 0 b,tO 5 11 (([]:List Int)).length,tO 6 25 b.toNat,tI 7 (eI (wrap64 (wrap64 (n*7)+1))),tI 8 ((jX b n).toNat:Nat),oR 11 3 1 (cR ([])),oR 25 4 1 (aK ((List.replicate 6 false).take b.toNat))]) [] [] (⟨_,_,_,rfl,⟨(wA b).1,by rw[(wA b).2];omega⟩,rfl,rfl⟩) ?_
   repeat' apply ai
   all_goals first|exact qx|rfl|exact congrArg D.i (by omega)|(rw[List.take_replicate,Nat.min_eq_left (by omega)];exact repT _)|exact qz
 rintro n s ⟨x,k,u,rfl,⟨hu,hc⟩,hp,rfl⟩
 refine sq (sq (rT [0,5,6,7,8,34] (s2 (cd rfl (fun c34=> ?_) fun c34=> ?_))))
 · have hk1:0<k:=by simpa using c34
   obtain⟨f,hf,hfree⟩:=aCo hb hu (by omega)
   refine sk (sq (bk (sq (rT [0,5,6,7,8] (s1 (xp (nW _) (ai rfl ?_)))))))
   refine s1 (sq (rT [0,5,6,7,8,9] (s1 (ai (by decide) (s1 (ai (by omega) (s1 (sq (bk ?_)))))))))
   have ha0:=xn (x:=x) hb
   have hul:=hu.1
   have htl: (u.take b.toNat).length=b.toNat:=by rw[aSk];omega
   refine SW.loopW (n:=((f+b - (Int.tmod (wrap64 (Int.tdiv (eI x) 16)) b)) % b).toNat) (fun m s=> ∃at_:Int,m=((f+b - at_) % b).toNat∧(0≤at_∧at_<b)∧rM u b 6 at_=rM u b 6 (Int.tmod (wrap64 (Int.tdiv (eI x) 16)) b)∧s=[tI 0 b,tO 5 11 (([]:List Int)).length,tO 6 25 b.toNat,tI 7 (eI x),tI 8 (k:Nat),tI 9 (at_),oR 11 3 1 (cR ([])),oR 25 4 1 (aK ((u).take b.toNat))]) ?_ ?_
   · refine wq (σ':=[tI 0 b,tO 5 11 (([]:List Int)).length,tO 6 25 b.toNat,tI 7 (eI x),tI 8 (k:Nat),tI 9 ((Int.tmod (wrap64 (Int.tdiv (eI x) 16)) b)),oR 11 3 1 (cR ([])),oR 25 4 1 (aK ((u).take b.toNat))]) [] [] (⟨_,rfl,ha0,rfl,rfl⟩) ?_
     repeat' apply ai
     all_goals first|exact qx|rfl|exact qz
   rintro n s ⟨at_,rfl,hat,hga,rfl⟩
   have hbo:=kH (l:=u.take b.toNat) (i:=at_.toNat) (by omega)
   rw[bd (by omega)] at hbo
   refine sq (sq (rT [0,5,6,7,8,9,46] (s2 (ai (by exact⟨by rw[cO];exact htl,by omega,by omega⟩) (ai (by rw[hbo];exact⟨⟨by rw[cO];exact htl,by omega⟩,aSo _,rfl⟩) (cd rfl (fun c46=> ?_) fun c46=> ?_))))))
   · have c40:u.getD at_.toNat false=true:=by
      rw[hbo] at c46;exact c46
     refine sk (bk (rT [0,5,6,7,8,9] (s3 (ai (by omega) (s1 ?_)))))
     have hne:at_≠f:=by
      rintro rfl
      rw[hfree] at c40
      cases c40
     obtain⟨q1,q2⟩:=aEt hb hf hat hne
     have hgo:=aLa hb hf hfree hat c40
     refine wq (σ':=[tI 0 b,tO 5 11 (([]:List Int)).length,tO 6 25 b.toNat,tI 7 (eI x),tI 8 (k:Nat),tI 9 (Int.tmod (wrap64 (at_+1)) b),oR 11 3 1 (cR ([])),oR 25 4 1 (aK ((u).take b.toNat))]) [] [] (⟨_,q1,_,rfl,q2,hgo▸hga,rfl⟩) ?_
     repeat' apply ai
     all_goals first|exact qx|rfl|exact qz
   have c40:u.getD at_.toNat false=false:=by
    rw[hbo] at c46;exact c46
   have hz:at_=rM u b 6 (Int.tmod (wrap64 (Int.tdiv (eI x) 16)) b):=by rw[← hga,bm c40]
   have hpo:xJ b x u=u.set at_.toNat true:=by rw[xJ,← hz]
   have huk:=aCp (x:=x) hb hu (by omega)
   rw[hpo] at huk
   refine xt (rT [0,5,6,7,8] (s2 (ai (by exact⟨by rw[cO];exact htl,by omega,by omega⟩) (ai (by rw[hbo];exact⟨by rw[cO];exact htl,by omega,rfl,aSo _⟩) (rT [0,5,6,7,8] (s3 ?_))))))
   obtain⟨k,rfl⟩: ∃k2,k=k2+1:=⟨k - 1,by omega⟩
   have hpp:aCn b k (eI x) (u.set at_.toNat true)=vJ b n:=by
    rw[← hpo];exact hp
   refine wq [] [] (⟨k*1,by omega,eI x,k,u.set at_.toNat true,rfl,⟨huk.1,by rw[huk.2];omega⟩,hpp,rfl⟩) ?_
   repeat' apply ai
   all_goals first|exact qx|exact congrArg D.i (by rw[aF (by omega)];omega)|(rw[List.take_set];exact aHt (by omega))|exact qz
 have hk1:k=0:=by simp at c34;omega
 subst hk1
 have hue:u=vJ b n:=hp
 have hul:=hu.1
 have htl: (u.take b.toNat).length=b.toNat:=by rw[aSk];omega
 refine xt (sq (sq (rT [0,5,6,10] (s1 (bk (SW.loopW (n:=b.toNat) (fun m s=> ∃i:Nat,m=b.toNat - i∧(i:Int)≤b∧s=[tI 0 b,tO 5 11 (oD u (i)).length,tO 6 25 b.toNat,tI 10 (i:Nat),oR 11 3 1 (cR (oD u (i))),oR 25 4 1 (aK (u.take b.toNat))]) ?_ ?_))))))
 · refine wq [] [] (⟨0,rfl,by omega,rfl⟩) ?_
   repeat' apply ai
   all_goals first|exact qx|rfl|exact qz
 rintro n s ⟨i,rfl,hi,rfl⟩
 refine sq (sq (rT [0,5,6,10,56] (s3 (cd rfl (fun c56=> ?_) fun c56=> ?_))))
 · have hi2: (i:Int)<b:=by simpa using c56
   have hbo:=kH (l:=u.take b.toNat) (i:=i) (by omega)
   rw[bd (by omega)] at hbo
   refine sk (sq (bk (sq (rT [0,5,6,10,62] (s2 (ai (by exact⟨by rw[cO];exact htl,by omega,by omega⟩) (ai (by rw[aSd];rw[hbo];exact⟨⟨by rw[cO];exact htl,by omega⟩,aSo _,rfl⟩) (cd rfl (fun c62=> ?_) fun c62=> ?_))))))))
   · have c52:u.getD i false=true:=by
      rw[aSd,hbo] at c62;exact c62
     refine rT [0,5,6,10] (s3 (ai (by refine⟨rfl,cD _,by simp,?_⟩;have:=cf u i;show(_+1)*8≤_;omega) (s1 (rT [0,5,6,10] (s3 ?_)))))
     first
     |(have hx:=qt c52
       refine wq [] [] (⟨b.toNat - (i+1),by omega,i+1,rfl,by omega,rfl⟩) ?_
       repeat' apply ai
       all_goals first|exact qx|exact congrArg D.i (by rw[aF (by omega)];omega)|omega|(simp;done)|(rw[hx,aSe];rfl)|(rw[hx];exact mW _ _)|(rw[hx];simp[cR,aSe];done)|exact qz)
     |(have hx:=kf c52
       refine wq [] [] (⟨b.toNat - (i+1),by omega,i+1,rfl,by omega,rfl⟩) ?_
       repeat' apply ai
       all_goals first|exact qx|exact congrArg D.i (by rw[aF (by omega)];omega)|omega|(simp;done)|(rw[hx];done)|exact qz)
   have c52:u.getD i false=false:=by
    rw[aSd,hbo] at c62;exact c62
   refine sk (rT [0,5,6,10] (s3 ?_))
   first
   |(have hx:=qt c52
     refine wq [] [] (⟨b.toNat - (i+1),by omega,i+1,rfl,by omega,rfl⟩) ?_
     repeat' apply ai
     all_goals first|exact qx|exact congrArg D.i (by rw[aF (by omega)];omega)|omega|(simp;done)|(rw[hx,aSe];rfl)|(rw[hx];exact mW _ _)|(rw[hx];simp[cR,aSe];done)|exact qz)
   |(have hx:=kf c52
     refine wq [] [] (⟨b.toNat - (i+1),by omega,i+1,rfl,by omega,rfl⟩) ?_
     repeat' apply ai
     all_goals first|exact qx|exact congrArg D.i (by rw[aF (by omega)];omega)|omega|(simp;done)|(rw[hx];done)|exact qz)
 have hi3:i=b.toNat:=by simp at c56;omega
 subst hi3
 refine xt (sq (rT [4] (s2 (rt (eE _ [] [11] rfl (fM rfl rfl rfl ?_ (congrArg D.sl ?_) trivial) rfl rfl)))))
 · exact cD _
 rw[kg hok hs,← hue,← qu,mj (i:=b.toNat) (fun j hj=>hu.2 j (by omega)) (by omega)]
theorem ve:Sp 185 0 [] [tD 0 (.s [0,0,0,0])]:=by
 refine sb Tryz.func185 rfl (sq (rT [] (s1 (sq (rT [0] (ai (by exact⟨rfl,by decide,by decide⟩) (ai (by exact⟨rfl,rfl⟩) (s1 (rt (bQ rfl (congrArg D.s ?_)))))))))))
 rfl
theorem im (a c:List UInt8) (ha:a.length=4) (hc:c.length=4):Sp 186 2 [tD 0 (.s a),tD 1 (.s c)] [tD 0 (.s (uc a c))]:=by
 refine sb Tryz.func186 rfl (sq (rT [0,1] (s1 (sq (rT [0,1,5] (s2 (sq (sq (rT [0,1,5,6] (s1 (bk (SW.loopW (n:=4) (fun m s=> ∃i:Nat,m=4 - i∧i≤4∧s=[tD 0 (.s a),tD 1 (.s c),tO 5 7 (qv a c (i)).length,tI 6 (i:Nat),oR 7 5 1 (aC (qv a c (i)))]) ?_ ?_))))))))))))
 · refine wq [] [] (⟨0,rfl,by omega,rfl⟩) ?_
   repeat' apply ai
   all_goals first|exact qx|rfl|exact qz
 rintro n s ⟨i,rfl,hi,rfl⟩
 refine sq (sq (rT [0,1,5,6,9] (s2 (cd rfl (fun c9=> ?_) fun c9=> ?_))))
 · have hi2:i<4:=by simp at c9;omega
   refine sk (sq (bk (rD [0,1,5,6] (s3 (ai (by omega) (s2 (ai (by omega) (s2 (ai (by refine⟨rfl,aT _,by simp,?_⟩;rw[gq];show(_+1)*1≤_;omega) (s1 (ai (by kernel_rfl) (rT [0,1,5,6] (s3 ?_)))))))))))))
   have hx:=aFe a c i
   refine wq [] [] (⟨4 - (i+1),by omega,i+1,rfl,by omega,rfl⟩) ?_
   repeat' apply ai
   all_goals first|exact qx|(rw[hx,aSe];rfl)|(rw[hx,aSd];exact aHv _ _ _)|(simp[aT,gq];done)|exact congrArg D.i (by rw[aF (by omega)];omega)|omega|(simp;done)|exact qz
 have hi2:i=4:=by simp at c9;omega
 subst hi2
 refine xt (sq (rT [4] (s1 (ai (by exact⟨aT _,(congrArg aC (cC _)).symm⟩) (s1 (rt (bQ rfl (congrArg D.s ?_))))))))
 exact cC _
set_option maxHeartbeats 800000 in
theorem vf (l:List UInt8) (hl:l.length≤140737488355328):Sp 183 1 [tD 0 (.s l)] [tD 0 (.sl (bL (dJ l)))]:=by
 refine sb Tryz.func183 rfl (sq (rT [0,12,13,14] (s1 (sq (rT [0,3,12,13,14] (s2 (sq (sq (rT [0,3,15] (s4 (y3 (ai pk (cd rfl (fun c15=> ?_) fun c15=> ?_)))))))))))))
 · have hin: ¬gX l.length 1 24=true:=by
    have h1: (l.length:Int)<1∨(l.length:Int)>24:=by simpa only[Bool.or_eq_true,decide_eq_true_eq] using c15
    simp[gX];omega
   refine sq (rT [2] (s2 (rt (eE _ [] [7] rfl (fM rfl rfl rfl ?_ (congrArg D.sl ?_) trivial) rfl rfl))))
   · rfl
   rw[xo hin];rfl
 have hl2:1≤l.length∧l.length≤24:=by
  have h1: ¬(l.length:Int)<1∧ ¬(l.length:Int)>24:=by simpa only[Bool.or_eq_false_iff,decide_eq_false_iff_not] using c15
  omega
 have hin:gX l.length 1 24=true:=by simp[gX];omega
 refine sk (sq (sq (rT [0,3,4] (s1 (bk (SW.loopW (n:=((l.length+3) / 4)) (fun m s=> ∃i:Nat,m=((l.length+3) / 4) - i∧i≤((l.length+3) / 4)∧s=[tD 0 (.s l),tO 3 7 (uP l (i)).length,tI 4 (i:Nat),oR 7 9 1 (bL (uP l (i)))]) ?_ ?_))))))
 · refine wq (σ':=[tD 0 (.s l),tO 3 7 (uP l (0)).length,tI 4 (0:Nat),oR 7 9 1 (bL (uP l (0)))]) [] [] (⟨0,rfl,aSj _,rfl⟩) ?_
   repeat' apply ai
   all_goals first|exact qx|rfl|exact qz
 rintro n s ⟨i,rfl,hi,rfl⟩
 refine sq (sq (rT [0,3,4,21] (s3 (xp (nV _ (by omega)) (ai rfl ?_)))))
 refine s1 (cd rfl (fun c21=> ?_) fun c21=> ?_)
 · have hi2:i< ((l.length+3) / 4):=by simp at c21;omega
   refine sk (sq (bk (sq (rT [0,3,4,5] (s2 (sq (sq (rT [0,3,4,5,6] (s3 (bk (SW.loopW (n:=4) (fun m s=> ∃c:Nat,m=4 - c∧c≤4∧s=[tD 0 (.s l),tO 3 7 (uP l i).length,tI 4 (i:Nat),tO 5 24 (zR l i (c)).length,tI 6 (4*i+c:Nat),oR 7 9 1 (bL (uP l i)),oR 24 5 1 (aC (zR l i (c)))]) ?_ ?_)))))))))))
   · refine wq (σ':=[tD 0 (.s l),tO 3 7 (uP l i).length,tI 4 (i:Nat),tO 5 24 (zR l i (0)).length,tI 6 (4*i+0:Nat),oR 7 9 1 (bL (uP l i)),oR 24 5 1 (aC (zR l i (0)))]) [] [] (⟨0,rfl,aSj _,rfl⟩) ?_
     repeat' apply ai
     all_goals first|exact qx|rfl|exact congrArg D.i (by rw[aF (by omega)];omega)|exact qz
   rintro n s ⟨c,rfl,hc,rfl⟩
   refine sq (sq (rT [0,3,4,5,6,31] (s5 (cd rfl (fun c31=> ?_) fun c31=> ?_))))
   · have hc2:c<4:=by
      have h:=c31
      rw[aF (n:=(i:Int)+1) (by omega),aF (by omega)] at h
      simp at h;omega
     refine sk (sq (bk (sq (rT [0,3,4,5,6,37] (s4 (cd rfl (fun c37=> ?_) fun c37=> ?_))))))
     · have hk3:4*i+c<l.length:=by simp at c37;omega
       refine rT [0,3,4,5,6] (s3 (ai (by omega) (s1 (ai (by refine⟨rfl,aT _,by simp,?_⟩;rw[lB];show(_+1)*1≤_;omega) (s1 (rT [0,3,4,5,6] (s3 ?_)))))))
       first
       |(have hk4:4*i+c<l.length:=hk3
         have hbs:=xO l i c
         refine wq [] [] (⟨4 - (c+1),by omega,c+1,rfl,by omega,rfl⟩) ?_
         repeat' apply ai
         all_goals first|exact qx|exact congrArg D.i (by rw[aF (by omega)];omega)|(rw[hbs,aSe];rfl)|(rw[hbs,aSd];exact fR _ [_])|(simp[aT,lB];done)|exact qz)
       |(have hbs:=xO l i c
         rw[hk3] at hbs
         refine wq [] [] (⟨4 - (c+1),by omega,c+1,rfl,by omega,rfl⟩) ?_
         repeat' apply ai
         all_goals first|exact qx|exact congrArg D.i (by rw[aF (by omega)];omega)|(rw[hbs,aSe];rfl)|(rw[hbs];exact fR _ [0])|(simp[aT,lB];done)|exact qz)
     have hk3:l.getD (4*i+c) 0=0:=getD_none (by simp at c37;omega)
     refine rT [0,3,4,5,6] (s2 (ai (by refine⟨rfl,aT _,by simp,?_⟩;rw[lB];show(_+1)*1≤_;omega) (s1 (rT [0,3,4,5,6] (s3 ?_)))))
     first
     |(have hk4:4*i+c<l.length:=hk3
       have hbs:=xO l i c
       refine wq [] [] (⟨4 - (c+1),by omega,c+1,rfl,by omega,rfl⟩) ?_
       repeat' apply ai
       all_goals first|exact qx|exact congrArg D.i (by rw[aF (by omega)];omega)|(rw[hbs,aSe];rfl)|(rw[hbs,aSd];exact fR _ [_])|(simp[aT,lB];done)|exact qz)
     |(have hbs:=xO l i c
       rw[hk3] at hbs
       refine wq [] [] (⟨4 - (c+1),by omega,c+1,rfl,by omega,rfl⟩) ?_
       repeat' apply ai
       all_goals first|exact qx|exact congrArg D.i (by rw[aF (by omega)];omega)|(rw[hbs,aSe];rfl)|(rw[hbs];exact fR _ [0])|(simp[aT,lB];done)|exact qz)
   have hc2:c=4:=by
    have h:=c31
    rw[aF (n:=(i:Int)+1) (by omega),aF (by omega)] at h
    simp at h;omega
   subst hc2
   refine xt (rT [0,3,4] (s2 (ai (by exact⟨aT _,(congrArg aC (cC _)).symm⟩) (s1 (ai (by refine⟨rfl,aU _,by simp,?_⟩;rw[xP];show(_+1)*16≤_;omega) (s1 (rT [0,3,4] (s3 ?_))))))))
   have hcs:=aFd l i
   refine wq [] [] (⟨((l.length+3) / 4) - (i+1),by omega,i+1,rfl,by omega,rfl⟩) ?_
   repeat' apply ai
   all_goals first|exact qx|(rw[hcs,cC];exact iW _ _)|(rw[hcs,aSe];rfl)|(simp[aU,xP];done)|exact congrArg D.i (by rw[aF (by omega)];omega)|omega|(simp;done)|exact qz
 have hi3:i=((l.length+3) / 4):=by simp at c21;omega
 refine xt (sq (rT [2] (s2 (rt (eE _ [] [7] rfl (fM rfl rfl rfl ?_ (congrArg D.sl ?_) trivial) rfl rfl)))))
 · exact aU _
 rw[qw hin,hi3]
set_option maxHeartbeats 800000 in
theorem su (l:List UInt8) (n:Int) (hl:l.length≤140737488355328):Sp 172 2 [tD 0 (.s l),tI 1 n] [tD 0 (.s (xL l n))]:=by
 refine sb Tryz.func172 rfl (sq (rT [0,1,19,20,21] (s1 (sq (rT [1,5,19,20,21] (s1 (xp (vf l hl) (ai rfl ?_))))))))
 refine s1 (sq (rT [5,6,19,20,21] (s3 (xp (il ((dJ l).length:Nat) n) (ai (by rw[aU];rfl) ?_)))))
 refine s1 (sq (sq (rT [5,6,22] (s4 (y3 (ai pk (cd rfl (fun c22=> ?_) fun c22=> ?_)))))))
 · have hn:dJ l=[]∨(cM (dJ l).length n)=[]:=by simpa[bL,cR] using c22
   refine sq (rT [4] (s1 (rt (bQ rfl (congrArg D.s ?_)))))
   exact(gt hn).symm
 have hn: ¬(dJ l=[]∨(cM (dJ l).length n)=[]):=by simpa[bL,cR] using c22
 refine sk (sq (rT [5,6,7] (xp ve (ai rfl ?_))))
 refine s1 (sq (sq (rT [5,6,7,8] (s1 (bk (SW.loopW (n:=(cM (dJ l).length n).length) (fun m s=> ∃i:Nat,m=(cM (dJ l).length n).length - i∧i≤(cM (dJ l).length n).length∧s=[tD 5 (.sl (bL (dJ l))),tD 6 (.sl (cR (cM (dJ l).length n))),tD 7 (.s (wB (dJ l) [0,0,0,0] ((cM (dJ l).length n).take i))),tI 8 (i:Nat)]) ?_ ?_))))))
 · refine wq (σ':=[tD 5 (.sl (bL (dJ l))),tD 6 (.sl (cR (cM (dJ l).length n))),tD 7 (.s (wB (dJ l) [0,0,0,0] ((cM (dJ l).length n).take 0))),tI 8 (0:Nat)]) [] [] (⟨0,rfl,aSj _,rfl⟩) ?_
   repeat' apply ai
   all_goals first|exact qx|rfl|exact qz
 rintro n s ⟨i,rfl,hi,rfl⟩
 refine sq (sq (rT [5,6,7,8,27] (s4 (cd rfl (fun c27=> ?_) fun c27=> ?_))))
 · have hi2:i< (cM (dJ l).length n).length:=by simp[cD] at c27;omega
   have hml:=gp (dJ l).length n
   have hj:=aQe (t:=l) (n:=n) hi2
   have hio:=dF (l:=(cM (dJ l).length n)) (i:=i) hi2
   have hv:=aM2 (l:=dJ l) hj.1 hj.2.1
   refine sk (sq (bk (rT [5,6,7,8] (s4 (ai (by rw[aSd,hio];exact⟨⟨by omega,by rw[cD];omega⟩,rfl⟩) (ai (by rw[aSd,hio];exact⟨aSf rfl,rfl⟩) (ai (by rw[aSd,hio];exact ixS hj.1 hj.2.1) (ai (by rw[aSd,hio];exact ldS hj.1 hj.2.1) (xp (im (wB (dJ l) [0,0,0,0] ((cM (dJ l).length n).take i)) ((dJ l).getD ((cM (dJ l).length n).getD i 0).toNat []) (gr rfl) hj.2.2) (ai (by rw[aSd,hio];exact(congrArg (fun z=>eH 0 [Dv (.s (wB (dJ l) [0,0,0,0] ((cM (dJ l).length n).take i))),Dv (.s z)]) hv).symm) ?_))))))))))
   refine s1 (rT [5,6,7,8] (s3 ?_))
   have hgt:=aFg (bl:=dJ l) hi2 (x:=[0,0,0,0])
   refine wq [] [] (⟨(cM (dJ l).length n).length - (i+1),by omega,i+1,rfl,by omega,rfl⟩) ?_
   repeat' apply ai
   all_goals first|exact qx|(rw[hgt];done)|exact congrArg D.i (by rw[aF (by omega)];omega)|omega|(simp;done)|exact qz
 have hi3:i=(cM (dJ l).length n).length:=by simp[cD] at c27;omega
 refine xt (sq (rT [4] (s2 (rt (bQ rfl (congrArg D.s ?_))))))
 rw[gu hn,hi3,aSv]
theorem sB (a b:Int):Sp 171 2 [tI 0 a,tI 1 b] [tI 0 (hG a b)]:=by
 refine sb Tryz.func171 rfl (sq (rT [0,1,10,11,12,15,16,17] (s1 (sq (bk (sq (rT [0,1,5] (s1 (xp (cW _) (ai rfl ?_))))))))))
 refine s2 (y1 (xc (fun h=>(cW _)) (ai rfl (ai rk ?_))))
 refine y1 (ai pk (s1 (y3 (ai pk (s1 (cd rfl (fun c5=> ?_) fun c5=> ?_))))))
 · refine sq (rT [4] (s1 (rt (bQ rfl ?_))))
   simp only[hG,wrap64,eB,gX,gb] at*
   grind
 refine sq (rT [0,19] (s4 (cd rfl (fun c19=> ?_) fun c19=> ?_)))
 · refine sq (rT [4] (s3 (rt (bQ rfl ?_))))
   simp only[hG,wrap64,eB,gX,gb] at*
   grind
 refine sk (sq (rT [4] (s3 (rt (bQ rfl ?_)))))
 simp only[hG,wrap64,eB,gX,gb] at*
 grind
set_option maxHeartbeats 1600000 in
theorem ld (k:aO) (f n mix:Int) (hl:k.log.length≤140737488355328):Sp 159 4 [tV 0 k.V,tI 1 f,tI 2 n,tI 3 mix] [tV 0 (.tup [.agg [.d (.i ((eA k f n mix).1).kind),.d (.i ((eA k f n mix).1).src),.d (.i ((eA k f n mix).1).dst),.d (.i ((eA k f n mix).1).frm),.d (.i ((eA k f n mix).1).num),.d (.i ((eA k f n mix).1).to),.d (.i ((eA k f n mix).1).til),.d (.i ((eA k f n mix).1).size),.d (.i ((eA k f n mix).1).mix),.d (.s ((eA k f n mix).1).data)],.c (.d (.b (eA k f n mix).2))])]:=by
 refine sb Tryz.func159 rfl (sq (rT [1,2,3,4,8,18,19,20,36,37,38] (s3 (sq (sq (rT [1,2,3,4,8,21,36,37,38] (s1 (xp (fP k hl) (ai rfl ?_)))))))))
 refine s2 (y3 (ai pk (cd rfl (fun c21=> ?_) fun c21=> ?_)))
 · have hn:eA k f n mix=(.zero,false):=gv (by
    intro h9
    simp only[aSg] at h9
    rw[h9.1.1.1,h9.1.1.2] at c21
    cases c21)
   refine sq (rT [8,9] (s3 (rt ?_)))
   have hr:=hn
   refine bN rfl rfl ?_
   rw[hr]
   rfl
 have hok:bF k=true∧k.up=true:=by
  revert c21
  cases bF k<;>cases k.up<;>simp
 obtain⟨hok,hup⟩:=hok
 have hlg:=(fV hok).2.1
 have h6:=eC (gN hok)
 refine sk (sq (rT [1,2,3,4,8,10,36,37,38] (s1 (xp (gE k (by omega)) (ai rfl ?_)))))
 refine s6 (sq (rT [3,4,8,10,12,36,37,38] (s4 (xp (fK (aZ k).1.held f n (by have:=h6.1;omega)) (ai rfl ?_)))))
 refine s1 (sq (sq (rT [3,4,8,10,12,39] (s3 (y1 (xc (fun h=>(dC _ _ _)) (ai rfl (ai rk ?_))))))))
 refine y1 (ai pk (cd rfl (fun c39=> ?_) fun c39=> ?_))
 · have hn:eA k f n mix=(.zero,false):=gv (by
    intro h9
    simp only[aSg,decide_eq_true_eq] at h9
    rw[h9.1.2,decide_eq_false (show ¬aX (aZ k).1.held f n<0 by omega)] at c39
    cases c39)
   refine sq (rT [8,9] (s3 (rt ?_)))
   have hr:=hn
   refine bN rfl rfl ?_
   rw[hr]
   rfl
 have hpm:0≤aX (aZ k).1.held f n∧gX mix 0 999=true:=by
  by_cases h8:aX (aZ k).1.held f n<0
  · rw[decide_eq_true h8] at c39;cases c39
  · refine⟨by omega,?_⟩
    rw[decide_eq_false h8] at c39
    simpa using c39
 obtain⟨hp,hmx⟩:=hpm
 have hy:=ue hok hup hmx hp
 obtain⟨j,hj,hjl,hjt⟩:=qF hok hp
 have hg:=aQ (l:=(aZ k).1.held) hjl
 rw[hj,aSd] at hy
 refine sk (sq (rT [3,4,8,13] (s3 (ai (by rw[hj,aSd,hg];exact⟨⟨by omega,by rw[aA];omega⟩,rfl⟩) (ai (by rw[hj,aSd,hg];exact⟨aSf rfl,rfl⟩) (s2 (sq (wa [tP 4 4,tP 8 8,tP 13 13,tI 3 mix,oB 4 79 [.d (.i (k).id),.d (.b (k).up),.d (.s (k).log),.d (.i (k).forced),.d (.sl (bM (k).halves))],oB 8 178 [.d (.i 0),.d (.i 0),.d (.i 0),.d (.i 0),.d (.i 0),.d (.i 0),.d (.i 0),.d (.i 0),.d (.i 0),.d (.s [])],oB 13 29 [.d (.i (((aZ k).1.held.getD j .zero)).frm),.d (.i (((aZ k).1.held.getD j .zero)).num),.d (.i (((aZ k).1.held.getD j .zero)).to),.d (.i (((aZ k).1.held.getD j .zero)).til),.d (.s (((aZ k).1.held.getD j .zero)).text)]] [] [] ?_ ?_))))))))
 · repeat' apply ai
   all_goals first|exact qx|(rw[hj,aSd,hg];rfl)|exact qz
 refine rD [8,9] (s6 (xp (sB _ _) (ai rfl ?_)))
 refine s9 (s6 (xp (su ((aZ k).1.held.getD j .zero).text mix hjt) (ai rfl ?_)))
 refine s3 (ai (by kernel_rfl) (rt ?_))
 have hr:=hy
 refine bN rfl rfl ?_
 rw[hr]
 rfl
theorem yL (rec:List UInt8):Sp 187 1 [tD 0 (.s rec)] [tB 0 (uN rec)]:=by
 refine sb Tryz.func187 rfl (sq (rT [0] (s1 (sq (rT [2] (s2 (xp (dC _ _ _) (ai rfl ?_))))))))
 refine s1 (rt (bQ rfl ?_))
 rfl
theorem vN (rec:List UInt8) (hrec:rec.length≤900000):Sp 188 1 [tD 0 (.s rec)] [tD 0 (.s (kZ rec))]:=by
 have hdl:=cA (k:=5) (n:=rec.length) (by simp;omega)
 refine sb Tryz.func188 rfl (sq (rT [0] (s1 (sq (rT [2] (s2 (xp (sQ rec.length (by omega)) (ai rfl ?_))))))))
 refine ai (by show _≤9223372036854775807;(try simp only[aSe,aSi,aSh]);omega) (s1 (ai (by show _≤9223372036854775807;(try simp only[aSe,aSi,aSh]);omega) (ai (by show _≤9223372036854775807;(try simp only[aSe,aSi,aSh]);omega) (s1 (rt (bQ rfl ?_))))))
 rfl
set_option maxHeartbeats 800000 in
theorem yM (l:List UInt8) (f:Int) (rec:List UInt8) (hl:l.length≤140737488355328) (hrec:rec.length≤900000):Sp 182 2 [tV 0 (.e (.agg [.d (.s l),.d (.i f)])),tD 1 (.s rec)] [tV 0 (.tup [.agg [.d (.s (cB l f rec).1.1),.d (.i (cB l f rec).1.2)],.c (.d (.b (cB l f rec).2))])]:=by
 refine sb Tryz.func182 rfl (sq (rT [1,2,4,14,15,16,17,18,19,20,21] (s3 (sq (sq (rT [1,2,4,8,14,15,16,17,18,19,20,21] (s1 (xp (mS l f hl) (ai rfl ?_)))))))))
 refine s1 (cd rfl (fun c8=> ?_) fun c8=> ?_)
 · have hr:cB l f rec=(([],0),false):=zt (by simpa using c8)
   refine sq (rT [4,5] (s3 (rt (bN rfl rfl ?_))))
   rw[hr]
   rfl
 have hok:eV l f=true:=by simpa using c8
 have hl2:=(qT hok).1
 have hst:=zP hrec
 refine sk (sq (sq (rD [1,2,4,22] (s1 (xp (yL rec) (ai rfl ?_))))))
 refine s2 (y4 (xc (fun h=>(vN rec hrec)) (ai rfl (ai rk ?_))))
 refine y3 (ai pk (ai (by kernel_rfl) (cd rfl (fun c22=> ?_) fun c22=> ?_)))
 · have hr:cB l f rec=((l,f),false):=aCr hok (fun h9=>by have:=(aCs c22 hl2 (by omega)).1 h9;cases this)
   refine sq (rT [4,5] (s3 (rt (bN rfl rfl ?_))))
   rw[hr]
   rfl
 have hr:cB l f rec=((l++kZ rec,f),true):=zu hok ((aCs c22 hl2 (by omega)).2 rfl)
 refine sk (sq (rD [4,5] (s3 (xp (vN rec hrec) (ai rfl ?_)))))
 refine ai (by show _≤9223372036854775807;(try simp only[aSe,aSi,aSh]);omega) (s5 (ai (by kernel_rfl) (rt (bN rfl rfl ?_))))
 rw[hr]
 rfl
set_option maxHeartbeats 800000 in
theorem wC (l:List UInt8) (f:Int) (recs:List (List UInt8)) (hl:l.length≤140737488355328) (hn:recs.length≤900000) (hrec: ∀r∈recs,r.length≤900000):Sp 174 2 [tV 0 (.e (.agg [.d (.s l),.d (.i f)])),tD 1 (.sl (bL recs))] [tV 0 (.tup [.agg [.d (.s (eO l f recs).1.1),.d (.i (eO l f recs).1.2)],.c (.d (.b (eO l f recs).2))])]:=by
 refine sb Tryz.func174 rfl (sq (rT [1,2,4] (s3 (sq (sq (rT [1,2,4,10] (s1 (xp (mS l f hl) (ai rfl ?_)))))))))
 refine s1 (cd rfl (fun c10=> ?_) fun c10=> ?_)
 · have hr:eO l f recs=(([],0),false):=uf (by simpa using c10)
   refine sq (rT [4,5] (s3 (rt (bN rfl rfl ?_))))
   rw[hr]
   rfl
 have hok:eV l f=true:=by simpa using c10
 refine sk (sq (rT [1,2,4,6] (s1 (sq (sq (rT [1,2,4,6,7] (s1 (bk (SW.loopW (n:=recs.length) (fun m q=> ∃i:Nat,m=recs.length - i∧i≤recs.length∧(∀k,k<i→uN (recs.getD k [])=true)∧q=[tP 2 2,tP 4 4,tD 1 (.sl (bL recs)),tD 6 (.s (gU (recs.take (i)))),tI 7 (i:Nat),oB 2 76 [.d (.s l),.d (.i f)],oB 4 76 [.d (.s []),.d (.i 0)]]) ?_ ?_)))))))))
 · refine wq (σ':=[tP 2 2,tP 4 4,tD 1 (.sl (bL recs)),tD 6 (.s (gU (recs.take (0)))),tI 7 (0:Nat),oB 2 76 [.d (.s l),.d (.i f)],oB 4 76 [.d (.s []),.d (.i 0)]]) [] [] (⟨0,rfl,aSj _,fun k h=>absurd h (by omega),rfl⟩) ?_
   repeat' apply ai
   all_goals first|exact qx|rfl|exact qz
 rintro n s ⟨i,rfl,hi,hk,rfl⟩
 refine sq (sq (rT [1,2,4,6,7,15] (s4 (cd rfl (fun c15=> ?_) fun c15=> ?_))))
 · have hi2:i<recs.length:=by simpa[aU] using c15
   have hg:=gG (l:=recs) hi2
   have hmem: (recs.getD i [])∈recs:=dU hi2
   have hrq:=hrec _ hmem
   have hpt:=zw hi2
   have hple:=aFj recs i
   have hps:=cg hrec
   have hsl:=zP hrq
   refine sk (sq (bk (sq (sq (rT [1,2,4,6,7,23] (s2 (ai (by rw[aSd,hg];exact⟨⟨by omega,by rw[aU];omega⟩,rfl⟩) (ai (by rw[aSd,hg];exact⟨aSf rfl,rfl⟩) (xp (yL (recs.getD i [])) (ai (by rw[aSd,hg];rfl) ?_))))))))))
   refine s1 (cd rfl (fun c23=> ?_) fun c23=> ?_)
   · have hs:uN (recs.getD i [])=false:=by
      simpa using c23
     have hr:eO l f recs=((l,f),false):=gw hok (fun h9=>aLc hi2 hs h9.1)
     refine sq (rT [4,5] (s3 (rt (bN rfl rfl ?_))))
     rw[hr]
     rfl
   refine sk (rT [1,2,4,6,7] (s3 (ai (by rw[aSd,hg];exact⟨⟨by omega,by rw[aU];omega⟩,rfl⟩) (ai (by rw[aSd,hg];exact⟨aSf rfl,rfl⟩) (xp (vN (recs.getD i []) hrq) (ai (by rw[aSd,hg];rfl) ?_))))))
   refine ai (by show _≤9223372036854775807;(try simp only[aSe,aSi,aSh]);omega) (s1 (rT [1,2,4,6,7] (s3 ?_)))
   have hs:uN (recs.getD i [])=true:=by
    simpa using c23
   refine wq [] [] (⟨recs.length - (i+1),by omega,i+1,rfl,by omega,fun k h=>by by_cases e:k=i;exact e▸hs;exact hk k (by omega),rfl⟩) ?_
   repeat' apply ai
   all_goals first|exact qx|exact congrArg D.i (by rw[aF (by omega)];omega)|(rw[hpt];done)|(rw[hpt,aSd,hg];rfl)|omega|exact qz
 have hi3:i=recs.length:=by simp[aU] at c15;omega
 subst hi3
 have hall:=aIr hk
 rw[aSv]
 refine xt (sq (sq (rT [2,4,6,34] (s3 (cd rfl (fun c34=> ?_) fun c34=> ?_)))))
 · have hr:eO l f recs=((l,f),false):=gw hok (fun h9=>by have h8:=of_decide_eq_true c34;omega)
   refine sq (rT [4,5] (s3 (rt (bN rfl rfl ?_))))
   rw[hr]
   rfl
 have hr:=ug hok ⟨hall,by have h8:=of_decide_eq_false c34;omega⟩
 refine sk (sq (rT [4,5] (s6 (rt (bN rfl rfl ?_)))))
 rw[hr]
 rfl
theorem yN (a b c:Int) (h: (0≤a∧a≤1000000)∧(0≤b∧b≤1000000)∧(0≤c∧c≤1000000)):Sp 89 3 [tI 0 a,tI 1 b,tI 2 c] [tD 0 (.s (jQ a.toNat++[32]++jQ b.toNat++[32]++jQ c.toNat))]:=by
 have q1:=cA (k:=6) (n:=a.toNat) (by simp;omega)
 have q2:=cA (k:=6) (n:=b.toNat) (by simp;omega)
 have q3:=cA (k:=6) (n:=c.toNat) (by simp;omega)
 refine sb Tryz.func89 rfl (sq (rT [0,1,2] (s1 (sq (rT [6] (s1 (xp (jM a h.1) (ai rfl ?_))))))))
 refine ai (by show _≤9223372036854775807;(try simp only[aSe,aSi,aSh]);omega) (s1 (xp (jM b h.2.1) (ai rfl ?_)))
 refine ai (by show _≤9223372036854775807;(try simp only[aSe,aSi,aSh]);omega) (ai (by show _≤9223372036854775807;(try simp only[aSe,aSi,aSh]);omega) (s1 (xp (jM c h.2.2) (ai rfl ?_))))
 refine ai (by show _≤9223372036854775807;(try simp only[aSe,aSi,aSh]);omega) (s1 (rt (bQ rfl ?_)))
 rfl
set_option maxHeartbeats 1600000 in
theorem sv (k:aO) (hb:k.halves.length≤100000∧ ∀x∈k.halves,x.got.length≤100000):Sp 166 1 [tV 0 k.V] [tV 0 (.e (.agg [.d (.i k.id),.d (.b k.up),.d (.s k.log),.d (.i k.forced),.own 0 k.halves.length])),oR 0 136 6 (bM k.halves)]:=by
 refine sb Tryz.func166 rfl (sq (rT [1,2] (s2 (sq (rT [1,2,3] (s2 (sq (sq (rT [1,2,3,4] (s1 (bk (SW.loopW (n:=k.halves.length) (fun m q=> ∃i:Nat,m=k.halves.length - i∧i≤k.halves.length∧q=[tP 1 1,tP 2 2,tO 3 6 (k.halves.take (i)).length,tI 4 (i:Nat),oB 1 79 [.d (.i (k).id),.d (.b (k).up),.d (.s (k).log),.d (.i (k).forced),.d (.sl (bM (k).halves))],oB 2 79 [.d (.i 0),.d (.b false),.d (.s []),.d (.i 0),.nil],oR 6 136 6 (bM (k.halves.take (i)))]) ?_ ?_))))))))))))
 · refine wq (σ':=[tP 1 1,tP 2 2,tO 3 6 (k.halves.take (0)).length,tI 4 (0:Nat),oB 1 79 [.d (.i (k).id),.d (.b (k).up),.d (.s (k).log),.d (.i (k).forced),.d (.sl (bM (k).halves))],oB 2 79 [.d (.i 0),.d (.b false),.d (.s []),.d (.i 0),.nil],oR 6 136 6 (bM (k.halves.take (0)))]) [] [] (⟨0,rfl,aSj _,rfl⟩) ?_
   repeat' apply ai
   all_goals first|exact qx|rfl|exact qz
 rintro n s ⟨i,rfl,hi,rfl⟩
 refine sq (sq (rT [1,2,3,4,11] (s5 (cd rfl (fun c11=> ?_) fun c11=> ?_))))
 · have hi2:i<k.halves.length:=by simpa[aM] using c11
   have hg:=iD (l:=k.halves) hi2
   have hmem:k.halves.getD i .zero∈k.halves:=dU hi2
   refine sk (sq (bk (sq (rT [1,2,3,4,5] (s3 (ai (by rw[aSd,hg];exact⟨⟨by omega,by rw[aM];omega⟩,rfl⟩) (ai (by rw[aSd,hg];exact⟨aSf rfl,rfl⟩) (s2 (sq (wa [tP 1 1,tP 2 2,tO 3 6 (k.halves.take i).length,tI 4 (i:Nat),tP 5 5,oB 1 79 [.d (.i (k).id),.d (.b (k).up),.d (.s (k).log),.d (.i (k).forced),.d (.sl (bM (k).halves))],oB 2 79 [.d (.i 0),.d (.b false),.d (.s []),.d (.i 0),.nil],oB 5 136 [.d (.i (k.halves.getD i .zero).frm),.d (.i (k.halves.getD i .zero).num),.d (.i (k.halves.getD i .zero).to),.d (.i (k.halves.getD i .zero).til),.d (.i (k.halves.getD i .zero).size),.d (.sl (dM (k.halves.getD i .zero).got))],oR 6 136 6 (bM (k.halves.take i))] [] [] ?_ ?_))))))))))
   · repeat' apply ai
     all_goals first|exact qx|(rw[aSd,hg];rfl)|exact qz
   refine rT [1,2,3,4,5] (ai (by simp) (s2 (ai (by refine⟨trivial,rfl,?_,?_⟩<;>first|exact xH _|(simp only[bO,aSh,Nat.zero_add];have:=hb.2 _ hmem;show _*24≤_;omega)) (s2 (wa [tP 1 1,tP 2 2,tO 3 6 (k.halves.take i).length,tI 4 (i:Nat),tP 5 5,oB 1 79 [.d (.i (k).id),.d (.b (k).up),.d (.s (k).log),.d (.i (k).forced),.d (.sl (bM (k).halves))],oB 2 79 [.d (.i 0),.d (.b false),.d (.s []),.d (.i 0),.nil],oB 5 136 [.d (.i (k.halves.getD i .zero).frm),.d (.i (k.halves.getD i .zero).num),.d (.i (k.halves.getD i .zero).to),.d (.i (k.halves.getD i .zero).til),.d (.i (k.halves.getD i .zero).size),.d (.sl (dM (k.halves.getD i .zero).got))],oR 6 136 6 (bM (k.halves.take i))] [] [19] ?_ ?_)))))
   · repeat' apply ai
     all_goals first|exact qx|(simp[bO];done)|rfl|exact qz
   refine rT [1,2,3,4] (s2 (ai (by exact⟨by simp,aSf rfl⟩) (ai (by exact⟨rfl,aM _,by intro r hr;rw[aSs.1 hr];rfl,by simp only[aSe,aSi,aSh,aM,aSk];show _*64≤_;omega⟩) (s1 (rT [1,2,3,4] (s3 ?_))))))
   have hts:=fU (z:=dY.zero) hi2
   refine wq [] [] (⟨k.halves.length - (i+1),by omega,i+1,rfl,by omega,rfl⟩) ?_
   repeat' apply ai
   all_goals first|exact qx|exact congrArg D.i (by rw[aF (by omega)];omega)|(rw[hts,aSe];rfl)|(rw[hts];simp only[bM,List.map_append,List.map_cons,List.map_nil];rfl)|(rw[aM];done)|(simp[aM];done)|(simp[aM,aSk];omega)|exact qz
 have hi3:i=k.halves.length:=by simp[aM] at c11;omega
 subst hi3
 refine xt (sq (rT [1,2] (s3 (sq (rT [2] (s2 (rt ?_)))))))
 rw[aSv]
 exact eE _ [(0,6)] [] rfl (cY rfl (aD rfl (aD rfl (aD rfl (aD rfl (bI rfl rfl rfl aH))))) (bT rfl rfl trivial)) rfl rfl
theorem fL (k:aO) (hb:k.halves.length≤100000∧ ∀x∈k.halves,x.got.length≤100000):Ab.Spec Tryz.prog 166 1 [(.t 0,.v k.V)] [(.t 0,.v k.V)]:=
 Spec.told (rl:=[]) (bor:=[0]) (sv k hb) (cY rfl (aD rfl (aD rfl (aD rfl (aD rfl (ax rfl rfl (aM _) rfl aH))))) trivial) rfl rfl
set_option maxHeartbeats 3200000 in
theorem yO (k:aR) (hk:KB k):Sp 28 1 [tV 0 k.V] [tD 0 (.sl (bL (iT k)))]:=by
 refine sb Tryz.func28 rfl (sq (rT [1] (s2 (sq (rT [1,3] (s2 (sq (sq (rT [1,3,11] (s1 (xp (lR k hk.1 hk.2.1 hk.2.2) (ai rfl ?_))))))))))))
 refine s1 (cd rfl (fun c11=> ?_) fun c11=> ?_)
 · have hno: ¬dS k=true:=by simpa using c11
   refine sq (rT [2] (s2 (rt (eE _ [] [8] rfl (fM rfl rfl rfl ?_ (congrArg D.sl ?_) trivial) rfl rfl))))
   · rfl
   rw[mn hno];rfl
 have hok:dS k=true:=by simpa using c11
 have h6:=eC hok
 obtain⟨⟨_,ht,hn,_,_,_⟩,_⟩:=(bV k).1 hok
 have q1:=cA (k:=6) (n:=k.time.toNat) (by simp;omega)
 have q2:=cA (k:=6) (n:=k.next.toNat) (by simp;omega)
 have hnl:=aCt k
 refine sk (SW.midW (fun q=>q=[tP 1 1,tO 3 8 (zS k).length,oB 1 26 [.d (.i k.id),.d (.i k.time),.d (.i k.next),.d (.sl (aE k.held)),.d (.sl (aL k.marks)),.d (.sl (aE k.inbox))],oR 8 9 1 (bL (zS k))]) ?_ ?_)
 · refine sq (rT [1,3,15] (s3 (cd rfl (fun c15=> ?_) fun c15=> ?_)))
   · have hq:=aIs (of_decide_eq_true c15)
     refine rT [1,3] (s3 (xp (jM k.time (by omega)) (ai rfl ?_)))
     refine ai (by show _≤9223372036854775807;(try simp only[aSe,aSi,aSh]);omega) (s1 (ai (by exact⟨rfl,rfl,by simp,by show(0+1)*16≤_;omega⟩) (s1 (wq [] [] (rfl) ?_))))
     repeat' apply ai
     all_goals first|exact qx|exact congrArg D.i (by rw[aF (by omega)];omega)|(rw[hq];done)|(rw[hq];rfl)|(rw[hq,aSe];rfl)|(rw[hq,aSe];done)|(rw[hq];simp[aU];done)|(rw[hq];exact iW _ _)|(rw[aU];done)|(simp[aU];done)|exact qz
   have hq:=aLd (of_decide_eq_false c15)
   refine sk (wq [] [] (rfl) ?_)
   repeat' apply ai
   all_goals first|exact qx|exact congrArg D.i (by rw[aF (by omega)];omega)|(rw[hq];done)|(rw[hq];rfl)|(rw[hq,aSe];rfl)|(rw[hq,aSe];done)|(rw[hq];simp[aU];done)|(rw[hq];exact iW _ _)|(rw[aU];done)|(simp[aU];done)|exact qz
 rintro s rfl
 refine SW.midW (fun q=>q=[tP 1 1,tO 3 8 (zT k).length,oB 1 26 [.d (.i k.id),.d (.i k.time),.d (.i k.next),.d (.sl (aE k.held)),.d (.sl (aL k.marks)),.d (.sl (aE k.inbox))],oR 8 9 1 (bL (zT k))]) ?_ ?_
 · refine sq (rT [1,3,25] (s3 (cd rfl (fun c25=> ?_) fun c25=> ?_)))
   · have hq:=aIt (of_decide_eq_true c25)
     have hnl2: (zS k).length≤1:=by unfold zS;split<;>simp
     refine rT [1,3] (s3 (xp (jM k.next (by omega)) (ai rfl ?_)))
     refine ai (by show _≤9223372036854775807;(try simp only[aSe,aSi,aSh]);omega) (s1 (ai (by refine⟨rfl,aU _,by simp,?_⟩;skip;show(_+1)*16≤_;omega) (s1 (wq [] [] (rfl) ?_))))
     repeat' apply ai
     all_goals first|exact qx|exact congrArg D.i (by rw[aF (by omega)];omega)|(rw[hq];done)|(rw[hq];rfl)|(rw[hq,aSe];rfl)|(rw[hq,aSe];done)|(rw[hq];simp[aU];done)|(rw[hq];exact iW _ _)|(rw[aU];done)|(simp[aU];done)|exact qz
   have hq:=aLe (of_decide_eq_false c25)
   refine sk (wq [] [] (rfl) ?_)
   repeat' apply ai
   all_goals first|exact qx|exact congrArg D.i (by rw[aF (by omega)];omega)|(rw[hq];done)|(rw[hq];rfl)|(rw[hq,aSe];rfl)|(rw[hq,aSe];done)|(rw[hq];simp[aU];done)|(rw[hq];exact iW _ _)|(rw[aU];done)|(simp[aU];done)|exact qz
 rintro s rfl
 refine sq (sq (rT [1,3,4] (s1 (bk (SW.loopW (n:=k.marks.length) (fun m q=> ∃i:Nat,m=k.marks.length - i∧i≤k.marks.length∧q=[tP 1 1,tO 3 8 (sD k (i)).length,tI 4 (i:Nat),oB 1 26 [.d (.i k.id),.d (.i k.time),.d (.i k.next),.d (.sl (aE k.held)),.d (.sl (aL k.marks)),.d (.sl (aE k.inbox))],oR 8 9 1 (bL (sD k (i)))]) ?_ ?_)))))
 · refine wq (σ':=[tP 1 1,tO 3 8 (sD k (0)).length,tI 4 (0:Nat),oB 1 26 [.d (.i k.id),.d (.i k.time),.d (.i k.next),.d (.sl (aE k.held)),.d (.sl (aL k.marks)),.d (.sl (aE k.inbox))],oR 8 9 1 (bL (sD k (0)))]) [] [] (⟨0,rfl,aSj _,rfl⟩) ?_
   repeat' apply ai
   all_goals first|exact qx|rfl|(rw[aFk];done)|(rw[aB];done)|(rw[aA];done)|exact qz
 rintro n s ⟨i,rfl,hi,rfl⟩
 refine sq (sq (rT [1,3,4,37] (s5 (cd rfl (fun c37=> ?_) fun c37=> ?_))))
 · have hi2:i<k.marks.length:=by simp[aB] at c37;omega
   have hg:=bR (l:=k.marks) hi2
   have hms:=aFq hok hi2
   have hml:=aCu k i
   have w1:=cA (k:=6) (n:=(k.marks.getD i .zero).frm.toNat) (by show _<10000000;omega)
   have w2:=cA (k:=6) (n:=(k.marks.getD i .zero).num.toNat) (by show _<10000000;omega)
   have w3:=cA (k:=6) (n:=(k.marks.getD i .zero).til.toNat) (by show _<10000000;omega)
   refine sk (sq (bk (sq (rT [1,3,4,5] (s3 (ai (by rw[aSd,hg];exact⟨⟨by omega,by rw[aB];omega⟩,rfl⟩) (ai (by rw[aSd,hg];exact⟨aSf rfl,rfl⟩) (s2 (wa [tP 1 1,tO 3 8 (sD k i).length,tI 4 (i:Nat),tP 5 5,oB 1 26 [.d (.i k.id),.d (.i k.time),.d (.i k.next),.d (.sl (aE k.held)),.d (.sl (aL k.marks)),.d (.sl (aE k.inbox))],oB 5 39 [.d (.i ((k.marks.getD i .zero)).frm),.d (.i ((k.marks.getD i .zero)).num),.d (.i ((k.marks.getD i .zero)).til)],oR 8 9 1 (bL (sD k i))] [] [] ?_ ?_)))))))))
   · repeat' apply ai
     all_goals first|exact qx|(rw[aSd,hg];rfl)|exact qz
   refine rD [1,3,4] (s3 (xp (jM (k.marks.getD i .zero).frm (by omega)) (ai rfl ?_)))
   refine ai (by show _≤9223372036854775807;(try simp only[aSe,aSi,aSh]);omega) (ai (by show _≤9223372036854775807;(try simp only[aSe,aSi,aSh]);omega) (s2 (xp (jM (k.marks.getD i .zero).num (by omega)) (ai rfl ?_))))
   refine ai (by show _≤9223372036854775807;(try simp only[aSe,aSi,aSh]);omega) (ai (by show _≤9223372036854775807;(try simp only[aSe,aSi,aSh]);omega) (s2 (xp (jM (k.marks.getD i .zero).til (by omega)) (ai rfl ?_))))
   refine ai (by show _≤9223372036854775807;(try simp only[aSe,aSi,aSh]);omega) (s1 (ai (by refine⟨rfl,aU _,by simp,?_⟩;skip;show(_+1)*16≤_;omega) (s1 (ai (by kernel_rfl) (rT [1,3,4] (s3 ?_))))))
   have hq:=aFn hi2
   refine wq [] [] (⟨k.marks.length - (i+1),by omega,i+1,rfl,by omega,rfl⟩) ?_
   repeat' apply ai
   all_goals first|exact qx|exact congrArg D.i (by rw[aF (by omega)];omega)|(rw[hq];done)|(rw[hq];rfl)|(rw[hq,aSe];rfl)|(rw[hq,aSe];done)|(rw[hq];simp[aU];done)|(rw[hq];exact iW _ _)|(rw[aU];done)|(simp[aU];done)|exact qz
 have hi3:i=k.marks.length:=by simp[aB] at c37;omega
 subst hi3
 clear hi
 refine xt (sq (sq (rT [1,3,6] (s1 (bk (SW.loopW (n:=k.held.length) (fun m q=> ∃i:Nat,m=k.held.length - i∧i≤k.held.length∧q=[tP 1 1,tO 3 8 (uQ k (i)).length,tI 6 (i:Nat),oB 1 26 [.d (.i k.id),.d (.i k.time),.d (.i k.next),.d (.sl (aE k.held)),.d (.sl (aL k.marks)),.d (.sl (aE k.inbox))],oR 8 9 1 (bL (uQ k (i)))]) ?_ ?_))))))
 · refine wq (σ':=[tP 1 1,tO 3 8 (uQ k (0)).length,tI 6 (0:Nat),oB 1 26 [.d (.i k.id),.d (.i k.time),.d (.i k.next),.d (.sl (aE k.held)),.d (.sl (aL k.marks)),.d (.sl (aE k.inbox))],oR 8 9 1 (bL (uQ k (0)))]) [] [] (⟨0,rfl,aSj _,rfl⟩) ?_
   repeat' apply ai
   all_goals first|exact qx|rfl|(rw[aFl];done)|(rw[aB];done)|(rw[aA];done)|exact qz
 rintro n s ⟨i,rfl,hi,rfl⟩
 refine sq (sq (rT [1,3,6,66] (s5 (cd rfl (fun c66=> ?_) fun c66=> ?_))))
 · have hi2:i<k.held.length:=by simp[aA] at c66;omega
   have hg:=aQ (l:=k.held) hi2
   have hmem: (k.held.getD i .zero)∈k.held:=dU hi2
   have hnt:=hk.2.1 _ hmem
   have hwl:=mP (k.held.getD i .zero)
   have hml:=aCv k i
   refine sk (sq (bk (rT [1,3,6] (s4 (ai (by rw[aSd,hg];exact⟨⟨by omega,by rw[aA];omega⟩,rfl⟩) (ai (by rw[aSd,hg];exact⟨aSf rfl,rfl⟩) (xp (gO (k.held.getD i .zero) hnt) (ai (by rw[aSd,hg];rfl) ?_))))))))
   refine ai (by show _≤9223372036854775807;(try simp only[aSe,aSi,aSh]);omega) (s1 (ai (by refine⟨rfl,aU _,by simp,?_⟩;skip;show(_+1)*16≤_;omega) (s1 (rT [1,3,6] (s3 ?_)))))
   have hq:=aFo hi2
   refine wq [] [] (⟨k.held.length - (i+1),by omega,i+1,rfl,by omega,rfl⟩) ?_
   repeat' apply ai
   all_goals first|exact qx|exact congrArg D.i (by rw[aF (by omega)];omega)|(rw[hq];done)|(rw[hq];rfl)|(rw[hq,aSe];rfl)|(rw[hq,aSe];done)|(rw[hq];simp[aU];done)|(rw[hq];exact iW _ _)|(rw[aU];done)|(simp[aU];done)|exact qz
 have hi3:i=k.held.length:=by simp[aA] at c66;omega
 subst hi3
 clear hi
 refine xt (sq (sq (rT [1,3,7] (s1 (bk (SW.loopW (n:=k.inbox.length) (fun m q=> ∃i:Nat,m=k.inbox.length - i∧i≤k.inbox.length∧q=[tP 1 1,tO 3 8 (uR k (i)).length,tI 7 (i:Nat),oB 1 26 [.d (.i k.id),.d (.i k.time),.d (.i k.next),.d (.sl (aE k.held)),.d (.sl (aL k.marks)),.d (.sl (aE k.inbox))],oR 8 9 1 (bL (uR k (i)))]) ?_ ?_))))))
 · refine wq (σ':=[tP 1 1,tO 3 8 (uR k (0)).length,tI 7 (0:Nat),oB 1 26 [.d (.i k.id),.d (.i k.time),.d (.i k.next),.d (.sl (aE k.held)),.d (.sl (aL k.marks)),.d (.sl (aE k.inbox))],oR 8 9 1 (bL (uR k (0)))]) [] [] (⟨0,rfl,aSj _,rfl⟩) ?_
   repeat' apply ai
   all_goals first|exact qx|rfl|(rw[aFm];done)|(rw[aB];done)|(rw[aA];done)|exact qz
 rintro n s ⟨i,rfl,hi,rfl⟩
 refine sq (sq (rT [1,3,7,83] (s5 (cd rfl (fun c83=> ?_) fun c83=> ?_))))
 · have hi2:i<k.inbox.length:=by simp[aA] at c83;omega
   have hg:=aQ (l:=k.inbox) hi2
   have hmem: (k.inbox.getD i .zero)∈k.inbox:=dU hi2
   have hnt:=hk.2.2 _ hmem
   have hwl:=mP (k.inbox.getD i .zero)
   have hml:=aCw k i
   refine sk (sq (bk (rT [1,3,7] (s4 (ai (by rw[aSd,hg];exact⟨⟨by omega,by rw[aA];omega⟩,rfl⟩) (ai (by rw[aSd,hg];exact⟨aSf rfl,rfl⟩) (xp (gO (k.inbox.getD i .zero) hnt) (ai (by rw[aSd,hg];rfl) ?_))))))))
   refine ai (by show _≤9223372036854775807;(try simp only[aSe,aSi,aSh]);omega) (s1 (ai (by refine⟨rfl,aU _,by simp,?_⟩;skip;show(_+1)*16≤_;omega) (s1 (rT [1,3,7] (s3 ?_)))))
   have hq:=aFp hi2
   refine wq [] [] (⟨k.inbox.length - (i+1),by omega,i+1,rfl,by omega,rfl⟩) ?_
   repeat' apply ai
   all_goals first|exact qx|exact congrArg D.i (by rw[aF (by omega)];omega)|(rw[hq];done)|(rw[hq];rfl)|(rw[hq,aSe];rfl)|(rw[hq,aSe];done)|(rw[hq];simp[aU];done)|(rw[hq];exact iW _ _)|(rw[aU];done)|(simp[aU];done)|exact qz
 have hi3:i=k.inbox.length:=by simp[aA] at c83;omega
 subst hi3
 clear hi
 refine xt (sq (rT [2] (s2 (rt (eE _ [] [8] rfl (fM rfl rfl rfl ?_ (congrArg D.sl ?_) trivial) rfl rfl)))))
 · exact aU _
 rw[gx hok]
set_option maxHeartbeats 1600000 in
theorem lK (k:aO) (rec:List UInt8) (fc:Bool) (hok:bF k=true) (hrec:rec.length≤900000):Sp 169 3 [tV 0 k.V,tD 1 (.s rec),tB 2 fc] [tV 0 (.tup [.agg [.d (.i ((fF k rec fc).1).id),.d (.b ((fF k rec fc).1).up),.d (.s ((fF k rec fc).1).log),.d (.i ((fF k rec fc).1).forced),.d (.sl (bM ((fF k rec fc).1).halves))],.c (.d (.b (fF k rec fc).2))])]:=by
 have hlg:=fV hok
 have hkb:=tY hok
 have hrs:=zU (k:=(aZ k).1)
 have hsk:eV k.log k.forced=true:=(gM hlg.1).2.1
 have hpl:=rh (k:=k) (by omega)
 refine sb Tryz.func169 rfl (sq (rT [1,2,3,6] (s3 (sq (rT [1,2,3,6,8] (s1 (xp (gE k (by omega)) (ai rfl ?_))))))))
 refine s6 (sq (rT [1,2,3,6,8,11] (s2 (xp (cp (aZ k).1 rec hkb hrec) (ai rfl ?_)))))
 refine s6 (sq (sq (rT [1,2,3,6,8,26] (s2 (cd rfl (fun c26=> ?_) fun c26=> ?_)))))
 · have h1: ¬(bY (aZ k).1 rec).2=true:=by rw[← bj];exact rO c26
   refine sq (rT [6,7] (s3 (rt ?_)))
   have hr:fF k rec fc=(k,false):=by rw[fF,aGw h1];rfl
   refine bN rfl rfl ?_
   rw[hr]
   rfl
 have h1: (bY (aZ k).1 rec).2=true:=by rw[← bj];exact jL c26
 refine sk (sq (rT [1,2,3,6,8,12,13] (s3 (xp (yM k.log k.forced rec (by omega) hrec) (ai rfl ?_)))))
 refine s6 (sq (sq (rT [1,2,3,6,8,12,13,36] (s2 (cd rfl (fun c36=> ?_) fun c36=> ?_)))))
 · have h2: ¬(cB k.log k.forced rec).2=true:=rO c36
   refine sq (rD [1,2,3,6,12] (s3 (xp (yO (aZ k).1 hkb) (ai rfl ?_))))
   refine xp (wC k.log k.forced (iT (aZ k).1) (by omega) (by omega) (fun r hr=>by have:=hrs.2 r hr;omega)) (ai rfl ?_)
   refine s4 (ai (by kernel_rfl) (rT [2,3,6,12,13] (s2 (xp (yM (dH k).1.1 (dH k).1.2 rec hpl hrec) (ai rfl ?_)))))
   refine s5 (sq (sq (rT [2,3,6,12,52] (s2 (cd rfl (fun c52=> ?_) fun c52=> ?_)))))
   · refine sq (rT [6,7] (s3 (rt ?_)))
     first
     |exact absurd (c36.symm.trans c52) (by decide)
     |(have hr:=(show fF k rec fc=(k,false) by rw[fF,ri hsk h1 h2 (rO c52)];rfl)
       refine bN rfl rfl ?_
       rw[hr]
       rfl)
   refine sk (sq (sq (rT [3,6,12,54] (s1 (cd rfl (fun c54=> ?_) fun c54=> ?_)))))
   · obtain rfl:=c54
     refine rT [3,6,12] (s1 ?_)
     first
     |refine fd (iP (cB (dH k).1.1 (dH k).1.2 rec).1.1 (cB (dH k).1.1 (dH k).1.2 rec).1.2 (nB hpl)) rfl rfl rfl rfl rfl rfl rfl rfl ?_
     |refine fd (iP (cB k.log k.forced rec).1.1 (cB k.log k.forced rec).1.2 (nB (by omega))) rfl rfl rfl rfl rfl rfl rfl rfl ?_
     refine s1 (sq (rT [3,6] (s3 (sq (rT [6,7] (s3 (rt ?_)))))))
     have hlr:oN k rec=(lA k (cB (dH k).1.1 (dH k).1.2 rec).1,true)∨oN k rec=(lA k (cB k.log k.forced rec).1,true):=by
      first
      |exact .inl (mQ hsk h1 h2 (jL c52))
      |exact .inr (rN h1 h2)
     first
     |(have hr:=mQ hsk h1 h2 (jL c52)
       refine bN rfl rfl ?_
       rw[fF,hr]
       rfl)
     |(have hr:=rN h1 h2
       refine bN rfl rfl ?_
       rw[fF,hr]
       rfl)
   obtain rfl:=c54
   refine sk (sq (rT [3,6] (s3 (sq (rT [6,7] (s3 (rt ?_)))))))
   have hlr:oN k rec=(lA k (cB (dH k).1.1 (dH k).1.2 rec).1,true)∨oN k rec=(lA k (cB k.log k.forced rec).1,true):=by
    first
    |exact .inl (mQ hsk h1 h2 (jL c52))
    |exact .inr (rN h1 h2)
   first
   |(have hr:=mQ hsk h1 h2 (jL c52)
     refine bN rfl rfl ?_
     rw[fF,hr]
     rfl)
   |(have hr:=rN h1 h2
     refine bN rfl rfl ?_
     rw[fF,hr]
     rfl)
 have h2: (cB k.log k.forced rec).2=true:=jL c36
 refine sk (sq (sq (rT [2,3,6,12,52] (s2 (cd rfl (fun c52=> ?_) fun c52=> ?_)))))
 · refine sq (rT [6,7] (s3 (rt ?_)))
   first
   |exact absurd (c36.symm.trans c52) (by decide)
   |(have hr:=(show fF k rec fc=(k,false) by rw[fF,ri hsk h1 h2 (rO c52)];rfl)
     refine bN rfl rfl ?_
     rw[hr]
     rfl)
 refine sk (sq (sq (rT [3,6,12,54] (s1 (cd rfl (fun c54=> ?_) fun c54=> ?_)))))
 · obtain rfl:=c54
   refine rT [3,6,12] (s1 ?_)
   first
   |refine fd (iP (cB (dH k).1.1 (dH k).1.2 rec).1.1 (cB (dH k).1.1 (dH k).1.2 rec).1.2 (nB hpl)) rfl rfl rfl rfl rfl rfl rfl rfl ?_
   |refine fd (iP (cB k.log k.forced rec).1.1 (cB k.log k.forced rec).1.2 (nB (by omega))) rfl rfl rfl rfl rfl rfl rfl rfl ?_
   refine s1 (sq (rT [3,6] (s3 (sq (rT [6,7] (s3 (rt ?_)))))))
   have hlr:oN k rec=(lA k (cB (dH k).1.1 (dH k).1.2 rec).1,true)∨oN k rec=(lA k (cB k.log k.forced rec).1,true):=by
    first
    |exact .inl (mQ hsk h1 h2 (jL c52))
    |exact .inr (rN h1 h2)
   first
   |(have hr:=mQ hsk h1 h2 (jL c52)
     refine bN rfl rfl ?_
     rw[fF,hr]
     rfl)
   |(have hr:=rN h1 h2
     refine bN rfl rfl ?_
     rw[fF,hr]
     rfl)
 obtain rfl:=c54
 refine sk (sq (rT [3,6] (s3 (sq (rT [6,7] (s3 (rt ?_)))))))
 have hlr:oN k rec=(lA k (cB (dH k).1.1 (dH k).1.2 rec).1,true)∨oN k rec=(lA k (cB k.log k.forced rec).1,true):=by
  first
  |exact .inl (mQ hsk h1 h2 (jL c52))
  |exact .inr (rN h1 h2)
 first
 |(have hr:=mQ hsk h1 h2 (jL c52)
   refine bN rfl rfl ?_
   rw[fF,hr]
   rfl)
 |(have hr:=rN h1 h2
   refine bN rfl rfl ?_
   rw[fF,hr]
   rfl)
set_option maxHeartbeats 1600000 in
theorem ip (k:aO) (hl:k.log.length≤140737488355328):Sp 158 1 [tV 0 k.V] [tV 0 (.tup [.agg [.d (.i ((eD k).1).id),.d (.b ((eD k).1).up),.d (.s ((eD k).1).log),.d (.i ((eD k).1).forced),.d (.sl (bM ((eD k).1).halves))],.c (.d (.b (eD k).2))])]:=by
 refine sb Tryz.func158 rfl (sq (rT [1,2,19,20,21] (s3 (sq (sq (rT [1,2,8,19,20,21] (s1 (xp (fP k hl) (ai rfl ?_)))))))))
 refine s1 (cd rfl (fun c8=> ?_) fun c8=> ?_)
 · have hno: ¬bF k=true:=rO c8
   refine sq (rT [2,3] (s3 (rt ?_)))
   have hr:eD k=(.zero,false):=rj hno
   rw[hr]
   exact rq [] [] rfl qz
 have hok:bF k=true:=jL c8
 have hlg:=fV hok
 have hK:=kK hok
 have h6:=eC (gN hok)
 have hkb:=tY hok
 have hsk:eV k.log k.forced=true:=(gM hlg.1).2.1
 obtain⟨⟨_,htm,hnx,_⟩,_⟩:=(bV _).1 (gN hok)
 have hrl:=mr (n:=((aZ k).1.time+1).toNat) (by omega)
 have hdl:=cA (k:=6) (n:=((aZ k).1.time+1).toNat) (by show _<10000000;omega)
 have hw:wrap64 ((aZ k).1.time+1)=(aZ k).1.time+1:=aF (by omega)
 refine sk (sq (rT [1,2,4,19,20,21] (s1 (xp (gE k (by omega)) (ai rfl ?_)))))
 refine s6 (sq (sq (rT [1,2,4,22] (s4 (y3 (ai pk (cd rfl (fun c22=> ?_) fun c22=> ?_)))))))
 · have hr0:eD k=(k,false):=by
    by_cases hu:k.up=true
    · rw[hu] at c22
      exact nb hok (of_decide_eq_true (by simpa using c22))
    · exact yG hok hu
   refine sq (rT [2,3] (s1 (xp (fL k (⟨by omega,fun x hx=>by have:=hlg.2.2.2.2.2 x hx;omega⟩)) (ai rfl ?_))))
   refine s2 (rt ?_)
   have hr:=hr0
   refine bN rfl rfl ?_
   rw[hr]<;>rfl
 have hu:k.up=true:=by
  cases hq:k.up with
  |true=>rfl
  |false=>rw[hq] at c22;cases c22
 refine sk (sq (rD [2,3] (s1 (xp (fL k (⟨by omega,fun x hx=>by have:=hlg.2.2.2.2.2 x hx;omega⟩)) (ai rfl ?_)))))
 refine s3 (xp (jM ((aZ k).1.time+1) (by omega)) (ai (by rw[hw];rfl) ?_))
 refine ai (by show _≤9223372036854775807;(try simp only[aSe,aSi,aSh]);omega) (xp (lK k (nT ((aZ k).1.time+1).toNat) true hok (by omega)) (ai rfl ?_))
 refine s4 (ai (by kernel_rfl) (rt ?_))
 have hr:=ci hok hu
 refine bN rfl rfl ?_
 rw[hr]<;>rfl
set_option maxHeartbeats 1600000 in
theorem lf (k:aO) (tu til:Int) (tx:List UInt8) (hl:k.log.length≤140737488355328) (htx:tx.length≤140737488355328):Sp 170 4 [tV 0 k.V,tI 1 tu,tI 2 til,tD 3 (.s tx)] [tV 0 (.tup [.agg [.d (.i ((dV k tu til tx).1).id),.d (.b ((dV k tu til tx).1).up),.d (.s ((dV k tu til tx).1).log),.d (.i ((dV k tu til tx).1).forced),.d (.sl (bM ((dV k tu til tx).1).halves))],.c (.d (.i (dV k tu til tx).2))])]:=by
 refine sb Tryz.func170 rfl (sq (rT [1,2,3,4,8,37,38] (s3 (sq (sq (rT [1,2,3,4,8,17,37,38] (s1 (xp (fP k hl) (ai rfl ?_)))))))))
 refine s1 (cd rfl (fun c17=> ?_) fun c17=> ?_)
 · have hno: ¬bF k=true:=rO c17
   refine sq (rT [8,9] (s3 (rt ?_)))
   have hr:dV k tu til tx=(.zero,0):=uh hno
   rw[hr]
   exact rq [] [] rfl qz
 have hok:bF k=true:=jL c17
 have hlg:=fV hok
 have hK:=kK hok
 have h6:=eC (gN hok)
 have hkb:=tY hok
 have hsk:eV k.log k.forced=true:=(gM hlg.1).2.1
 obtain⟨⟨_,htm,hnx,_⟩,_⟩:=(bV _).1 (gN hok)
 have hnl:=mP (nU k tu til tx)
 have hrl:=uS jU (nU k tu til tx)
 have hwo:jU.length=3:=rfl
 refine sk (sq (rT [1,2,3,4,8,10,37,38] (s1 (xp (gE k (by omega)) (ai rfl ?_)))))
 refine s6 (sq (rT [4,8,10,12,37,38] (s8 (xp (gO (nU k tu til tx) htx) (ai rfl ?_)))))
 refine s1 (sq (sq (rT [4,8,10,12,39] (s4 (y2 (ai pk (cd rfl (fun c39=> ?_) fun c39=> ?_)))))))
 · have hr0:dV k tu til tx=(k,0):=by
    by_cases hu:k.up=true
    · rw[hu] at c39
      exact rn hok (by simpa using c39)
    · exact rm hok hu
   refine sq (rT [8,9] (s1 (xp (fL k (⟨by omega,fun x hx=>by have:=hlg.2.2.2.2.2 x hx;omega⟩)) (ai rfl ?_))))
   refine s2 (rt ?_)
   have hr:=hr0
   refine bN rfl rfl ?_
   rw[hr]<;>rfl
 have hu:k.up=true:=by
  cases hq:k.up with
  |true=>rfl
  |false=>rw[hq] at c39;cases c39
 refine sk (sq (rT [4,8,10,13,14] (s1 (xp (fL k (⟨by omega,fun x hx=>by have:=hlg.2.2.2.2.2 x hx;omega⟩)) (ai rfl ?_)))))
 refine s1 (ai (by show _≤9223372036854775807;(try simp only[aSe,aSi,aSh]);omega) (xp (lK k (eX jU (nU k tu til tx)) true hok (by omega)) (ai rfl ?_)))
 refine s6 (sq (sq (rT [4,8,10,13,51] (s2 (cd rfl (fun c51=> ?_) fun c51=> ?_)))))
 · have hq: ¬(iZ k (eX jU (nU k tu til tx))).2=true:=rO c51
   have hr0:dV k tu til tx=_:=gz hok hq
   refine sq (rT [8,9] (s1 (xp (fL k (⟨by omega,fun x hx=>by have:=hlg.2.2.2.2.2 x hx;omega⟩)) (ai rfl ?_))))
   refine s2 (rt ?_)
   have hr:=hr0
   refine bN rfl rfl ?_
   rw[hr]<;>rfl
 have hq: (iZ k (eX jU (nU k tu til tx))).2=true:=jL c51
 refine sk (sq (rD [8,9] (s5 (ai (by kernel_rfl) (rt ?_)))))
 have hr:=zx hok hu hq
 refine bN rfl rfl ?_
 rw[hr]<;>rfl
set_option maxHeartbeats 1600000 in
theorem lg (k:aO) (f n:Int) (hl:k.log.length≤140737488355328):Sp 162 3 [tV 0 k.V,tI 1 f,tI 2 n] [tV 0 (.tup [.agg [.d (.i ((cH k f n).1).id),.d (.b ((cH k f n).1).up),.d (.s ((cH k f n).1).log),.d (.i ((cH k f n).1).forced),.d (.sl (bM ((cH k f n).1).halves))],.agg [.d (.i ((cH k f n).2.1).frm),.d (.i ((cH k f n).2.1).num),.d (.i ((cH k f n).2.1).to),.d (.i ((cH k f n).2.1).til),.d (.s ((cH k f n).2.1).text)],.c (.d (.b (cH k f n).2.2))])]:=by
 refine sb Tryz.func162 rfl (sq (rT [1,2,3,6,7,33,34] (s4 (sq (sq (rT [1,2,3,6,7,16,33,34] (s1 (xp (fP k hl) (ai rfl ?_)))))))))
 refine s1 (cd rfl (fun c16=> ?_) fun c16=> ?_)
 · have hno: ¬bF k=true:=rO c16
   refine sq (rT [6,7,8] (s5 (rt ?_)))
   have hr:cH k f n=(.zero,.zero,false):=ui hno
   rw[hr]
   exact rq [] [] rfl qz
 have hok:bF k=true:=jL c16
 have hlg:=fV hok
 have hK:=kK hok
 have h6:=eC (gN hok)
 have hkb:=tY hok
 have hsk:eV k.log k.forced=true:=(gM hlg.1).2.1
 obtain⟨⟨_,htm,hnx,_⟩,_⟩:=(bV _).1 (gN hok)
 refine sk (sq (rT [1,2,3,6,7,9,33,34] (s1 (xp (gE k (by omega)) (ai rfl ?_)))))
 refine s6 (sq (rT [1,2,3,6,7,9,11,33,34] (s4 (xp (fK (aZ k).1.inbox f n (by have:=h6.1;omega)) (ai rfl ?_)))))
 refine s1 (sq (sq (rT [1,2,3,6,7,9,11,35] (s4 (y2 (ai pk (cd rfl (fun c35=> ?_) fun c35=> ?_)))))))
 · have hcn: ¬(k.up=true∧0≤aX (aZ k).1.inbox f n):=by
    rintro⟨hu,hp⟩
    rw[hu,decide_eq_false (show ¬aX (aZ k).1.inbox f n<0 by omega)] at c35
    cases c35
   have hr0:=zy hok hcn
   refine sq (rT [6,7,8] (s1 (xp (fL k (⟨by omega,fun x hx=>by have:=hlg.2.2.2.2.2 x hx;omega⟩)) (ai rfl ?_))))
   refine s4 (rt ?_)
   have hr:=hr0
   refine bN rfl rfl ?_
   rw[hr]<;>rfl
 have hcy:k.up=true∧0≤aX (aZ k).1.inbox f n:=by
  have h9:=c35
  skip
  cases hu:k.up with
  |false=>rw[hu] at h9;cases h9
  |true=>
   rw[hu] at h9
   refine⟨rfl,?_⟩
   by_cases hp:aX (aZ k).1.inbox f n<0
   · rw[decide_eq_true hp] at h9;cases h9
   · omega
 obtain⟨j,hj,hjl,hjb⟩:=rr hok hcy.2
 have hg:=aQ (l:=(aZ k).1.inbox) hjl
 have her:xM k f n=qU lY ⟨f,n,((aZ k).1.inbox.getD j .zero).til⟩:=by rw[xM,hj,aSd]
 have hrl:=mq (w:=lY) (m:=⟨f,n,((aZ k).1.inbox.getD j .zero).til⟩) hjb
 have hwe:lY.length=3:=rfl
 have d1:=cA (k:=6) (n:=f.toNat) (by show _<10000000;omega)
 have d2:=cA (k:=6) (n:=n.toNat) (by show _<10000000;omega)
 have d3:=cA (k:=6) (n:=((aZ k).1.inbox.getD j .zero).til.toNat) (by show _<10000000;omega)
 refine sk (sq (rD [3,6,7,9,11,12,13] (s1 (xp (fL k (⟨by omega,fun x hx=>by have:=hlg.2.2.2.2.2 x hx;omega⟩)) (ai rfl ?_)))))
 refine s5 (ai (by rw[hj,aSd,hg];exact⟨⟨by omega,by rw[aA];omega⟩,rfl⟩) (s1 (ai (by rw[hj,aSd,hg];exact⟨aSf rfl,rfl⟩) (xp (yN f n ((aZ k).1.inbox.getD j .zero).til hjb) (ai (by rw[hj,aSd,hg];rfl) ?_)))))
 refine ai (by show _≤9223372036854775807;(try simp only[aSe,aSi,aSh]);omega) (xp (lK k (qU lY ⟨f,n,((aZ k).1.inbox.getD j .zero).til⟩) true hok (by omega)) (ai rfl ?_))
 refine s6 (ai (by kernel_rfl) (sq (sq (rT [3,6,7,9,11,12,56] (s2 (cd rfl (fun c56=> ?_) fun c56=> ?_))))))
 · have hq: ¬(iZ k (xM k f n)).2=true:=by rw[her];exact rO c56
   have hr0:=ro hok hcy hq
   refine sq (rT [6,7,8] (s1 (xp (fL k (⟨by omega,fun x hx=>by have:=hlg.2.2.2.2.2 x hx;omega⟩)) (ai rfl ?_))))
   refine s4 (rt ?_)
   have hr:=hr0
   refine bN rfl rfl ?_
   rw[hr]<;>rfl
 have hq: (iZ k (xM k f n)).2=true:=by rw[her];exact jL c56
 have hr0:=aAa hok hcy hq
 rw[her,hj,aSd] at hr0
 refine sk (sq (rD [6,7,8] (s4 (ai (by rw[hj,aSd,hg];exact⟨⟨by omega,by rw[aA];omega⟩,rfl⟩) (ai (by rw[hj,aSd,hg];exact⟨aSf rfl,rfl⟩) (s3 (ai (by kernel_rfl) (rt (bN rfl rfl ?_)))))))))
 rw[hr0,hj,aSd,hg]
 rfl
set_option maxHeartbeats 1600000 in
theorem iq (k:aO) (hl:k.log.length≤140737488355328):Sp 163 1 [tV 0 k.V] [tV 0 (.tup [.agg [.d (.i ((dX k).1).id),.d (.b ((dX k).1).up),.d (.s ((dX k).1).log),.d (.i ((dX k).1).forced),.d (.sl (bM ((dX k).1).halves))],.c (.d (.b (dX k).2))])]:=by
 refine sb Tryz.func163 rfl (sq (rT [1,2,32,33] (s3 (sq (sq (rT [1,2,11,32,33] (s1 (xp (fP k hl) (ai rfl ?_)))))))))
 refine s1 (cd rfl (fun c11=> ?_) fun c11=> ?_)
 · have hno: ¬bF k=true:=rO c11
   refine sq (rT [2,3] (s3 (rt ?_)))
   have hr:dX k=(.zero,false):=ru hno
   rw[hr]
   exact rq [] [] rfl qz
 have hok:bF k=true:=jL c11
 have hlg:=fV hok
 have hK:=kK hok
 have h6:=eC (gN hok)
 have hkb:=tY hok
 have hsk:eV k.log k.forced=true:=(gM hlg.1).2.1
 obtain⟨⟨_,htm,hnx,_⟩,_⟩:=(bV _).1 (gN hok)
 have hrs:=zU (k:=(aZ k).1)
 refine sk (sq (rT [1,2,4,32,33] (s1 (xp (fL k (⟨by omega,fun x hx=>by have:=hlg.2.2.2.2.2 x hx;omega⟩)) (ai rfl ?_)))))
 refine s2 (sq (rT [1,2,4,5,32,33] (s1 (xp (gE k (by omega)) (ai rfl ?_)))))
 refine s6 (sq (rD [1,2,4,7,8,32,33] (s3 (xp (yO (aZ k).1 hkb) (ai rfl ?_)))))
 refine xp (wC k.log k.forced (iT (aZ k).1) (by omega) (by have:=hrs.1;omega) (fun r hr=>by have:=hrs.2 r hr;omega)) (ai rfl ?_)
 refine s6 (ai (by kernel_rfl) (sq (sq (rT [2,4,7,34] (s4 (y2 (ai pk (cd rfl (fun c34=> ?_) fun c34=> ?_))))))))
 · have hr0:dX k=(k,false):=by
    by_cases hu:k.up=true
    · rw[hu] at c34
      exact uj hok (rO c34)
    · exact nc hok hu
   refine sq (rT [2,3] (s3 (rt ?_)))
   have hr:=hr0
   refine bN rfl rfl ?_
   rw[hr]<;>rfl
 have hu:k.up=true:=by
  cases hq:k.up with
  |true=>rfl
  |false=>rw[hq] at c34;cases c34
 have hp: (dH k).2=true:=by
  rw[hu] at c34
  exact jL c34
 refine sk (sq (rT [2,4] (s3 (sq (rT [2,3] (s3 (rt ?_)))))))
 have hr:=uk hok hu hp
 refine bN rfl rfl ?_
 rw[hr]<;>rfl
set_option maxHeartbeats 1600000 in
theorem vg (b:Int) (m:gI) (kn:List (List UInt8)) (hk:yR b kn) (hm:m.data.length=4):Sp 193 3 [tI 0 b,tV 1 m.V,tD 2 (.sl (bL kn))] [tV 0 (.tup [.c (.own 0 (iG kn (cM b m.num)).length),.c (.d (.s (pH kn m.data (cM b m.num))))]),oR 0 3 1 (cR (iG kn (cM b m.num)))]:=by
 refine sb Tryz.func193 rfl (sq (rT [0,2,4] (s3 (sq (rT [0,2,4,8] (s2 (sq (rT [0,2,4,8,9] (s3 (sq (rT [2,8,9,10] (s3 (xp (il b m.num) (ai rfl ?_))))))))))))))
 refine s1 (sq (sq (rT [2,8,9,10,11] (s1 (bk (SW.loopW (n:=(cM b m.num).length) (fun q s=> ∃i:Nat,q=(cM b m.num).length - i∧i≤(cM b m.num).length∧s=[tD 2 (.sl (bL kn)),tO 8 12 (iG kn ((cM b m.num).take i)).length,tD 9 (.s (pH kn m.data ((cM b m.num).take i))),tD 10 (.sl (cR (cM b m.num))),tI 11 (i:Nat),oR 12 3 1 (cR (iG kn ((cM b m.num).take i)))]) ?_ ?_))))))
 · refine wq (σ':=[tD 2 (.sl (bL kn)),tO 8 12 (iG kn ((cM b m.num).take 0)).length,tD 9 (.s (pH kn m.data ((cM b m.num).take 0))),tD 10 (.sl (cR (cM b m.num))),tI 11 (0:Nat),oR 12 3 1 (cR (iG kn ((cM b m.num).take 0)))]) [] [] (⟨0,rfl,aSj _,rfl⟩) ?_
   repeat' apply ai
   all_goals first|exact qx|rfl|exact qz
 rintro n s ⟨i,rfl,hi,rfl⟩
 refine sq (sq (rT [2,8,9,10,11,22] (s4 (cd rfl (fun c22=> ?_) fun c22=> ?_))))
 · have hi2:i< (cM b m.num).length:=by simp[cD] at c22;omega
   have hml:=gp b m.num
   have hts:=fU (z:=(0:Int)) hi2
   have hio:=dF (l:=(cM b m.num)) (i:=i) hi2
   have hjr:=uO ((cM b m.num).getD i 0) (dU hi2)
   have hkl:=hk.1
   have hj3: ((cM b m.num).getD i 0)< (kn.length:Int):=by omega
   have hv:=aM2 (l:=kn) hjr.1 hj3
   have hat:=hk.at (j:=((cM b m.num).getD i 0).toNat) (by omega)
   refine sk (sq (bk (sq (rT [2,8,9,10,11,32] (s3 (ai (by rw[aSd,hio];exact⟨⟨by omega,by rw[cD];omega⟩,rfl⟩) (ai (by rw[aSd,hio];exact⟨aSf rfl,rfl⟩) (ai (by rw[aSd,hio];exact ixS hjr.1 hj3) (ai (by rw[aSd,hio];exact ldS hjr.1 hj3) (s1 (cd rfl (fun c32=> ?_) fun c32=> ?_)))))))))))
   · have hu:unk kn ((cM b m.num).getD i 0)=true:=by
      have h9:=c32
      rw[aSd,hio] at h9
      have h9: (toS (((bL kn).getD ((cM b m.num).getD i 0).toNat []).getD 0 (.i 0))==[])=true:=h9
      rw[hv] at h9
      unfold unk;rw[beq_iff_eq.1 h9];rfl
     have hL:=rv (ks:=(cM b m.num).take i) hu
     have hX:=aI0 (x:=m.data) (ks:=(cM b m.num).take i) hu
     refine rT [2,8,9,10,11] (s3 (ai (by rw[aSd,hio];exact⟨⟨by omega,by rw[cD];omega⟩,rfl⟩) (ai (by rw[aSd,hio];exact⟨aSf rfl,rfl⟩) (s1 (ai (by refine⟨rfl,cD _,by simp,?_⟩;have h9: (iG kn ((cM b m.num).take i)).length≤6:=Nat.le_trans (List.length_filter_le _ _) (by rw[aSk];omega);show(_+1)*8≤_;omega) (s1 (rT [2,8,9,10,11] (s3 (wq [] [] (⟨(cM b m.num).length - (i+1),by omega,i+1,rfl,by omega,rfl⟩) ?_)))))))))
     repeat' apply ai
     all_goals first|exact qx|exact congrArg D.i (by rw[aF (by omega)];omega)|(rw[hts,hL,aSe];rfl)|(rw[hts,hL,aSd,hio];exact mW _ _)|(rw[hts,hL];done)|(rw[hts,hX];done)|(rw[hts,hL,aSe];done)|(simp[cD];done)|(rw[hts,hL];simp[cD];done)|exact qz
   have hne: ¬(kn.getD ((cM b m.num).getD i 0).toNat [])=[]:=by
    have h9:=c32
    rw[aSd,hio] at h9
    have h9: (toS (((bL kn).getD ((cM b m.num).getD i 0).toNat []).getD 0 (.i 0))==[])=false:=h9
    rw[hv] at h9
    exact beq_eq_false_iff_ne.1 h9
   have hu:unk kn ((cM b m.num).getD i 0)=false:=by unfold unk;simpa using hne
   have h4: (kn.getD ((cM b m.num).getD i 0).toNat []).length=4:=by rcases hat with h9|h9;exact absurd (List.eq_nil_of_length_eq_zero h9) hne;exact h9
   have hL:=ul (ks:=(cM b m.num).take i) hu
   have hX:=aLg (x:=m.data) (ks:=(cM b m.num).take i) hu
   refine rT [2,8,9,10,11] (s4 (ai (by rw[aSd,hio];exact⟨⟨by omega,by rw[cD];omega⟩,rfl⟩) (ai (by rw[aSd,hio];exact⟨aSf rfl,rfl⟩) (ai (by rw[aSd,hio];exact ixS hjr.1 hj3) (ai (by rw[aSd,hio];exact ldS hjr.1 hj3) (xp (im (pH kn m.data ((cM b m.num).take i)) (kn.getD ((cM b m.num).getD i 0).toNat []) (xR hm) h4) (ai (by rw[aSd,hio];exact(congrArg (fun z=>eH 0 [Dv (.s (pH kn m.data ((cM b m.num).take i))),Dv (.s z)]) hv).symm) ?_)))))))
   refine s1 (rT [2,8,9,10,11] (s3 (wq [] [] (⟨(cM b m.num).length - (i+1),by omega,i+1,rfl,by omega,rfl⟩) ?_)))
   repeat' apply ai
   all_goals first|exact qx|exact congrArg D.i (by rw[aF (by omega)];omega)|(rw[hts,hL,aSe];rfl)|(rw[hts,hL,aSd,hio];exact mW _ _)|(rw[hts,hL];done)|(rw[hts,hX];done)|(rw[hts,hL,aSe];done)|(simp[cD];done)|(rw[hts,hL];simp[cD];done)|exact qz
 have hi3:i=(cM b m.num).length:=by simp[cD] at c22;omega
 subst hi3
 refine xt (sq (rT [6,7] (s4 (rt ?_))))
 rw[aSv]
 exact eE _ [(0,12)] [] rfl ⟨⟨_,rfl,⟨rfl,rfl,_,_,_,rfl⟩,rfl,trivial⟩,bT rfl rfl trivial⟩ rfl rfl
theorem aNk (kn:List (List UInt8)) (ks:List Int) (x:List UInt8):mA [tV 0 (.tup [.c (.own 0 (iG kn ks).length),.c (.d (.s (pH kn x ks)))]),oR 0 3 1 (cR (iG kn ks))]:=by
 intro p hp
 simp at hp
 rcases hp with rfl|rfl
 · first|trivial|(simp[mA];done)|(intro c hc;simp at hc;rcases hc with rfl|rfl<;>trivial)|exact⟨trivial,trivial,trivial⟩
 intro r hr d hd
 obtain⟨y,_,rfl⟩:=aSq.1 hr
 simp at hd;subst hd;trivial
set_option maxHeartbeats 3200000 in
theorem sw (b:Int) (l:List gI) (hl:l.length≤1000000):Sp 190 2 [tI 0 b,tD 1 (.sl (dM l))] [tD 0 (.sl (bL (dT b l)))]:=by
 refine sb Tryz.func190 rfl (sq (rT [0,1] (s1 (sq (sq (rT [0,1,12] (s1 (xp (dC _ _ _) (ai rfl ?_)))))))))
 refine s1 (cd rfl (fun c12=> ?_) fun c12=> ?_)
 · have hno: ¬gX b 1 6=true:=by simpa using c12
   refine sq (rT [4] (s2 (rt (eE _ [] [13] rfl (fM rfl rfl rfl ?_ (congrArg D.sl ?_) trivial) rfl rfl))))
   · rfl
   rw[aFv hno];rfl
 have hin:gX b 1 6=true:=by simpa using c12
 have hb:1≤b∧b≤6:=by simpa[gX] using hin
 have hst:=yR.start (b:=b) (by omega)
 refine sk (sq (rT [0,1,5] (s1 (ai (by refine⟨rfl,by omega,?_⟩;show((16:Nat):Int)*_≤_;omega) (s1 (sq (rT [0,1,5,6] (s1 (sq (bk (SW.loopW (n:=sN (List.replicate b.toNat ([]:List UInt8))+1) (fun q s=> ∃(kn:List (List UInt8)) (ag:Bool),q=(if ag then sN kn+1 else 0)∧yR b kn∧(ag=true→qG b l 7 kn=dT b l)∧(ag=false→kn=dT b l)∧s=[tI 0 b,tD 1 (.sl (dM l)),tO 5 15 b.toNat,tB 6 (ag),oR 15 9 1 (bL (kn))]) ?_ ?_)))))))))))
 · refine wq (σ':=[tI 0 b,tD 1 (.sl (dM l)),tO 5 15 b.toNat,tB 6 (true),oR 15 9 1 (bL (List.replicate b.toNat []))]) [] [] (⟨_,true,rfl,hst,fun _=>(if_pos hin).symm,fun h=>(by cases h),rfl⟩) ?_
   repeat' apply ai
   all_goals first|exact qx|rfl|(simp[bL];done)|exact qz
 rintro n s ⟨kn,ag,rfl,hk,hp1,hp2,rfl⟩
 refine sq (sq (rT [0,1,5,16] (s1 (cd rfl (fun c16=> ?_) fun c16=> ?_))))
 · have hag:ag=true:=c16
   have hgo:=hp1 hag
   refine sk (bk (sq (rT [0,1,5,6] (s1 (sq (rT [0,1,5,6,7] (s1 (bk (SW.loopW (n:=l.length) (fun q s=> ∃i:Nat,q=l.length - i∧i≤l.length∧s=[tI 0 b,tD 1 (.sl (dM l)),tO 5 15 b.toNat,tB 6 (cJ b (l.take i) (kn,false)).2,tI 7 (i:Nat),oR 15 9 1 (bL ((cJ b (l.take i) (kn,false)).1))]) ?_ ?_)))))))))
   · refine wq (σ':=[tI 0 b,tD 1 (.sl (dM l)),tO 5 15 b.toNat,tB 6 (cJ b (l.take 0) (kn,false)).2,tI 7 (0:Nat),oR 15 9 1 (bL ((cJ b (l.take 0) (kn,false)).1))]) [] [] (⟨0,rfl,aSj _,rfl⟩) ?_
     repeat' apply ai
     all_goals first|exact qx|rfl|exact qz
   rintro n s ⟨i,rfl,hi,rfl⟩
   refine sq (sq (rT [0,1,5,6,7,20] (s4 (cd rfl (fun c20=> ?_) fun c20=> ?_))))
   · have hi2:i<l.length:=by simp[bO] at c20;omega
     have hg:=sM (l:=l) hi2
     have hki:=(qH (l:=l.take i) (s:=(kn,false)) hk).1
     have hsn:=ia (b:=b) (m:=(l.getD i .zero)) (l:=l.take i) (s:=(kn,false))
     rw[← fU (z:=gI.zero) hi2] at hsn
     have hkl:=hki.1
     refine sk (sq (bk (sq (sq (rT [0,1,5,6,7,29] (s3 (ai (by rw[aSd,hg];exact⟨⟨by omega,by rw[bO];omega⟩,rfl⟩) (ai (by rw[aSd,hg];exact⟨aSf rfl,rfl⟩) (xp (ak b (l.getD i .zero)) (ai (by rw[aSd,hg];rfl) ?_))))))))))
     refine s1 (cd rfl (fun c29=> ?_) fun c29=> ?_)
     · have hmx:uT b (l.getD i .zero)=false:=xv c29
       have hpo:iE b (cJ b (l.take i) (kn,false)).1 (l.getD i .zero)=((cJ b (l.take i) (kn,false)).1,false):=by unfold iE;rw[hmx];rfl
       rw[hpo] at hsn
       refine xt (rT [0,1,5,6,7] (s3 (wq [] [] (⟨l.length - (i+1),by omega,i+1,rfl,by omega,rfl⟩) ?_)))
       repeat' apply ai
       all_goals first|exact qx|exact congrArg D.i (by rw[aF (by omega)];omega)|(rw[hsn];done)|(rw[hsn,Bool.or_false];done)|(rw[hsn,Bool.or_true];done)|(rw[hsn];rw[show(0:Int).toNat=0 from rfl,hL0];exact aAb (j:=((iG (cJ b (l.take i) (kn,false)).1 (cM b (l.getD i .zero).num)).getD 0 0).toNat) (by omega))|exact qz
     have hmx:uT b (l.getD i .zero)=true:=xv c29
     have hm4: (l.getD i .zero).data.length=4:=aC0 hmx
     refine sk (sq (rT [0,1,5,6,7,8,9] (s3 (ai (by rw[aSd,hg];exact⟨⟨by omega,by rw[bO];omega⟩,rfl⟩) (ai (by rw[aSd,hg];exact⟨aSf rfl,rfl⟩) (s1 (bH (robj:=[(15,.row 9 1 (bL (cJ b (l.take i) (kn,false)).1))]) (rl:=[(0,37)]) (bor:=[15]) (vg b (l.getD i .zero) (cJ b (l.take i) (kn,false)).1 hki hm4) rfl rfl rfl rfl (by refine⟨cK rfl rfl (cY rfl ?_ (fM rfl rfl rfl (by rw[aU];omega) rfl trivial)),rfl⟩;rw[aSd,hg];exact aD rfl (aD rfl trivial)) rfl (.inr (aNk _ _ _)) (aJ ⟨rfl,trivial⟩) (fun j hj=>by(obtain rfl:j=0:=by simpa[nE,bX,iH] using hj);rfl) ?_)))))))
     refine s5 (sq (rT [0,1,5,6,7,8,9,42] (s1 (ai (by exact cD _) (s1 (cd rfl (fun c42=> ?_) fun c42=> ?_))))))
     · have hlen: (iG (cJ b (l.take i) (kn,false)).1 (cM b (l.getD i .zero).num)).length=1:=aQf c42
       have hL0:=dF (l:=(iG (cJ b (l.take i) (kn,false)).1 (cM b (l.getD i .zero).num))) (i:=0) (by omega)
       have hpo:iE b (cJ b (l.take i) (kn,false)).1 (l.getD i .zero)=((cJ b (l.take i) (kn,false)).1.set ((iG (cJ b (l.take i) (kn,false)).1 (cM b (l.getD i .zero).num)).getD 0 0).toNat (pH (cJ b (l.take i) (kn,false)).1 (l.getD i .zero).data (cM b (l.getD i .zero).num)),true):=by unfold iE;rw[hmx,hlen];rfl
       rw[hpo] at hsn
       have hlr:=uO _ (xu (dU (z:=(0:Int)) (l:=(iG (cJ b (l.take i) (kn,false)).1 (cM b (l.getD i .zero).num))) (i:=0) (by omega))).1
       have hsg:=gG (l:=(cJ b (l.take i) (kn,false)).1) (i:=((iG (cJ b (l.take i) (kn,false)).1 (cM b (l.getD i .zero).num)).getD 0 0).toNat) (by omega)
       refine sq (rT [0,1,5,7] (s2 (ai (by exact⟨by rw[cD],by omega,by omega⟩) (ai (by rw[show(0:Int).toNat=0 from rfl,hL0];exact⟨⟨by rw[cD],by omega⟩,aSo _,rfl⟩) (s1 (ai (by rw[show(0:Int).toNat=0 from rfl,hL0];exact⟨by rw[aU];omega,hlr.1,by have h9: (iG (cJ b (l.take i) (kn,false)).1 (cM b (l.getD i .zero).num)).getD 0 0<b:=hlr.2;show(iG (cJ b (l.take i) (kn,false)).1 (cM b (l.getD i .zero).num)).getD 0 0< ((b.toNat:Nat):Int);omega⟩) (ai (by rw[show(0:Int).toNat=0 from rfl,hL0];refine⟨by rw[aU];omega,?_⟩;show((iG (cJ b (l.take i) (kn,false)).1 (cM b (l.getD i .zero).num)).getD 0 0).toNat<_∧_∧0+_≤((bL (cJ b (l.take i) (kn,false)).1).getD ((iG (cJ b (l.take i) (kn,false)).1 (cM b (l.getD i .zero).num)).getD 0 0).toNat []).length;rw[hsg];exact⟨by omega,rfl,aSo _⟩) (rT [0,1,5,6,7] (s1 (rT [0,1,5,6,7] (s3 (wq [] [] (⟨l.length - (i+1),by omega,i+1,rfl,by omega,rfl⟩) ?_))))))))))))
       repeat' apply ai
       all_goals first|exact qx|exact congrArg D.i (by rw[aF (by omega)];omega)|(rw[hsn];done)|(rw[hsn,Bool.or_false];done)|(rw[hsn,Bool.or_true];done)|(rw[hsn];rw[show(0:Int).toNat=0 from rfl,hL0];exact aAb (j:=((iG (cJ b (l.take i) (kn,false)).1 (cM b (l.getD i .zero).num)).getD 0 0).toNat) (by omega))|exact qz
     have hlen: ¬(iG (cJ b (l.take i) (kn,false)).1 (cM b (l.getD i .zero).num)).length=1:=aFt c42
     have hpo:iE b (cJ b (l.take i) (kn,false)).1 (l.getD i .zero)=((cJ b (l.take i) (kn,false)).1,false):=by unfold iE;rw[hmx,beq_eq_false_iff_ne.2 hlen];rfl
     rw[hpo] at hsn
     refine sk (rT [0,1,5,6,7] (s3 (wq [] [] (⟨l.length - (i+1),by omega,i+1,rfl,by omega,rfl⟩) ?_)))
     repeat' apply ai
     all_goals first|exact qx|exact congrArg D.i (by rw[aF (by omega)];omega)|(rw[hsn];done)|(rw[hsn,Bool.or_false];done)|(rw[hsn,Bool.or_true];done)|(rw[hsn];rw[show(0:Int).toNat=0 from rfl,hL0];exact aAb (j:=((iG (cJ b (l.take i) (kn,false)).1 (cM b (l.getD i .zero).num)).getD 0 0).toNat) (by omega))|exact qz
   have hi3:i=l.length:=by simp[bO] at c20;omega
   subst hi3
   clear hi
   refine xt ?_
   rw[aSv]
   cases hrr: (cJ b l (kn,false)).2 with
   |true=>
    obtain⟨g1,g2,g3⟩:=aNd hb.2 hk hrr
    refine wk [tI 0 b,tD 1 (.sl (dM l)),tO 5 15 b.toNat,tB 6 (true),oR 15 9 1 (bL ((cJ b l (kn,false)).1))] [] [] (⟨_,by rw[hag];simpa using g2,_,true,rfl,g3,fun _=>by rw[← g1];exact hgo,fun h=>(by cases h),rfl⟩) ?_ rfl rfl
    repeat' first|exact trivial|refine kN rfl ?_|refine cK rfl ?_ ?_|refine iQ rfl rfl ?_ rfl ?_|refine bT rfl ?_ ?_|refine bU rfl rfl rfl rfl ?_|refine aW rfl ?_ ?_|refine cY rfl ?_ ?_|exact aH|refine aD ?_ ?_|refine iK ?_|refine bI rfl ?_ rfl ?_|refine dZ rfl rfl rfl ?_
    all_goals first|with_reducible rfl|(first|with_reducible rfl|(rw[hrr];done))
   |false=>
    have ge:=aLh hrr
    refine wk [tI 0 b,tD 1 (.sl (dM l)),tO 5 15 b.toNat,tB 6 (false),oR 15 9 1 (bL ((cJ b l (kn,false)).1))] [] [] (⟨_,by rw[hag];simp,_,false,rfl,(qH (l:=l) (s:=(kn,false)) hk).1,fun h=>(by cases h),fun _=>by rw[← ge];exact hgo,rfl⟩) ?_ rfl rfl
    repeat' first|exact trivial|refine kN rfl ?_|refine cK rfl ?_ ?_|refine iQ rfl rfl ?_ rfl ?_|refine bT rfl ?_ ?_|refine bU rfl rfl rfl rfl ?_|refine aW rfl ?_ ?_|refine cY rfl ?_ ?_|exact aH|refine aD ?_ ?_|refine iK ?_|refine bI rfl ?_ rfl ?_|refine dZ rfl rfl rfl ?_
    all_goals first|with_reducible rfl|(first|with_reducible rfl|(rw[hrr];done))
 have hag:ag=false:=c16
 have hfin:=hp2 hag
 refine xt (sq (rT [4] (s2 (rt (eE _ [] [15] rfl (fM rfl rfl rfl ?_ (congrArg D.sl ?_) trivial) rfl rfl)))))
 · rw[aU];have:=hk.1;omega
 rw[hfin]
set_option maxHeartbeats 800000 in
theorem sy (size:Int) (l:List gI) (hl:l.length≤1000000):Sp 180 2 [tI 0 size,tD 1 (.sl (dM l))] [tV 0 (.tup [.c (.d (.s (dN size l).1)),.c (.d (.b (dN size l).2))])]:=by
 refine sb Tryz.func180 rfl (sq (rT [0,1] (s2 (sq (sq (rT [0,1,12] (s1 (xp (dC _ _ _) (ai rfl ?_)))))))))
 refine s1 (cd rfl (fun c12=> ?_) fun c12=> ?_)
 · have hno: ¬gX size 1 24=true:=by simpa using c12
   refine sq (rT [4,5] (s2 (rt ?_)))
   have hr:=aC4 (l:=l) hno
   refine bN rfl rfl ?_
   rw[hr]<;>rfl
 have hin:gX size 1 24=true:=by simpa using c12
 have hs2:1≤size∧size≤24:=by simpa[gX] using hin
 have hko:=aFu (b:=(size+3) / 4) (l:=l) (by omega)
 have hk1:=hko.1
 have hle:=fun i=>aC1 hko.2 (i:=i)
 refine sk (sq (rT [0,6] (s1 (xp (nV size (by omega)) (ai rfl ?_)))))
 refine s1 (xp (sw ((size+3) / 4) l hl) (ai rfl ?_))
 refine s1 (sq (rT [0,6,7] (s1 (sq (sq (rT [0,6,7,8] (s1 (bk (SW.loopW (n:=(dT ((size+3) / 4) l).length) (fun q s=> ∃i:Nat,q=(dT ((size+3) / 4) l).length - i∧i≤(dT ((size+3) / 4) l).length∧(∀j,j<i→((dT ((size+3) / 4) l).getD j []).length≠0)∧s=[tI 0 size,tD 6 (.sl (bL (dT ((size+3) / 4) l))),tD 7 (.s (uU (dT ((size+3) / 4) l) (i))),tI 8 (i:Nat)]) ?_ ?_)))))))))
 · refine wq (σ':=[tI 0 size,tD 6 (.sl (bL (dT ((size+3) / 4) l))),tD 7 (.s (uU (dT ((size+3) / 4) l) (0))),tI 8 (0:Nat)]) [] [] (⟨0,rfl,aSj _,fun j h=>absurd h (by omega),rfl⟩) ?_
   repeat' apply ai
   all_goals first|exact qx|rfl|exact qz
 rintro n s ⟨i,rfl,hi,hk,rfl⟩
 refine sq (sq (rT [0,6,7,8,20] (s4 (cd rfl (fun c20=> ?_) fun c20=> ?_))))
 · have hi2:i< (dT ((size+3) / 4) l).length:=by simp[aU] at c20;omega
   have hg:=gG (l:=(dT ((size+3) / 4) l)) hi2
   have hsu:=du hi2
   have hli:=hle i
   have h4:=hko.at hi2
   refine sk (sq (bk (sq (sq (rT [0,6,7,8,27] (s2 (ai (by rw[aSd,hg];exact⟨⟨by omega,by rw[aU];omega⟩,rfl⟩) (ai (by rw[aSd,hg];exact⟨aSf rfl,rfl⟩) (s1 (cd rfl (fun c27=> ?_) fun c27=> ?_))))))))))
   · have he: (dT ((size+3) / 4) l).getD i []=[]:=by
      have h9:=c27
      rw[aSd,hg] at h9
      exact beq_iff_eq.1 h9
     refine sq (rT [4,5] (s2 (rt ?_)))
     have hr:=aAe hin (um hi2 he)
     refine bN rfl rfl ?_
     rw[hr]<;>rfl
   have hs: ((dT ((size+3) / 4) l).getD i []).length≠0:=by
    have h9:=c27
    rw[aSd,hg] at h9
    intro e
    rw[List.eq_nil_of_length_eq_zero e] at h9
    exact absurd h9 (by decide)
   refine sk (rT [0,6,7,8] (s3 (ai (by rw[aSd,hg];exact⟨⟨by omega,by rw[aU];omega⟩,rfl⟩) (ai (by rw[aSd,hg];exact⟨aSf rfl,rfl⟩) (ai (by rw[aSd,hg];show _+((dT ((size+3) / 4) l).getD i []).length≤9223372036854775807;omega) (s1 (rT [0,6,7,8] (s3 (wq [] [] (⟨(dT ((size+3) / 4) l).length - (i+1),by omega,i+1,rfl,by omega,fun j h=>by by_cases e:j=i;exact e▸hs;exact hk j (by omega),rfl⟩) ?_)))))))))
   repeat' apply ai
   all_goals first|exact qx|exact congrArg D.i (by rw[aF (by omega)];omega)|(rw[hsu,aSd,hg];rfl)|exact qz
 have hi3:i=(dT ((size+3) / 4) l).length:=by simp[aU] at c20;omega
 subst hi3
 have hae:=aAc hk
 have hal:=aC2 hko.2 (aSo _) hk
 rw[xw] at hal
 clear hi hk
 refine xt (sq (sq (rT [0,7,9] (s2 (bk (SW.loopW (n:=(pI (dT ((size+3) / 4) l)).length - size.toNat) (fun q s=> ∃i:Nat,q=(pI (dT ((size+3) / 4) l)).length - i∧(size.toNat≤i∧i≤(pI (dT ((size+3) / 4) l)).length)∧(∀j,size.toNat≤j→j<i→(pI (dT ((size+3) / 4) l)).getD j 0=0)∧s=[tI 0 size,tD 7 (.s (pI (dT ((size+3) / 4) l))),tI 9 (i:Nat)]) ?_ ?_))))))
 · have hss:size.toNat≤(pI (dT ((size+3) / 4) l)).length:=by omega
   refine wq [] [] (⟨size.toNat,rfl,by omega,fun j h1 h2=>absurd h1 (by omega),rfl⟩) ?_
   repeat' apply ai
   all_goals first|exact qx|exact congrArg D.i (by omega)|(rw[xw];done)|exact qz
 rintro n s ⟨i,rfl,hi,hk,rfl⟩
 refine sq (sq (rT [0,7,9,38] (s4 (cd rfl (fun c38=> ?_) fun c38=> ?_))))
 · have hi2:i< (pI (dT ((size+3) / 4) l)).length:=by simp at c38;omega
   refine sk (sq (bk (sq (rT [0,7,9,44] (s2 (ai (by omega) (s1 (cd rfl (fun c44=> ?_) fun c44=> ?_))))))))
   · have hnz: (pI (dT ((size+3) / 4) l)).getD i 0≠0:=by
      intro e
      have h9:=c44
      rw[aSd,e] at h9
      exact absurd h9 (by decide)
     refine sq (rT [4,5] (s2 (rt ?_)))
     have hr:=aAf hin hae (aAd hi.1 hi2 hnz)
     refine bN rfl rfl ?_
     rw[hr]<;>rfl
   have hs: (pI (dT ((size+3) / 4) l)).getD i 0=0:=by
    have h9:=c44
    rw[aSd] at h9
    have h11: (((pI (dT ((size+3) / 4) l)).getD i 0).toNat:Int)=0:=by simpa only[bne_eq_false_iff_eq] using h9
    apply UInt8.toNat_inj.1
    have h6: (0:UInt8).toNat=0:=rfl
    omega
   refine sk (rT [0,7,9] (s3 (wq [] [] (⟨(pI (dT ((size+3) / 4) l)).length - (i+1),by omega,i+1,rfl,by omega,fun j h1 h2=>by by_cases e:j=i;exact e▸hs;exact hk j h1 (by omega),rfl⟩) ?_)))
   repeat' apply ai
   all_goals first|exact qx|exact congrArg D.i (by rw[aF (by omega)];omega)|exact qz
 have hi3:i=(pI (dT ((size+3) / 4) l)).length:=by simp at c38;omega
 have hz:=aC3 (n:=size.toNat) (fun j h1 h2=>hk j h1 (by omega))
 refine xt (sq (rT [4,5] (s2 (ai (by simp[bnd,fE,gF];omega) (s2 (rt ?_))))))
 have hr:=aC5 hin hae hz
 refine bN rfl rfl ?_
 rw[hr]<;>rfl
theorem al (f:cF):Sp 167 1 [tV 0 f.V] [tB 0 (eL f)]:=by
 refine sb Tryz.func167 rfl (sq (rT [1,8,9,10,11,14,15,16,17,20,21,22,23,26,27,28,29,32,33,34,35,38,39,40,41,55,56,57,60,61,62,65,66,67,78,79,80,83,84,85,88,89,90,91] (s2 (sq (sq (rT [1,42,55,56,57,60,61,62,65,66,67,78,79,80,83,84,85,88,89,90,91] (s2 (xp (dC _ _ _) (ai rfl ?_)))))))))
 refine s2 (y2 (xc (fun h=>(cW _)) (ai rfl (ai rk ?_))))
 refine y1 (ai pk (s1 (y2 (xc (fun h=>(cW _)) (ai rfl (ai rk ?_))))))
 refine y1 (ai pk (s1 (y2 (xc (fun h=>(cW _)) (ai rfl (ai rk ?_))))))
 refine y1 (ai pk (s1 (y2 (xc (fun h=>(cW _)) (ai rfl (ai rk ?_))))))
 refine y1 (ai pk (s1 (y2 (xc (fun h=>(dC _ _ _)) (ai rfl (ai rk ?_))))))
 refine y1 (ai pk (s1 (y2 (xc (fun h=>(dC _ _ _)) (ai rfl (ai rk ?_))))))
 refine y1 (ai pk (cd rfl (fun c42=> ?_) fun c42=> ?_))
 · refine sq (rT [2] (s1 (rt (bQ rfl (congrArg D.b (Bool.eq_iff_iff.2 ?_))))))
   simp only[eL,gb,aSg,Bool.or_eq_false_iff,Bool.not_eq_false,Bool.or_eq_true,Bool.not_eq_true,beq_iff_eq,decide_eq_true_eq,bne_iff_ne,Bool.not_eq_true,List.length_eq_zero_iff,beq_eq_false_iff_ne,bne_eq_false_iff_eq] at*
   grind[gX]
 refine sk (sq (sq (rT [1,45,55,56,57,60,61,62,65,66,67,78,79,80,83,84,85,88,89,90,91] (s3 (cd rfl (fun c45=> ?_) fun c45=> ?_)))))
 · refine sq (rD [2] (s4 (xp (sB _ _) (ai rfl ?_))))
   refine s4 (y3 (ai pk (s1 (y3 (ai pk (s1 (y3 (ai pk (s1 (ai (by kernel_rfl) (rt (bQ rfl (congrArg D.b (Bool.eq_iff_iff.2 ?_))))))))))))))
   simp only[eL,gb,aSg,Bool.or_eq_false_iff,Bool.not_eq_false,Bool.or_eq_true,Bool.not_eq_true,beq_iff_eq,decide_eq_true_eq,bne_iff_ne,Bool.not_eq_true,List.length_eq_zero_iff,beq_eq_false_iff_ne,bne_eq_false_iff_eq] at*
   grind[gX]
 refine sk (sq (rD [2] (s4 (xp (sB _ _) (ai rfl ?_)))))
 refine s4 (y2 (xc (fun h=>(dC _ _ _)) (ai rfl (ai rk ?_))))
 refine ai pk (s1 (y2 (xc (fun h=>(dC _ _ _)) (ai rfl (ai rk ?_)))))
 refine ai pk (s1 (y4 (ai pk (s1 (ai (by kernel_rfl) (rt (bQ rfl (congrArg D.b (Bool.eq_iff_iff.2 ?_)))))))))
 simp only[eL,gb,aSg,Bool.or_eq_false_iff,Bool.not_eq_false,Bool.or_eq_true,Bool.not_eq_true,beq_iff_eq,decide_eq_true_eq,bne_iff_ne,Bool.not_eq_true,List.length_eq_zero_iff,beq_eq_false_iff_ne,bne_eq_false_iff_eq] at*
 grind[gX]
theorem yP (l:List UInt8) (hl:l.length≤140737488355328):Sp 177 1 [tD 0 (.sl (aC l))] [tI 0 (bs l l.length:Nat)]:=by
 refine sb Tryz.func177 rfl (sq (rT [0] (s1 (sq (rT [0,3] (s1 (sq (sq (rT [0,3,4] (s1 (bk (SW.loopW (n:=l.length) (fun n s=> ∃i:Nat,n=l.length - i∧i≤l.length∧s=[tD 0 (.sl (aC l)),tI 3 (bs l i:Nat),tI 4 (i:Nat)]) ?_ ?_))))))))))))
 · refine wq (σ':=[tD 0 (.sl (aC l)),tI 3 (0:Nat),tI 4 (0:Nat)]) [] [] (⟨0,rfl,aSj _,rfl⟩) ?_
   repeat' apply ai
   all_goals first|exact qx|(simp[aT];done)|exact qz
 rintro n s ⟨i,rfl,hi,rfl⟩
 refine sq (sq (rT [0,3,4,8] (s4 (cd rfl (fun c8=> ?_) fun c8=> ?_))))
 · refine sk (sq (bk (rT [0,3,4] (s2 (ai (by decide) (s3 (ai (by have hb:=iF (l:=l) (i:=i) (by simpa[aT] using c8);refine⟨⟨by omega,by simpa[aT] using c8⟩,?_⟩;simp only[aSd];rw[hb];rfl) (ai (by have hb:=iF (l:=l) (i:=i) (by simpa[aT] using c8);simp only[aSd];rw[hb];exact⟨aSo _,rfl⟩) (s3 (ai (by decide) (s1 (rT [0,3,4] (s3 ?_)))))))))))))
   have hi2:i<l.length:=by simpa[aT] using c8
   have hb:=iF (l:=l) (i:=i) hi2
   refine wq [] [] (⟨l.length - (i+1),by omega,i+1,rfl,by omega,rfl⟩) ?_
   repeat' apply ai
   all_goals first|exact qx|(rw[aSd,hb];exact congrArg D.i (ph l i))|(rw[hb];exact congrArg D.i (ph l i))|(exact congrArg D.i (aF (by omega)))|exact qz
 refine xt (sq (rT [2] (s2 (rt (bQ rfl ?_)))))
 have e:i=l.length:=by simp[aT] at c8;omega
 subst e;rfl
theorem uC (l:List UInt8): ∀r∈aC l,r.length=1:=by
 intro r hr
 obtain⟨b,_,rfl⟩:=aSq.1 hr
 rfl
theorem rG (l:List UInt8) (n:Int) (hl:l.length≤1073741824) (hn:0≤n∧n<65536):Sp 176 2 [tO 0 0 l.length,tI 1 n,oR 0 5 1 (aC l)] [tO 0 0 (l++two n).length,oR 0 5 1 (aC (l++two n))]:=by
 refine sb Tryz.func176 rfl (sq (rT [0,1] (s1 (sq (rT [4] (s8 (ai (by refine⟨rfl,by simp[aT],by simp,?_⟩;show(_+2)*1≤_;omega) (s1 (rt (rq [] [] rfl ?_))))))))))
 repeat' apply ai
 all_goals try exact qx
 all_goals first|(simp[aT,two];done)|(rw[aKo hn,fR])
theorem qJ (f:cF):Sp 165 1 [tV 0 f.V] [tO 0 0 (oI f).length,oR 0 5 1 (aC (oI f))]:=by
 refine sb Tryz.func165 rfl (sq (rT [1] (s2 (sq (rT [1,3] (s2 (sq (sq (rT [1,3,7] (s1 (xp (al _) (ai rfl ?_))))))))))))
 refine s1 (cd rfl (fun c7=> ?_) fun c7=> ?_)
 · refine sq (rT [2] (s2 (rt (rq [(0,4)] [] rfl ?_))))
   repeat' apply ai
   all_goals try exact qx
   all_goals(simp at c7;simp[oI,c7,aC])
 have hok:eL f=true:=by simpa using c7
 obtain⟨k1,k2,k3,k4,k5,k6,k7,k8⟩:=kX hok
 have hlen:=fk hok
 have hsum:=yv (eP f) (eP f).length
 refine sk (sq (rT [1,3] (s9 (s9 (s4 (sq (wa [tP 1 1,tO 3 4 (ay f).length,oB 1 178 [.d (.i f.kind),.d (.i f.src),.d (.i f.dst),.d (.i f.frm),.d (.i f.num),.d (.i f.to),.d (.i f.til),.d (.i f.size),.d (.i f.mix),.d (.s f.data)],oR 4 5 1 (aC (ay f))] [] [] ?_ ?_)))))))
 · repeat' apply ai
   all_goals first|exact qx|exact yw hok|rfl|exact qz
 refine rT [1,3] (s3 (bH (robj:=[(4,_)]) (rl:=[(0,4)]) (bor:=[]) (rG (ay f) f.til (by simp[ay]) (by omega)) rfl rfl rfl rfl ⟨iQ rfl rfl rfl rfl (cK rfl rfl (bT rfl rfl trivial)),rfl⟩ rfl (.inl rfl) (fun p hp=>by simp at hp;subst hp;rfl) (fun _ hj=>nomatch hj) (s1 (sq (sq (wa [tP 1 1,tO 3 4 (kA f).length,oB 1 178 [.d (.i f.kind),.d (.i f.src),.d (.i f.dst),.d (.i f.frm),.d (.i f.num),.d (.i f.to),.d (.i f.til),.d (.i f.size),.d (.i f.mix),.d (.s f.data)],oR 4 5 1 (aC (kA f))] [] [] qz (rT [1,3,36] (s3 (cd rfl (fun c36=> ?_) fun c36=> ?_)))))))))
 · have hk:f.kind=1:=by simpa using c36
   obtain⟨m1,m2,m3⟩:=k8 hk
   refine sq (rT [1,3] (s5 (ai (by refine⟨rfl,aT _,by simp,?_⟩;show(_+1)*1≤_;simp[kA,two]) (s1 (sq (wa [tP 1 1,tO 3 4 (kA f++[b8 f.size]).length,oB 1 178 [.d (.i f.kind),.d (.i f.src),.d (.i f.dst),.d (.i f.frm),.d (.i f.num),.d (.i f.to),.d (.i f.til),.d (.i f.size),.d (.i f.mix),.d (.s f.data)],oR 4 5 1 (aC (kA f++[b8 f.size]))] [] [] ?_ ?_))))))
   · repeat' apply ai
     all_goals first|exact qx|rfl|(simp[aT];done)|(rw[← fR,dh (by omega)];rfl)|exact qz
   refine rT [1,3] (s3 (bH (robj:=[(4,_)]) (rl:=[(0,4)]) (bor:=[]) (rG (kA f++[b8 f.size]) f.mix (by simp[kA,two]) (by omega)) rfl rfl rfl rfl ⟨iQ rfl rfl rfl rfl (cK rfl rfl (bT rfl rfl trivial)),rfl⟩ rfl (.inl rfl) (fun p hp=>by simp at hp;subst hp;rfl) (fun _ hj=>nomatch hj) (s1 (wa [tP 1 1,tO 3 4 (kA f++[b8 f.size]++two f.mix).length,oB 1 178 [.d (.i f.kind),.d (.i f.src),.d (.i f.dst),.d (.i f.frm),.d (.i f.num),.d (.i f.to),.d (.i f.til),.d (.i f.size),.d (.i f.mix),.d (.s f.data)],oR 4 5 1 (aC (kA f++[b8 f.size]++two f.mix))] [] [] qz (rT [3] (s3 (ai (by rw[m3];decide) (ai (by refine⟨aT _,aT _,uC _,?_⟩;show(_+_)*1≤_;simp[aT,m3,kA,two]) (s1 (sq (wa [tO 3 4 (eP f).length,oR 4 5 1 (aC (eP f))] [] [] ?_ ?_)))))))))))
   · repeat' apply ai
     all_goals first|exact qx|(rw[zF hk];done)|(rw[fR];simp[eP,hk];done)|(simp[eP,hk,aT];omega)|exact qz
   refine rT [2] (s2 (bH (robj:=[(4,.row 5 1 (aC (eP f)))]) (rl:=[]) (bor:=[4]) (yP (eP f) (by omega)) rfl rfl rfl rfl ⟨fM rfl rfl rfl ?_ rfl trivial,rfl⟩ rfl (.inr (po _)) (fun p hp=>by simp at hp;subst hp;rfl) (fun _ hj=>nomatch hj) ?_))
   · exact aT _
   refine bH (robj:=[(4,_)]) (rl:=[(0,4)]) (bor:=[]) (rG (eP f) (bs (eP f) (eP f).length) (by omega) (by omega)) rfl rfl rfl rfl ⟨iQ rfl rfl rfl rfl (cK rfl rfl (bT rfl rfl trivial)),rfl⟩ rfl (.inl rfl) (fun p hp=>by simp at hp;subst hp;rfl) (fun _ hj=>nomatch hj) (s1 (rt (rq [(0,4)] [] rfl ?_)))
   repeat' apply ai
   all_goals try exact qx
   all_goals first|(rw[oZ,if_pos hok];done)|(rw[oZ,if_pos hok])
 have hk: ¬f.kind=1:=by simpa using c36
 refine sk (sq (wa [tO 3 4 (eP f).length,oR 4 5 1 (aC (eP f))] [] [] ?_ ?_))
 · repeat' apply ai
   all_goals first|exact qx|(rw[zF hk];done)|(rw[fR];simp[eP,hk];done)|(simp[eP,hk,aT];omega)|exact qz
 refine rT [2] (s2 (bH (robj:=[(4,.row 5 1 (aC (eP f)))]) (rl:=[]) (bor:=[4]) (yP (eP f) (by omega)) rfl rfl rfl rfl ⟨fM rfl rfl rfl ?_ rfl trivial,rfl⟩ rfl (.inr (po _)) (fun p hp=>by simp at hp;subst hp;rfl) (fun _ hj=>nomatch hj) ?_))
 · exact aT _
 refine bH (robj:=[(4,_)]) (rl:=[(0,4)]) (bor:=[]) (rG (eP f) (bs (eP f) (eP f).length) (by omega) (by omega)) rfl rfl rfl rfl ⟨iQ rfl rfl rfl rfl (cK rfl rfl (bT rfl rfl trivial)),rfl⟩ rfl (.inl rfl) (fun p hp=>by simp at hp;subst hp;rfl) (fun _ hj=>nomatch hj) (s1 (rt (rq [(0,4)] [] rfl ?_)))
 repeat' apply ai
 all_goals try exact qx
 all_goals first|(rw[oZ,if_pos hok];done)|(rw[oZ,if_pos hok])
theorem ef (l:List UInt8):Sp 154 1 [tD 0 (.sl (aC l))] [tV 0 (.tup [.agg [.d (.i (fX l).kind),.d (.i (fX l).src),.d (.i (fX l).dst),.d (.i (fX l).frm),.d (.i (fX l).num),.d (.i (fX l).to),.d (.i (fX l).til),.d (.i (fX l).size),.d (.i (fX l).mix),.d (.s (fX l).data)],.c (.d (.b (lG l)))])]:=by
 refine sb Tryz.func154 rfl (sq (rT [0,2,9,10,11] (s2 (sq (sq (rT [0,2,12] (s4 (y2 (y1 (ai pk (cd rfl (fun c12=> ?_) fun c12=> ?_)))))))))))
 · have hL:l.length≠10∧l.length≠17:=by simp[aT] at c12;omega
   refine sq (rT [2,3] (s3 (rt (bN rfl rfl ?_))))
   have hno:lG l=false:=by simp[lG,hL.1,hL.2]
   simp only[fX,hno,Bool.false_eq_true,if_false,az]
   rfl
 have hL:l.length=10∨l.length=17:=by
  by_cases h9:l.length=10
  · exact .inl h9
  · right;simp[aT] at c12;omega
 refine sk (sq (rD [0,2,4] (s1 (ai (ixB (by omega) (by omega)) (ai (ldB (by omega) (by omega)) (s1 (s1 (ai (ixB (by omega) (by omega)) (ai (ldB (by omega) (by omega)) (s1 (s1 (ai (ixB (by omega) (by omega)) (ai (ldB (by omega) (by omega)) (s1 (s1 (ai (ixB (by omega) (by omega)) (ai (ldB (by omega) (by omega)) (s1 (s1 (ai (ixB (by omega) (by omega)) (ai (ldB (by omega) (by omega)) (s1 (s1 (ai (ixB (by omega) (by omega)) (ai (ldB (by omega) (by omega)) (s1 (s1 (ai (ixB (by omega) (by omega)) (ai (ldB (by omega) (by omega)) (s1 (s2 (ai (ixB (by omega) (by omega)) (ai (ldB (by omega) (by omega)) (s4 (s1 (ai (by kernel_rfl) (sq (sq (rT [0,2,4,51] (s3 (cd rfl (fun c51=> ?_) fun c51=> ?_)))))))))))))))))))))))))))))))))))))))))
 · have h17:l.length=17:=by simp[aT] at c51;omega
   refine sq (rT [0,2,4] (s1 (ai (ixB (by omega) (by omega)) (ai (ldB (by omega) (by omega)) (s1 (s2 (sq (rD [0,2,4] (s1 (ai (ixB (by omega) (by omega)) (ai (ldB (by omega) (by omega)) (s1 (s2 (ai (ixB (by omega) (by omega)) (ai (ldB (by omega) (by omega)) (s4 (ai (by kernel_rfl) (rT [0,2,4] (s1 (ai (by refine⟨by simp[bnd,fE,gF,aT,h17],uC l⟩) (ai (by rw[vD];exact vE l 11 15) (s1 (s1 (sq (sq (wa [tD 0 (.sl (aC l)),tP 2 2,tP 4 4,oB 2 178 [.d (.i 0),.d (.i 0),.d (.i 0),.d (.i 0),.d (.i 0),.d (.i 0),.d (.i 0),.d (.i 0),.d (.i 0),.d (.s [])],oB 4 178 [.d (.i (cN l).kind),.d (.i (cN l).src),.d (.i (cN l).dst),.d (.i (cN l).frm),.d (.i (cN l).num),.d (.i (cN l).to),.d (.i (cN l).til),.d (.i (cN l).size),.d (.i (cN l).mix),.d (.s (cN l).data)]] [] [] ?_ ?_))))))))))))))))))))))))))
   · repeat' apply ai
     all_goals first|exact qx|(rw[yy (by decide) (by omega),yy (by decide) (by omega)];(first|simp only[cN,if_neg h17]|simp only[cN,if_pos h17]);exact congrArg D.i (wv (jC _ _) (jC _ _)).1)|(rw[yy (by decide) (by omega)];(first|simp only[cN,if_neg h17]|simp only[cN,if_pos h17]);first|done|rfl)|((first|simp only[cN,if_neg h17]|simp only[cN,if_pos h17]);done)|((first|simp only[cN,if_neg h17]|simp only[cN,if_pos h17]);exact congrArg D.s (vD _ _ _))|exact qz
   refine rD [2,4,77] (s1 (pq [(0,73)] (qJ (cN l)) rfl rfl rfl rfl rfl rfl rfl (fun j hj=>by(obtain rfl:j=0:=by simpa[nE,bX,iH] using hj);rfl) (ai (by exact⟨aT _,(congrArg aC (cC _)).symm⟩) (s1 (ai (by exact(congrArg aC (cC _)).symm) (s1 (ai (by kernel_rfl) (cd rfl (fun c77=> ?_) fun c77=> ?_))))))))
   · refine sq (rT [2,3] (s3 (rt (bN rfl rfl ?_))))
     have hno:lG l=false:=by(simp[cC] at c77;simp[lG,c77])
     simp only[fX,hno,Bool.false_eq_true,if_false,az]
     rfl
   refine sk (sq (rT [2,3] (s3 (rt (bN rfl rfl ?_)))))
   have hyes:lG l=true:=by(simp[cC] at c77;rcases hL with h|h<;>simp[lG,h,c77])
   simp only[fX,hyes,if_true]
   rfl
 have h17: ¬l.length=17:=by simp[aT] at c51;omega
 refine sk (sq (sq (wa [tD 0 (.sl (aC l)),tP 2 2,tP 4 4,oB 2 178 [.d (.i 0),.d (.i 0),.d (.i 0),.d (.i 0),.d (.i 0),.d (.i 0),.d (.i 0),.d (.i 0),.d (.i 0),.d (.s [])],oB 4 178 [.d (.i (cN l).kind),.d (.i (cN l).src),.d (.i (cN l).dst),.d (.i (cN l).frm),.d (.i (cN l).num),.d (.i (cN l).to),.d (.i (cN l).til),.d (.i (cN l).size),.d (.i (cN l).mix),.d (.s (cN l).data)]] [] [] ?_ ?_)))
 · repeat' apply ai
   all_goals first|exact qx|(rw[yy (by decide) (by omega),yy (by decide) (by omega)];(first|simp only[cN,if_neg h17]|simp only[cN,if_pos h17]);exact congrArg D.i (wv (jC _ _) (jC _ _)).1)|(rw[yy (by decide) (by omega)];(first|simp only[cN,if_neg h17]|simp only[cN,if_pos h17]);first|done|rfl)|((first|simp only[cN,if_neg h17]|simp only[cN,if_pos h17]);done)|((first|simp only[cN,if_neg h17]|simp only[cN,if_pos h17]);exact congrArg D.s (vD _ _ _))|exact qz
 refine rD [2,4,77] (s1 (pq [(0,73)] (qJ (cN l)) rfl rfl rfl rfl rfl rfl rfl (fun j hj=>by(obtain rfl:j=0:=by simpa[nE,bX,iH] using hj);rfl) (ai (by exact⟨aT _,(congrArg aC (cC _)).symm⟩) (s1 (ai (by exact(congrArg aC (cC _)).symm) (s1 (ai (by kernel_rfl) (cd rfl (fun c77=> ?_) fun c77=> ?_))))))))
 · refine sq (rT [2,3] (s3 (rt (bN rfl rfl ?_))))
   have hno:lG l=false:=by(simp[cC] at c77;simp[lG,c77])
   simp only[fX,hno,Bool.false_eq_true,if_false,az]
   rfl
 refine sk (sq (rT [2,3] (s3 (rt (bN rfl rfl ?_)))))
 have hyes:lG l=true:=by(simp[cC] at c77;rcases hL with h|h<;>simp[lG,h,c77])
 simp only[fX,hyes,if_true]
 rfl
theorem cP (l:List UInt8) (p n:Int) (hp:0≤p∧p≤1000000) (hl:l.length≤2000):Sp 41 2 [tP 0 0,tI 1 n,oB 0 92 [.d (.sl (aC l)),.d (.i (p))]] [tI 0 (aP l p n),oB 0 92 [.d (.sl (aC l)),.d (.i (p+1))]]:=by
 refine sb Tryz.func41 rfl (sq (rT [0,1,18,19,20,21,22,23] (s1 (sq (rT [0,1,18,19,20,21,22,23] (s9 (sq (sq (wa [tP 0 0,tI 1 n,oB 0 92 [.d (.sl (aC l)),.d (.i (p+1))]] [] [] ?_ ?_)))))))))
 · repeat' apply ai
   all_goals first|exact qx|exact congrArg D.i (aF (by omega))|exact qz
 refine rT [0,1,24] (s3 (y4 (y2 (ai pk (cd rfl (fun c24=> ?_) fun c24=> ?_)))))
 · refine sq (rT [4] (s1 (rt (rq [] [] rfl ?_))))
   repeat' apply ai
   all_goals try exact qx
   all_goals first|with_reducible rfl|skip
   refine congrArg D.i ?_
   unfold aP
   refine(if_pos ?_).symm
   by_cases h9:n<1
   · exact .inl h9
   right;simp[h9,aT,gb] at c24;simp[c24]
 have hn:1≤n∧1≤((aC l).length:Int):=by
  by_cases h9:n<1
  · simp[h9] at c24
  · refine⟨by omega,?_⟩;simp[h9,aT,gb] at c24 ⊢; have:=List.length_pos_iff.2 c24;omega
 have hlr:=aT l
 refine sk (sq (rT [0,1,5] (s6 (sq (sq (wa [tP 0 0,tI 1 n,tI 5 p,oB 0 92 [.d (.sl (aC l)),.d (.i (p+1))]] [] [] ?_ ?_))))))
 · repeat' apply ai
   all_goals first|exact qx|((refine congrArg D.i ?_;rw[aF (by omega)];omega))|exact qz
 refine rT [0,1,5,36] (s7 (cd rfl (fun c36=> ?_) fun c36=> ?_))
 · have hi:p< ((aC l).length:Int):=by simpa using c36
   refine sq (rT [4] (s5 (ai (ixB (by omega) (by omega)) (ai (ldB (by omega) (by omega)) (s2 (ai (by omega) (s1 (rt (rq [] [] rfl ?_)))))))))
   repeat' apply ai
   all_goals try exact qx
   all_goals first|with_reducible rfl|skip
   refine congrArg D.i ?_
   rw[yy hp.1 (by omega)]
   unfold aP
   rw[if_neg (by omega),if_pos (by omega)]
 have hi: ¬p< ((aC l).length:Int):=by simpa using c36
 refine sk (sq ?_)
 have r1:=mG (x:=p) (n:=((aC l).length:Int)) hp.1 (by omega)
 have r2:=mG (x:=wrap64 (wrap64 (p*7)+3)) (n:=((aC l).length:Int)) (by rw[aF (n:=p*7) (by omega),aF (by omega)];omega) (by omega)
 have r3:=oA (x:=p) (n:=((aC l).length:Int)) hp.1 (by omega)
 refine rD [1,6] (s9 (s1 (ai (by omega) (ai (ixB (by omega) (by omega)) (ai (ldB (by omega) (by omega)) (s9 (s5 (ai (by omega) (ai (ixB (by omega) (by omega)) (ai (ldB (by omega) (by omega)) (s9 (s3 (ai (by omega) (s3 (ai (by kernel_rfl) (sq (rT [1,6] (s2 (ai (by decide) (s2 (sq (rT [4] (s2 (ai (by omega) (s1 (rt (rq [] [] rfl ?_)))))))))))))))))))))))))))
 repeat' apply ai
 all_goals try exact qx
 all_goals first|with_reducible rfl|skip
 refine congrArg D.i ?_
 rw[yy r1.1 (by omega),yy r2.1 (by omega)]
 unfold aP
 rw[if_neg (by omega),if_neg (by omega),hlr]
theorem vh (l:List UInt8) (hl:l.length≤140737488355328):Sp 33 1 [tD 0 (.sl (aC l))] [tP 0 0,oB 0 92 [.d (.sl (aC (l.take 2000))),.d (.i (0))]]:=by
 refine sb Tryz.func33 rfl (sq (rT [0] (s1 (sq (sq (rT [0,5] (s3 (cd rfl (fun c5=> ?_) fun c5=> ?_))))))))
 · refine rT [0] (s1 (ai (by refine⟨by simp[bnd,fE,gF,aT] at *; omega,uC l⟩) (s1 (sq (rT [2] (s4 (rt (rq [(0,10)] [] rfl ?_))))))))
   repeat' apply ai
   all_goals try exact qx
   all_goals first|with_reducible rfl|skip
   first|exact congrArg D.sl (vE l 0 2000)|(refine congrArg D.sl (congrArg aC ?_);symm;apply List.take_of_length_le;simp[aT] at c5;omega)
 refine sk (sq (rT [2] (s4 (rt (rq [(0,10)] [] rfl ?_)))))
 repeat' apply ai
 all_goals try exact qx
 all_goals first|with_reducible rfl|skip
 first|exact congrArg D.sl (vE l 0 2000)|(refine congrArg D.sl (congrArg aC ?_);symm;apply List.take_of_length_le;simp[aT] at c5;omega)
theorem aJc (l:List UInt8) (p:Int) (rs:List (List UInt8)) (hr:1≤rs.length) (hp:0≤p∧p≤1000000) (hl:l.length≤2000):tn 99 2 [tP 0 0,tD 1 (.sl (bL rs)),oB 0 92 [.d (.sl (aC l)),.d (.i (p))]] (fun s=> ∃x:List UInt8,x∈rs∧s=[tD 0 (.s x),oB 0 92 [.d (.sl (aC l)),.d (.i (p+1))]]):=by
 have hv:=cE l (p:=p) (n:=((bL rs).length:Int)) hp (by rw[aU];omega)
 have hsl:=aU rs
 refine uo Tryz.func99 rfl (sq (rT [0,1] (s1 (sq (rT [4] (s4 (bH (robj:=[(0,.box 92 [.d (.sl (aC (l))),.d (.i (p))])]) (rl:=[(0,0)]) (bor:=[]) (cP (l) (p) _ (by omega) hl) rfl rfl rfl rfl ⟨bU rfl rfl rfl rfl (cK rfl rfl (aW rfl (aD rfl (aD rfl aH)) trivial)),rfl⟩ rfl (.inl rfl) (aJ ⟨rfl,trivial⟩) (fun _ hj=>nomatch hj) (ai (ixS (by omega) (by omega)) (ai (ldS (by omega) (by omega)) (s1 (rt (cS _ ⟨rs.getD (aP l p ((bL rs).length:Int)).toNat [],?_,rfl⟩ (eE _ [] [] rfl ?_ rfl rfl)))))))))))))
 · rw[aSl,aSn (by omega)];exact List.getElem_mem _
 refine qs ?_
 repeat' first|exact qx|apply ai
 all_goals first|with_reducible rfl|exact congrArg D.s (aM2 (by omega) (by omega))
theorem rH (a:List UInt8) (n:Int) (ha:a.length=1) (hn:0≤n∧n≤100000):tn 109 2 [tD 0 (.s a),tI 1 n] (fun s=> ∃x:List UInt8,x.length≤n.toNat∧s=[tD 0 (.s x)]):=by
 refine uo Tryz.func109 rfl (sq (rT [0,1] (s1 (sq (rT [0,1,5] (s1 (sq (bk (SW.loopW (n:=n.toNat) (fun m s=> ∃(x b:List UInt8) (k:Nat),m=k∧(x.length+b.length*k≤n.toNat∧b.length≤2*n.toNat+1∧k≤n.toNat)∧s=[tD 0 (.s b),tI 1 (k),tD 5 (.s x)]) ?_ ?_)))))))))
 · refine wq [] [] (⟨[],a,n.toNat,rfl,⟨by first|(simp[ha];done)|(simp[ha];omega),by omega,by omega⟩,rfl⟩) ?_
   repeat' apply ai
   all_goals first|exact qx|(refine congrArg D.i ?_;omega)|(simp;done)|exact qz
 rintro n s ⟨x,b,k,hmk,hk,rfl⟩
 refine sq (sq (rT [0,1,5,7] (s2 (cd rfl (fun c7=> ?_) fun c7=> ?_))))
 · have hk1:0<k:=by simpa using c7
   have h11:b.length≤b.length*k:=Nat.le_mul_of_pos_right _ hk1
   refine sk (bk (sq (sq (rT [0,1,5,10] (s1 (ai (by decide) (s1 (cd rfl (fun c10=> ?_) fun c10=> ?_))))))))
   · refine rT [0,1,5] (s2 (ai (by show _≤9223372036854775807;omega) (s1 (sq (rT [0,1,5] (s2 (ai (by show _≤9223372036854775807;omega) (s1 (rT [0,1,5] (s1 (ai (by decide) (s1 ?_))))))))))))
     have hm:Int.tmod (k:Int) 2=((k % 2:Nat):Int):=by rw[Int.tmod_eq_emod_of_nonneg (by omega)];omega
     have hd:Int.tdiv (k:Int) 2=((k / 2:Nat):Int):=by rw[Int.tdiv_eq_ediv_of_nonneg (by omega)];omega
     obtain⟨j,hj⟩: ∃j,k=2*j∨k=2*j+1:=⟨k / 2,by omega⟩
     have h8:b.length*k=2*(b.length*j)∨b.length*k=2*(b.length*j)+b.length:=by
      rcases hj with h|h
      · left;rw[h,Nat.mul_left_comm]
      · right;rw[h,Nat.mul_add,Nat.mul_left_comm,Nat.mul_one]
     have h9: (b++b).length*(k / 2)=2*(b.length*j):=by
      rw[aSe,show k / 2=j by omega,aSt];omega
     have h10:b.length≤b.length*k:=Nat.le_mul_of_pos_right _ (by omega)
     first
     |(refine wq [] [] (⟨k / 2,by omega,x++b,b++b,k / 2,rfl,⟨by rw[h9,aSe];have:k % 2=1:=(by simp[hm] at c10;omega);have:=congrArg (b.length* ·) (show k=2*j+1 by omega);simp only[Nat.mul_add,Nat.mul_one,Nat.mul_left_comm b.length 2 j] at this;omega,by rw[aSe];omega,by omega⟩,rfl⟩) ?_
       repeat' apply ai
       all_goals first|exact qx|(refine congrArg D.i ?_;rw[hd,aF (by omega)])|exact qz)
     |(refine wq [] [] (⟨k / 2,by omega,x,b++b,k / 2,rfl,⟨by rw[h9];omega,by rw[aSe];omega,by omega⟩,rfl⟩) ?_
       repeat' apply ai
       all_goals first|exact qx|(refine congrArg D.i ?_;rw[hd,aF (by omega)])|exact qz)
   refine sk (sq (rT [0,1,5] (s2 (ai (by show _≤9223372036854775807;omega) (s1 (rT [0,1,5] (s1 (ai (by decide) (s1 ?_)))))))))
   have hm:Int.tmod (k:Int) 2=((k % 2:Nat):Int):=by rw[Int.tmod_eq_emod_of_nonneg (by omega)];omega
   have hd:Int.tdiv (k:Int) 2=((k / 2:Nat):Int):=by rw[Int.tdiv_eq_ediv_of_nonneg (by omega)];omega
   obtain⟨j,hj⟩: ∃j,k=2*j∨k=2*j+1:=⟨k / 2,by omega⟩
   have h8:b.length*k=2*(b.length*j)∨b.length*k=2*(b.length*j)+b.length:=by
    rcases hj with h|h
    · left;rw[h,Nat.mul_left_comm]
    · right;rw[h,Nat.mul_add,Nat.mul_left_comm,Nat.mul_one]
   have h9: (b++b).length*(k / 2)=2*(b.length*j):=by
    rw[aSe,show k / 2=j by omega,aSt];omega
   have h10:b.length≤b.length*k:=Nat.le_mul_of_pos_right _ (by omega)
   first
   |(refine wq [] [] (⟨k / 2,by omega,x++b,b++b,k / 2,rfl,⟨by rw[h9,aSe];have:k % 2=1:=(by simp[hm] at c10;omega);have:=congrArg (b.length* ·) (show k=2*j+1 by omega);simp only[Nat.mul_add,Nat.mul_one,Nat.mul_left_comm b.length 2 j] at this;omega,by rw[aSe];omega,by omega⟩,rfl⟩) ?_
     repeat' apply ai
     all_goals first|exact qx|(refine congrArg D.i ?_;rw[hd,aF (by omega)])|exact qz)
   |(refine wq [] [] (⟨k / 2,by omega,x,b++b,k / 2,rfl,⟨by rw[h9];omega,by rw[aSe];omega,by omega⟩,rfl⟩) ?_
     repeat' apply ai
     all_goals first|exact qx|(refine congrArg D.i ?_;rw[hd,aF (by omega)])|exact qz)
 refine xt (sq (rT [4] (s2 (rt ?_))))
 exact cS _ ⟨x,by omega,rfl⟩ (bQ rfl rfl)
end Go.Proofs.YtcbjphphppaoiaaGreatDoor
namespace Go.Ab
open Int renaming toNat_natCast→aSd
open List renaming length_append→aSe,length_nil→aSh,length_cons→aSi,length_take→aSk,getD_eq_getElem?_getD→aSl,getElem?_eq_some_iff→aSm,getElem?_eq_getElem→aSn,range→aSp,mem_map→aSq,length_drop→aSr,mem_singleton→aSs,all_eq_true→aSu,take_length→aSv,mem_cons→aSw
open Nat renaming le_of_ble_eq_true→aSf,zero_le→aSj,le_refl→aSo,add_mul→aSt
open Bool renaming and_eq_true→aSg
open Go Go.RowKit
set_option linter.unusedVariables false
structure eS where
 tm:Int
 ks:List aO
 ls:List Bool
 a:Nat
 b:Nat
 c:Nat
 d:Nat
def eS.ok (W:eS):Prop:=tl W.ks W.ls W.a W.b W.c
structure eS.of (W W0:eS) (m:Nat):Prop where
 ok:W.ok
 few:W.d≤W0.d+m
theorem eS.of.refl {W:eS} (h:W.ok):W.of W 0:=⟨h,aSo _⟩
theorem eS.of.trans {W1 W2 W0:eS} {m n:Nat} (h:W1.of W0 m) (k:W2.of W1 n):W2.of W0 (m+n):=⟨k.ok,by have:=h.few;have:=k.few;omega⟩
theorem eS.of.le {W W0:eS} {m n:Nat} (h:W.of W0 m) (hn:m≤n):W.of W0 n:=⟨h.ok,by have:=h.few;omega⟩
def fZ (n:Int):aO:=if eB n then⟨n,true,[],0,[]⟩ else .zero
def pO (n:Nat):List aO:=(aSp n).map fun i:Nat=>fZ (i:Int)
theorem kT (n:Nat): (pO n).length=n:=by simp[pO]
theorem aAs (n:Nat):pO (n+1)=pO n++[fZ (n:Int)]:=by simp[pO,List.range_succ]
theorem ni (l:List aO) (k:aO):aG l++[k.row]=aG (l++[k]):=by simp[aG]
theorem pP (n:Nat):aG (pO n)++[(fZ (n:Int)).row]=aG (pO (n+1)):=by rw[aAs,ni]
def yes (n:Nat):List Bool:=List.replicate n true
theorem qM (n:Nat): (yes n).length=n:=by simp[yes]
theorem sS (n:Nat):aK (yes n)++[[.b true]]=aK (yes (n+1)):=by
 rw[yes,yes,List.replicate_succ']
 simp[aK]
theorem ir (n:Int):mz (fZ n):=by
 unfold fZ
 split
 · exact⟨aSj _,aSj _,fun x h=>by cases h⟩
 · exact pK
def eT:eS:=⟨0,pO 4,yes 3,0,0,0,0⟩
theorem mu:eT.ok:=⟨kT 4,fun k hk=>by
 obtain⟨i,_,rfl⟩:=aSq.1 hk
 exact ir _,qM 3,aSj _,aSj _,aSj _⟩
set_option linter.unusedSimpArgs false
abbrev R1 (x:Int):Prop:= -1≤x∧x≤1001
def ND (n:bB):Prop:=(R1 n.frm∧R1 n.num∧R1 n.to∧R1 n.til)∧n.text.length≤60
theorem lh {n:Int} (h:R1 n): (fv n).length≤8:=by
 have q1:=cA (k:=6) (n:=(-n).toNat) (by simp;omega)
 have q2:=cA (k:=6) (n:=n.toNat) (by simp;omega)
 unfold fv
 split
 · rw[aSi];omega
 · omega
theorem aOr {n:bB} (h:eZ n=true):ND n:=by
 unfold eZ eB vF at h
 simp only[aSg,gX,decide_eq_true_eq] at h
 refine⟨⟨?_,?_,?_,?_⟩,?_⟩<;>first|(unfold R1;omega)|omega
theorem dP {l:List Int} {j:Nat} (h: ∀v∈l,R1 v) (hj:j<l.length):R1 (dc (((cR l).getD j []).getD 0 (.i 0))):=by
 rw[dF hj]
 exact h _ (dU (z:=0) hj)
theorem aG4:ND .zero:=⟨⟨⟨by decide,by decide⟩,⟨by decide,by decide⟩,⟨by decide,by decide⟩,⟨by decide,by decide⟩⟩,aSj _⟩
structure KD (k:aR):Prop where
 id:R1 k.id
 time:R1 k.time
 few:k.held.length≤7∧k.marks.length≤13∧k.inbox.length≤7
 held: ∀x∈k.held,ND x
 inbox: ∀x∈k.inbox,ND x
theorem KD.kb {k:aR} (h:KD k):KB k:=⟨⟨by have:=h.few;omega,by have:=h.few;omega,by have:=h.few;omega⟩,fun x hx=>by have:=(h.held x hx).2;omega,fun x hx=>by have:=(h.inbox x hx).2;omega⟩
theorem aNm:KD .zero:=⟨⟨by decide,by decide⟩,⟨by decide,by decide⟩,⟨aSj _,aSj _,aSj _⟩,fun x h=>(by cases h),fun x h=>(by cases h)⟩
theorem aSa {k:aR} (h:dS k=true):KD k∧k.held.length≤6∧k.marks.length≤12∧k.inbox.length≤6:=by
 have h6:=eC h
 obtain⟨⟨h1,h2,_⟩,⟨h4,h5,h7⟩,_⟩:=(bV k).1 h
 have e1:R1 k.id:=by unfold eB at h1;simp only[gX,aSg,decide_eq_true_eq] at h1;omega
 have e2:R1 k.time:=by omega
 exact⟨⟨e1,e2,⟨by have:=h6.1;omega,by have:=h6.1;omega,by have:=h6.1;omega⟩,fun x hx=>aOr (oK h4 hx),fun x hx=>aOr (oK h7 hx)⟩,h6.1⟩
def OZ (k:aR):Prop:=dS k=true∨k= .zero
theorem OZ.kd {k:aR} (h:OZ k):KD k∧k.held.length≤6∧k.marks.length≤12∧k.inbox.length≤6:=by
 rcases h with h|rfl
 · exact aSa h
 · exact⟨aNm,aSj _,aSj _,aSj _⟩
theorem aSb (k:aR) (rec:List UInt8):OZ (bY k rec).1:=by
 by_cases h: (bY k rec).2=true
 · exact .inl (ki h)
 · unfold bY at h ⊢
   split
   · rename_i hk
     rw[if_pos hk] at h
     unfold kY at h ⊢
     split
     · rename_i hx;rw[if_pos hx] at h;exact(h rfl).elim
     · exact .inl hk
   · exact .inr rfl
theorem aDe (n:Int):OZ (aY n):=by
 by_cases h:eB n=true
 · have e:aY n=⟨n,0,1,[],[],[]⟩:=if_pos h
   rw[e]
   refine .inl ((bV _).2 ⟨⟨h,⟨Int.le_refl _,?_⟩,⟨Int.le_refl _,?_⟩,aSj _,aSj _,aSj _⟩,⟨rfl,rfl,rfl⟩,rfl,rfl,rfl⟩)
   · show(0:Int)≤999;omega
   · show(1:Int)≤100;omega
 · exact .inr (if_neg h)
theorem aLo (k:aO):OZ (dI k):=by
 by_cases h:bF k=true
 · rw[kK h];exact .inl (gN h)
 · unfold dI;rw[if_neg h];exact .inr rfl
theorem KD.held_at {k:aR} (h:KD k) {i:Nat} (hi:i<k.held.length):ND (k.held.getD i .zero):=h.held _ (dU hi)
theorem KD.inbox_at {k:aR} (h:KD k) {i:Nat} (hi:i<k.inbox.length):ND (k.inbox.getD i .zero):=h.inbox _ (dU hi)
end Go.Ab
namespace Go.Proofs.YtcbjphphppaoiaaGreatDoor
open Int renaming toNat_natCast→aSd
open List renaming length_append→aSe,length_nil→aSh,length_cons→aSi,length_take→aSk,getD_eq_getElem?_getD→aSl,getElem?_eq_some_iff→aSm,getElem?_eq_getElem→aSn,range→aSp,mem_map→aSq,length_drop→aSr,mem_singleton→aSs,all_eq_true→aSu,take_length→aSv,mem_cons→aSw
open Nat renaming le_of_ble_eq_true→aSf,zero_le→aSj,le_refl→aSo,add_mul→aSt
open Bool renaming and_eq_true→aSg
open Go Go.Ab Go.RowKit
set_option linter.unusedVariables false
set_option linter.unusedSimpArgs false
set_option maxRecDepth 9000
theorem ta (l:List UInt8) (p:Int) (hp:0≤p∧p≤900000) (hl:l.length≤2000):tn 100 1 [tP 0 0,oB 0 92 [.d (.sl (aC l)),.d (.i (p))]] (fun s=> ∃(x:List UInt8) (q:Int),(p≤q∧q≤p+40∧x.length≤60)∧s=[tD 0 (.s x),oB 0 92 [.d (.sl (aC l)),.d (.i (q))]]):=by
 have hl2:=hl
 refine uo Tryz.func100 rfl (sq (rT [0] (s1 (sq (sq (rT [0,6] (s1 (bH (robj:=[(0,.box 92 [.d (.sl (aC (l))),.d (.i (p))])]) (rl:=[(0,0)]) (bor:=[]) (cP (l) (p) _ (by omega) hl2) rfl rfl rfl rfl ⟨bU rfl rfl rfl rfl (cK rfl rfl (aW rfl (aD rfl (aD rfl aH)) trivial)),rfl⟩ rfl (.inl rfl) (aJ ⟨rfl,trivial⟩) (fun _ hj=>nomatch hj) (bk (sq (rT [0,6,7] (s2 (cd rfl (fun c7=> ?_) fun c7=> ?_)))))))))))))
 · refine sq (rE [2] (s1 (cU (robj:=[]) (rl:=[]) (bor:=[]) (news:=[]) (rH [120] 24 rfl (by omega)) rfl rfl rfl rfl ⟨cK rfl rfl (cK rfl rfl (trivial)),rfl⟩ (by rintro _ ⟨x1,hx1,rfl⟩;exact⟨rfl,.inl rfl,fun j hj=>nomatch hj⟩) (fun p hp=>nomatch hp) (fun j hj=>nomatch hj) ?_)))
   rintro _ ⟨x1,hx1,rfl⟩
   refine cU (robj:=[]) (rl:=[]) (bor:=[]) (news:=[]) (rH [121] 25 rfl (by omega)) rfl rfl rfl rfl ⟨cK rfl rfl (cK rfl rfl (trivial)),rfl⟩ (by rintro _ ⟨x2,hx2,rfl⟩;exact⟨rfl,.inl rfl,fun j hj=>nomatch hj⟩) (fun p hp=>nomatch hp) (fun j hj=>nomatch hj) ?_
   rintro _ ⟨x2,hx2,rfl⟩
   refine ai (by exact⟨by simp,aSf rfl⟩) (wW 12 12 rfl rfl rfl rfl (cU (robj:=[(0,.box 92 [.d (.sl (aC (l))),.d (.i (p+1))])]) (rl:=[(0,0)]) (bor:=[]) (news:=[]) (aJc (l) (p+1) (([[],x1,x2,[0,1],[97,10]]:List (List UInt8))) (by simp) (by omega) hl2) rfl rfl rfl rfl ⟨bU rfl rfl rfl rfl (cK rfl rfl (aW rfl (aD rfl (aD rfl aH)) trivial)),rfl⟩ (by rintro _ ⟨x,hx,rfl⟩;exact⟨rfl,.inl rfl,fun j hj=>nomatch hj⟩) (aJ ⟨rfl,trivial⟩) (fun j hj=>nomatch hj) ?_))
   rintro _ ⟨x,hx,rfl⟩
   refine s1 (rt (cS _ ⟨x,p+1+1,⟨by omega,by omega,?_⟩,rfl⟩ (eE _ [] [] rfl ?_ rfl rfl)))
   · simp at hx;rcases hx with rfl|rfl|rfl|rfl|rfl<;>first|omega|(simp;done)
   refine qs ?_
   repeat' first|exact qx|apply ai
   all_goals rfl
 refine sq (rT [0,14] (s2 (cd rfl (fun c14=> ?_) fun c14=> ?_)))
 · refine sq (rT [0,3] (s2 (sq (sq (rT [0,3,4] (s1 (bH (robj:=[(0,.box 92 [.d (.sl (aC (l))),.d (.i (p+1))])]) (rl:=[(0,0)]) (bor:=[]) (cP (l) (p+1) _ (by omega) hl2) rfl rfl rfl rfl ⟨bU rfl rfl rfl rfl (cK rfl rfl (aW rfl (aD rfl (aD rfl aH)) trivial)),rfl⟩ rfl (.inl rfl) (aJ ⟨rfl,trivial⟩) (fun _ hj=>nomatch hj) (s2 (bk ?_)))))))))
   have hv:=cE l (p:=p+1) (n:=20) (by omega) (by omega)
   refine SW.loopW (n:=(wrap64 (1+aP l (p+1) 20)).toNat) (fun m s=> ∃(k q:Int) (b:List UInt8),m=k.toNat∧(0≤k∧k≤20∧p≤q∧q+k≤p+30∧b.length+k≤20)∧s=[tP 0 0,tO 3 16 (b).length,tI 4 (k),oB 0 92 [.d (.sl (aC l)),.d (.i (q))],oR 16 5 1 (aC (b))]) ?_ ?_
   · refine wq (σ':=[tP 0 0,tO 3 16 ([]).length,tI 4 ((wrap64 (1+aP l (p+1) 20))),oB 0 92 [.d (.sl (aC l)),.d (.i (p+1+1))],oR 16 5 1 (aC ([]))]) [] [] (⟨_,p+1+1,[],rfl,⟨by rw[aF (by omega)];omega,by rw[aF (by omega)];omega,by omega,by rw[aF (by omega)];omega,by rw[aF (by omega)];simp;omega⟩,rfl⟩) ?_
     repeat' apply ai
     all_goals first|exact qx|rfl|(simp[aC];done)|exact qz
   rintro n s ⟨k,q,b,rfl,hk,rfl⟩
   refine sq (sq (rT [0,3,4,21] (s2 (cd rfl (fun c21=> ?_) fun c21=> ?_))))
   · have hk1:0<k:=by simpa using c21
     refine sk (sq (bk (rT [0,3,4] (s2 (bH (robj:=[(0,.box 92 [.d (.sl (aC (l))),.d (.i (q))])]) (rl:=[(0,0)]) (bor:=[]) (cP (l) (q) _ (by omega) hl2) rfl rfl rfl rfl ⟨bU rfl rfl rfl rfl (cK rfl rfl (aW rfl (aD rfl (aD rfl aH)) trivial)),rfl⟩ rfl (.inl rfl) (aJ ⟨rfl,trivial⟩) (fun _ hj=>nomatch hj) (s2 (ai (by refine⟨rfl,aT _,by simp,?_⟩;show(_+1)*1≤_;omega) (s1 (rT [0,3,4] (s3 (wq [] [] (⟨(k - 1).toNat,by omega,k - 1,q+1,b++[u8 (aP l q 256)],rfl,⟨by omega,by omega,by omega,by omega,by rw[aSe];simp;omega⟩,rfl⟩) ?_)))))))))))
     repeat' apply ai
     all_goals first|exact qx|exact ww _ _|(simp[aT];done)|exact congrArg D.i (aF (by omega))|exact qz
   refine xt (sq (rT [2] (s1 (ai (by exact⟨aT _,(congrArg aC (cC _)).symm⟩) (s1 (rt (cS _ ⟨b,q,⟨by omega,by omega,by omega⟩,rfl⟩ (eE _ [] [] rfl ?_ rfl rfl))))))))
   refine qs ?_
   repeat' first|exact qx|apply ai
   all_goals first|with_reducible rfl|exact congrArg D.s (cC b)
 refine sk (sq (rE [2] (s1 (ai (by exact⟨by simp,by decide⟩) (wW 33 33 rfl rfl rfl rfl (cU (robj:=[(0,.box 92 [.d (.sl (aC (l))),.d (.i (p+1))])]) (rl:=[(0,0)]) (bor:=[]) (news:=[]) (aJc (l) (p+1) (([[97],[97,98,99,100],[104,101,108,108,111],[49,50,51,52,53,54,55,56],[97,32,108,111,110,103,101,114,32,109,101,115,115,97,103,101],[106,117,115,116,32,116,119,101,110,116,121,45,102,111,117,114,32,98,121,116,101,115,32,33],[109,105,120,101,100,32,98,108,111,99,107,115],[102,111,117,114,32,119,111,114,100,115,32,111,102,32,97,32,116,101,120,116]]:List (List UInt8))) (by simp) (by omega) hl2) rfl rfl rfl rfl ⟨bU rfl rfl rfl rfl (cK rfl rfl (aW rfl (aD rfl (aD rfl aH)) trivial)),rfl⟩ (by rintro _ ⟨x,hx,rfl⟩;exact⟨rfl,.inl rfl,fun j hj=>nomatch hj⟩) (aJ ⟨rfl,trivial⟩) (fun j hj=>nomatch hj) ?_))))))
 rintro _ ⟨x,hx,rfl⟩
 refine s1 (rt (cS _ ⟨x,p+1+1,⟨by omega,by omega,?_⟩,rfl⟩ (eE _ [] [] rfl ?_ rfl rfl)))
 · have hall: ∀y∈([[97],[97,98,99,100],[104,101,108,108,111],[49,50,51,52,53,54,55,56],[97,32,108,111,110,103,101,114,32,109,101,115,115,97,103,101],[106,117,115,116,32,116,119,101,110,116,121,45,102,111,117,114,32,98,121,116,101,115,32,33],[109,105,120,101,100,32,98,108,111,99,107,115],[102,111,117,114,32,119,111,114,100,115,32,111,102,32,97,32,116,101,120,116]]:List (List UInt8)),y.length≤60:=by decide
   exact hall x hx
 refine qs ?_
 repeat' first|exact qx|apply ai
 all_goals rfl
set_option maxHeartbeats 1600000 in
theorem pQ (l:List UInt8) (p:Int) (hp:0≤p∧p≤800000) (hl:l.length≤2000):tn 66 1 [tP 0 0,oB 0 92 [.d (.sl (aC l)),.d (.i (p))]] (fun s=> ∃(n:bB) (q:Int),ND n∧(p≤q∧q≤p+60)∧s=[tV 0 (.e (.agg [.d (.i n.frm),.d (.i n.num),.d (.i n.to),.d (.i n.til),.d (.s n.text)])),oB 0 92 [.d (.sl (aC l)),.d (.i (q))]]):=by
 have pv0:=cE l (p:=p) (n:=4) (by omega) (by omega)
 have pv1:=cE l (p:=p+1) (n:=5) (by omega) (by omega)
 have pv2:=cE l (p:=p+1+1) (n:=4) (by omega) (by omega)
 have pv3:=cE l (p:=p+1+1+1) (n:=30) (by omega) (by omega)
 have hl2:=hl
 have hall: ∀y∈([[97],[104,101,108,108,111],[97,32,108,111,110,103,101,114,32,109,101,115,115,97,103,101],[32,120,32],[106,117,115,116,32,116,119,101,110,116,121,45,102,111,117,114,32,98,121,116,101,115,32,33]]:List (List UInt8)),y.length≤60:=by decide
 refine uo Tryz.func66 rfl (sq (rT [0,2] (s1 (sq (rE [0,2,3] (s1 (gQ (bH (robj:=[(0,.box 92 [.d (.sl (aC (l))),.d (.i (p))])]) (rl:=[(0,0)]) (bor:=[]) (cP (l) (p) _ (by omega) hl2) rfl rfl rfl rfl ⟨bU rfl rfl rfl rfl (cK rfl rfl (aW rfl (aD rfl (aD rfl aH)) trivial)),rfl⟩ rfl (.inl rfl) (aJ ⟨rfl,trivial⟩) (fun _ hj=>nomatch hj) (s1 (gQ (bH (robj:=[(0,.box 92 [.d (.sl (aC (l))),.d (.i (p+1))])]) (rl:=[(0,0)]) (bor:=[]) (cP (l) (p+1) _ (by omega) hl2) rfl rfl rfl rfl ⟨bU rfl rfl rfl rfl (cK rfl rfl (aW rfl (aD rfl (aD rfl aH)) trivial)),rfl⟩ rfl (.inl rfl) (aJ ⟨rfl,trivial⟩) (fun _ hj=>nomatch hj) (s2 (gQ (bH (robj:=[(0,.box 92 [.d (.sl (aC (l))),.d (.i (p+1+1))])]) (rl:=[(0,0)]) (bor:=[]) (cP (l) (p+1+1) _ (by omega) hl2) rfl rfl rfl rfl ⟨bU rfl rfl rfl rfl (cK rfl rfl (aW rfl (aD rfl (aD rfl aH)) trivial)),rfl⟩ rfl (.inl rfl) (aJ ⟨rfl,trivial⟩) (fun _ hj=>nomatch hj) ?_))))))))))))))
 refine s1 (gQ (bH (robj:=[(0,.box 92 [.d (.sl (aC (l))),.d (.i (p+1+1+1))])]) (rl:=[(0,0)]) (bor:=[]) (cP (l) (p+1+1+1) _ (by omega) hl2) rfl rfl rfl rfl ⟨bU rfl rfl rfl rfl (cK rfl rfl (aW rfl (aD rfl (aD rfl aH)) trivial)),rfl⟩ rfl (.inl rfl) (aJ ⟨rfl,trivial⟩) (fun _ hj=>nomatch hj) (s2 (ai (by exact⟨by simp,by decide⟩) (wW 15 15 rfl rfl rfl rfl (cU (robj:=[(0,.box 92 [.d (.sl (aC (l))),.d (.i (p+1+1+1+1))])]) (rl:=[(0,0)]) (bor:=[]) (news:=[]) (aJc (l) (p+1+1+1+1) (([[97],[104,101,108,108,111],[97,32,108,111,110,103,101,114,32,109,101,115,115,97,103,101],[32,120,32],[106,117,115,116,32,116,119,101,110,116,121,45,102,111,117,114,32,98,121,116,101,115,32,33]]:List (List UInt8))) (by simp) (by omega) hl2) rfl rfl rfl rfl ⟨bU rfl rfl rfl rfl (cK rfl rfl (aW rfl (aD rfl (aD rfl aH)) trivial)),rfl⟩ (by rintro _ ⟨x,hx,rfl⟩;exact⟨rfl,.inl rfl,fun j hj=>nomatch hj⟩) (aJ ⟨rfl,trivial⟩) (fun j hj=>nomatch hj) ?_))))))
 rintro _ ⟨x,hx,rfl⟩
 refine s3 (sq (sq (rT [0,2,3,19] (s1 (bH (robj:=[(0,.box 92 [.d (.sl (aC (l))),.d (.i (p+1+1+1+1+1))])]) (rl:=[(0,0)]) (bor:=[]) (cP (l) (p+1+1+1+1+1) _ (by omega) hl2) rfl rfl rfl rfl ⟨bU rfl rfl rfl rfl (cK rfl rfl (aW rfl (aD rfl (aD rfl aH)) trivial)),rfl⟩ rfl (.inl rfl) (aJ ⟨rfl,trivial⟩) (fun _ hj=>nomatch hj) (bk (sq (rT [0,2,3,19,20] (s2 (cd rfl (fun c20=> ?_) fun c20=> ?_))))))))))
 · have hv:=cE l (p:=p+1+1+1+1+1+1) (n:=2) (by omega) (by omega)
   refine rT [2,3] (ai (by exact⟨by simp,by decide⟩) (s1 (bH (robj:=[(0,.box 92 [.d (.sl (aC (l))),.d (.i (p+1+1+1+1+1+1))])]) (rl:=[(0,0)]) (bor:=[]) (cP (l) (p+1+1+1+1+1+1) _ (by omega) hl2) rfl rfl rfl rfl ⟨bU rfl rfl rfl rfl (cK rfl rfl (aW rfl (aD rfl (aD rfl aH)) trivial)),rfl⟩ rfl (.inl rfl) (aJ ⟨rfl,trivial⟩) (fun _ hj=>nomatch hj) (ai ⟨rfl,hv.1,hv.2⟩ (ai (aEs (l:=[-1,4]) (by simp;omega) rfl) (s2 (sq (rT [2] (s2 (rt ?_))))))))))
   first
    |(refine cS _ ⟨⟨?za1,?zb1,?zc1,?zd1,x⟩,p+1+1+1+1+1+1+1,?zn1,⟨by omega,by omega⟩,rfl⟩ (eE _ [] [] rfl ?_ rfl rfl)
      repeat' first|exact trivial|refine kN rfl ?_|refine cK rfl ?_ ?_|refine iQ rfl rfl ?_ rfl ?_|refine bT rfl ?_ ?_|refine bU rfl rfl rfl rfl ?_|refine aW rfl ?_ ?_|refine cY rfl ?_ ?_|exact aH|refine aD ?_ ?_|refine iK ?_|refine bI rfl ?_ rfl ?_|refine dZ rfl rfl rfl ?_
      try any_goals with_reducible rfl
      try any_goals rfl
      refine⟨⟨?_,?_,?_,?_⟩,?_⟩
      all_goals(try dsimp only)
      all_goals first|exact hall x hx|omega|(refine⟨?_,?_⟩<;>rw[aF (by omega)]<;>omega)|exact dP (l:=[-1,4]) (j:=(aP l (p+1+1+1+1+1+1) 2).toNat) (by decide) (by simp;omega)|exact dP (l:=[0,99,100]) (j:=(aP l (p+1+1+1+1+1+1) 3).toNat) (by decide) (by simp;omega)|exact dP (l:=[0,999,1000]) (j:=(aP l (p+1+1+1+1+1+1) 3).toNat) (by decide) (by simp;omega)
      done)
    |(refine cS _ ⟨⟨?za1,?zb1,?zc1,?zd1,x⟩,p+1+1+1+1+1+1,?zn1,⟨by omega,by omega⟩,rfl⟩ (eE _ [] [] rfl ?_ rfl rfl)
      repeat' first|exact trivial|refine kN rfl ?_|refine cK rfl ?_ ?_|refine iQ rfl rfl ?_ rfl ?_|refine bT rfl ?_ ?_|refine bU rfl rfl rfl rfl ?_|refine aW rfl ?_ ?_|refine cY rfl ?_ ?_|exact aH|refine aD ?_ ?_|refine iK ?_|refine bI rfl ?_ rfl ?_|refine dZ rfl rfl rfl ?_
      try any_goals with_reducible rfl
      try any_goals rfl
      refine⟨⟨?_,?_,?_,?_⟩,?_⟩
      all_goals(try dsimp only)
      all_goals first|exact hall x hx|omega|(refine⟨?_,?_⟩<;>rw[aF (by omega)]<;>omega)|exact dP (l:=[-1,4]) (j:=(aP l (p+1+1+1+1+1+1) 2).toNat) (by decide) (by simp;omega)|exact dP (l:=[0,99,100]) (j:=(aP l (p+1+1+1+1+1+1) 3).toNat) (by decide) (by simp;omega)|exact dP (l:=[0,999,1000]) (j:=(aP l (p+1+1+1+1+1+1) 3).toNat) (by decide) (by simp;omega)
      done)
    |(refine cS _ ⟨⟨?za1,?zb1,?zc1,?zd1,y⟩,q,?zn1,⟨by omega,by omega⟩,rfl⟩ (eE _ [] [] rfl ?_ rfl rfl)
      repeat' first|exact trivial|refine kN rfl ?_|refine cK rfl ?_ ?_|refine iQ rfl rfl ?_ rfl ?_|refine bT rfl ?_ ?_|refine bU rfl rfl rfl rfl ?_|refine aW rfl ?_ ?_|refine cY rfl ?_ ?_|exact aH|refine aD ?_ ?_|refine iK ?_|refine bI rfl ?_ rfl ?_|refine dZ rfl rfl rfl ?_
      try any_goals with_reducible rfl
      try any_goals rfl
      refine⟨⟨?_,?_,?_,?_⟩,?_⟩
      all_goals(try dsimp only)
      all_goals first|exact hq.2.2|omega|(refine⟨?_,?_⟩<;>rw[aF (by omega)]<;>omega)|exact dP (l:=[-1,4]) (j:=(aP l (p+1+1+1+1+1+1) 2).toNat) (by decide) (by simp;omega)|exact dP (l:=[0,99,100]) (j:=(aP l (p+1+1+1+1+1+1) 3).toNat) (by decide) (by simp;omega)|exact dP (l:=[0,999,1000]) (j:=(aP l (p+1+1+1+1+1+1) 3).toNat) (by decide) (by simp;omega)
      done)
 refine sq (rT [0,2,3,19,28] (s2 (cd rfl (fun c28=> ?_) fun c28=> ?_)))
 · have hv:=cE l (p:=p+1+1+1+1+1+1) (n:=3) (by omega) (by omega)
   refine rT [2,3] (ai (by exact⟨by simp,by decide⟩) (s1 (bH (robj:=[(0,.box 92 [.d (.sl (aC (l))),.d (.i (p+1+1+1+1+1+1))])]) (rl:=[(0,0)]) (bor:=[]) (cP (l) (p+1+1+1+1+1+1) _ (by omega) hl2) rfl rfl rfl rfl ⟨bU rfl rfl rfl rfl (cK rfl rfl (aW rfl (aD rfl (aD rfl aH)) trivial)),rfl⟩ rfl (.inl rfl) (aJ ⟨rfl,trivial⟩) (fun _ hj=>nomatch hj) (ai ⟨rfl,hv.1,hv.2⟩ (ai (aEs (l:=[0,99,100]) (by simp;omega) rfl) (s2 (sq (rT [2] (s2 (rt ?_))))))))))
   first
    |(refine cS _ ⟨⟨?za2,?zb2,?zc2,?zd2,x⟩,p+1+1+1+1+1+1+1,?zn2,⟨by omega,by omega⟩,rfl⟩ (eE _ [] [] rfl ?_ rfl rfl)
      repeat' first|exact trivial|refine kN rfl ?_|refine cK rfl ?_ ?_|refine iQ rfl rfl ?_ rfl ?_|refine bT rfl ?_ ?_|refine bU rfl rfl rfl rfl ?_|refine aW rfl ?_ ?_|refine cY rfl ?_ ?_|exact aH|refine aD ?_ ?_|refine iK ?_|refine bI rfl ?_ rfl ?_|refine dZ rfl rfl rfl ?_
      try any_goals with_reducible rfl
      try any_goals rfl
      refine⟨⟨?_,?_,?_,?_⟩,?_⟩
      all_goals(try dsimp only)
      all_goals first|exact hall x hx|omega|(refine⟨?_,?_⟩<;>rw[aF (by omega)]<;>omega)|exact dP (l:=[-1,4]) (j:=(aP l (p+1+1+1+1+1+1) 2).toNat) (by decide) (by simp;omega)|exact dP (l:=[0,99,100]) (j:=(aP l (p+1+1+1+1+1+1) 3).toNat) (by decide) (by simp;omega)|exact dP (l:=[0,999,1000]) (j:=(aP l (p+1+1+1+1+1+1) 3).toNat) (by decide) (by simp;omega)
      done)
    |(refine cS _ ⟨⟨?za2,?zb2,?zc2,?zd2,x⟩,p+1+1+1+1+1+1,?zn2,⟨by omega,by omega⟩,rfl⟩ (eE _ [] [] rfl ?_ rfl rfl)
      repeat' first|exact trivial|refine kN rfl ?_|refine cK rfl ?_ ?_|refine iQ rfl rfl ?_ rfl ?_|refine bT rfl ?_ ?_|refine bU rfl rfl rfl rfl ?_|refine aW rfl ?_ ?_|refine cY rfl ?_ ?_|exact aH|refine aD ?_ ?_|refine iK ?_|refine bI rfl ?_ rfl ?_|refine dZ rfl rfl rfl ?_
      try any_goals with_reducible rfl
      try any_goals rfl
      refine⟨⟨?_,?_,?_,?_⟩,?_⟩
      all_goals(try dsimp only)
      all_goals first|exact hall x hx|omega|(refine⟨?_,?_⟩<;>rw[aF (by omega)]<;>omega)|exact dP (l:=[-1,4]) (j:=(aP l (p+1+1+1+1+1+1) 2).toNat) (by decide) (by simp;omega)|exact dP (l:=[0,99,100]) (j:=(aP l (p+1+1+1+1+1+1) 3).toNat) (by decide) (by simp;omega)|exact dP (l:=[0,999,1000]) (j:=(aP l (p+1+1+1+1+1+1) 3).toNat) (by decide) (by simp;omega)
      done)
    |(refine cS _ ⟨⟨?za2,?zb2,?zc2,?zd2,y⟩,q,?zn2,⟨by omega,by omega⟩,rfl⟩ (eE _ [] [] rfl ?_ rfl rfl)
      repeat' first|exact trivial|refine kN rfl ?_|refine cK rfl ?_ ?_|refine iQ rfl rfl ?_ rfl ?_|refine bT rfl ?_ ?_|refine bU rfl rfl rfl rfl ?_|refine aW rfl ?_ ?_|refine cY rfl ?_ ?_|exact aH|refine aD ?_ ?_|refine iK ?_|refine bI rfl ?_ rfl ?_|refine dZ rfl rfl rfl ?_
      try any_goals with_reducible rfl
      try any_goals rfl
      refine⟨⟨?_,?_,?_,?_⟩,?_⟩
      all_goals(try dsimp only)
      all_goals first|exact hq.2.2|omega|(refine⟨?_,?_⟩<;>rw[aF (by omega)]<;>omega)|exact dP (l:=[-1,4]) (j:=(aP l (p+1+1+1+1+1+1) 2).toNat) (by decide) (by simp;omega)|exact dP (l:=[0,99,100]) (j:=(aP l (p+1+1+1+1+1+1) 3).toNat) (by decide) (by simp;omega)|exact dP (l:=[0,999,1000]) (j:=(aP l (p+1+1+1+1+1+1) 3).toNat) (by decide) (by simp;omega)
      done)
 refine sq (rT [0,2,3,19,36] (s2 (cd rfl (fun c36=> ?_) fun c36=> ?_)))
 · have hv:=cE l (p:=p+1+1+1+1+1+1) (n:=3) (by omega) (by omega)
   refine rT [2,3] (ai (by exact⟨by simp,by decide⟩) (s1 (bH (robj:=[(0,.box 92 [.d (.sl (aC (l))),.d (.i (p+1+1+1+1+1+1))])]) (rl:=[(0,0)]) (bor:=[]) (cP (l) (p+1+1+1+1+1+1) _ (by omega) hl2) rfl rfl rfl rfl ⟨bU rfl rfl rfl rfl (cK rfl rfl (aW rfl (aD rfl (aD rfl aH)) trivial)),rfl⟩ rfl (.inl rfl) (aJ ⟨rfl,trivial⟩) (fun _ hj=>nomatch hj) (ai ⟨rfl,hv.1,hv.2⟩ (ai (aEs (l:=[0,999,1000]) (by simp;omega) rfl) (s2 (sq (rT [2] (s2 (rt ?_))))))))))
   first
    |(refine cS _ ⟨⟨?za3,?zb3,?zc3,?zd3,x⟩,p+1+1+1+1+1+1+1,?zn3,⟨by omega,by omega⟩,rfl⟩ (eE _ [] [] rfl ?_ rfl rfl)
      repeat' first|exact trivial|refine kN rfl ?_|refine cK rfl ?_ ?_|refine iQ rfl rfl ?_ rfl ?_|refine bT rfl ?_ ?_|refine bU rfl rfl rfl rfl ?_|refine aW rfl ?_ ?_|refine cY rfl ?_ ?_|exact aH|refine aD ?_ ?_|refine iK ?_|refine bI rfl ?_ rfl ?_|refine dZ rfl rfl rfl ?_
      try any_goals with_reducible rfl
      try any_goals rfl
      refine⟨⟨?_,?_,?_,?_⟩,?_⟩
      all_goals(try dsimp only)
      all_goals first|exact hall x hx|omega|(refine⟨?_,?_⟩<;>rw[aF (by omega)]<;>omega)|exact dP (l:=[-1,4]) (j:=(aP l (p+1+1+1+1+1+1) 2).toNat) (by decide) (by simp;omega)|exact dP (l:=[0,99,100]) (j:=(aP l (p+1+1+1+1+1+1) 3).toNat) (by decide) (by simp;omega)|exact dP (l:=[0,999,1000]) (j:=(aP l (p+1+1+1+1+1+1) 3).toNat) (by decide) (by simp;omega)
      done)
    |(refine cS _ ⟨⟨?za3,?zb3,?zc3,?zd3,x⟩,p+1+1+1+1+1+1,?zn3,⟨by omega,by omega⟩,rfl⟩ (eE _ [] [] rfl ?_ rfl rfl)
      repeat' first|exact trivial|refine kN rfl ?_|refine cK rfl ?_ ?_|refine iQ rfl rfl ?_ rfl ?_|refine bT rfl ?_ ?_|refine bU rfl rfl rfl rfl ?_|refine aW rfl ?_ ?_|refine cY rfl ?_ ?_|exact aH|refine aD ?_ ?_|refine iK ?_|refine bI rfl ?_ rfl ?_|refine dZ rfl rfl rfl ?_
      try any_goals with_reducible rfl
      try any_goals rfl
      refine⟨⟨?_,?_,?_,?_⟩,?_⟩
      all_goals(try dsimp only)
      all_goals first|exact hall x hx|omega|(refine⟨?_,?_⟩<;>rw[aF (by omega)]<;>omega)|exact dP (l:=[-1,4]) (j:=(aP l (p+1+1+1+1+1+1) 2).toNat) (by decide) (by simp;omega)|exact dP (l:=[0,99,100]) (j:=(aP l (p+1+1+1+1+1+1) 3).toNat) (by decide) (by simp;omega)|exact dP (l:=[0,999,1000]) (j:=(aP l (p+1+1+1+1+1+1) 3).toNat) (by decide) (by simp;omega)
      done)
    |(refine cS _ ⟨⟨?za3,?zb3,?zc3,?zd3,y⟩,q,?zn3,⟨by omega,by omega⟩,rfl⟩ (eE _ [] [] rfl ?_ rfl rfl)
      repeat' first|exact trivial|refine kN rfl ?_|refine cK rfl ?_ ?_|refine iQ rfl rfl ?_ rfl ?_|refine bT rfl ?_ ?_|refine bU rfl rfl rfl rfl ?_|refine aW rfl ?_ ?_|refine cY rfl ?_ ?_|exact aH|refine aD ?_ ?_|refine iK ?_|refine bI rfl ?_ rfl ?_|refine dZ rfl rfl rfl ?_
      try any_goals with_reducible rfl
      try any_goals rfl
      refine⟨⟨?_,?_,?_,?_⟩,?_⟩
      all_goals(try dsimp only)
      all_goals first|exact hq.2.2|omega|(refine⟨?_,?_⟩<;>rw[aF (by omega)]<;>omega)|exact dP (l:=[-1,4]) (j:=(aP l (p+1+1+1+1+1+1) 2).toNat) (by decide) (by simp;omega)|exact dP (l:=[0,99,100]) (j:=(aP l (p+1+1+1+1+1+1) 3).toNat) (by decide) (by simp;omega)|exact dP (l:=[0,999,1000]) (j:=(aP l (p+1+1+1+1+1+1) 3).toNat) (by decide) (by simp;omega)
      done)
 refine sq (rT [0,2,3,19,44] (s2 (cd rfl (fun c44=> ?_) fun c44=> ?_)))
 · refine rE [2,3] (s1 (cU (robj:=[(0,.box 92 [.d (.sl (aC (l))),.d (.i (p+1+1+1+1+1+1))])]) (rl:=[(0,0)]) (bor:=[]) (news:=[]) (ta l (p+1+1+1+1+1+1) (by omega) hl) rfl rfl rfl rfl ⟨bU rfl rfl rfl rfl (aW rfl (aD rfl (aD rfl aH)) trivial),rfl⟩ (by rintro _ ⟨y,q,hq,rfl⟩;exact⟨rfl,.inl rfl,fun j hj=>nomatch hj⟩) (aJ ⟨rfl,trivial⟩) (fun j hj=>nomatch hj) ?_))
   rintro _ ⟨y,q,hq,rfl⟩
   refine s2 (sq (rT [2] (s2 (rt ?_))))
   first
    |(refine cS _ ⟨⟨?za4,?zb4,?zc4,?zd4,x⟩,p+1+1+1+1+1+1+1,?zn4,⟨by omega,by omega⟩,rfl⟩ (eE _ [] [] rfl ?_ rfl rfl)
      repeat' first|exact trivial|refine kN rfl ?_|refine cK rfl ?_ ?_|refine iQ rfl rfl ?_ rfl ?_|refine bT rfl ?_ ?_|refine bU rfl rfl rfl rfl ?_|refine aW rfl ?_ ?_|refine cY rfl ?_ ?_|exact aH|refine aD ?_ ?_|refine iK ?_|refine bI rfl ?_ rfl ?_|refine dZ rfl rfl rfl ?_
      try any_goals with_reducible rfl
      try any_goals rfl
      refine⟨⟨?_,?_,?_,?_⟩,?_⟩
      all_goals(try dsimp only)
      all_goals first|exact hall x hx|omega|(refine⟨?_,?_⟩<;>rw[aF (by omega)]<;>omega)|exact dP (l:=[-1,4]) (j:=(aP l (p+1+1+1+1+1+1) 2).toNat) (by decide) (by simp;omega)|exact dP (l:=[0,99,100]) (j:=(aP l (p+1+1+1+1+1+1) 3).toNat) (by decide) (by simp;omega)|exact dP (l:=[0,999,1000]) (j:=(aP l (p+1+1+1+1+1+1) 3).toNat) (by decide) (by simp;omega)
      done)
    |(refine cS _ ⟨⟨?za4,?zb4,?zc4,?zd4,x⟩,p+1+1+1+1+1+1,?zn4,⟨by omega,by omega⟩,rfl⟩ (eE _ [] [] rfl ?_ rfl rfl)
      repeat' first|exact trivial|refine kN rfl ?_|refine cK rfl ?_ ?_|refine iQ rfl rfl ?_ rfl ?_|refine bT rfl ?_ ?_|refine bU rfl rfl rfl rfl ?_|refine aW rfl ?_ ?_|refine cY rfl ?_ ?_|exact aH|refine aD ?_ ?_|refine iK ?_|refine bI rfl ?_ rfl ?_|refine dZ rfl rfl rfl ?_
      try any_goals with_reducible rfl
      try any_goals rfl
      refine⟨⟨?_,?_,?_,?_⟩,?_⟩
      all_goals(try dsimp only)
      all_goals first|exact hall x hx|omega|(refine⟨?_,?_⟩<;>rw[aF (by omega)]<;>omega)|exact dP (l:=[-1,4]) (j:=(aP l (p+1+1+1+1+1+1) 2).toNat) (by decide) (by simp;omega)|exact dP (l:=[0,99,100]) (j:=(aP l (p+1+1+1+1+1+1) 3).toNat) (by decide) (by simp;omega)|exact dP (l:=[0,999,1000]) (j:=(aP l (p+1+1+1+1+1+1) 3).toNat) (by decide) (by simp;omega)
      done)
    |(refine cS _ ⟨⟨?za4,?zb4,?zc4,?zd4,y⟩,q,?zn4,⟨by omega,by omega⟩,rfl⟩ (eE _ [] [] rfl ?_ rfl rfl)
      repeat' first|exact trivial|refine kN rfl ?_|refine cK rfl ?_ ?_|refine iQ rfl rfl ?_ rfl ?_|refine bT rfl ?_ ?_|refine bU rfl rfl rfl rfl ?_|refine aW rfl ?_ ?_|refine cY rfl ?_ ?_|exact aH|refine aD ?_ ?_|refine iK ?_|refine bI rfl ?_ rfl ?_|refine dZ rfl rfl rfl ?_
      try any_goals with_reducible rfl
      try any_goals rfl
      refine⟨⟨?_,?_,?_,?_⟩,?_⟩
      all_goals(try dsimp only)
      all_goals first|exact hq.2.2|omega|(refine⟨?_,?_⟩<;>rw[aF (by omega)]<;>omega)|exact dP (l:=[-1,4]) (j:=(aP l (p+1+1+1+1+1+1) 2).toNat) (by decide) (by simp;omega)|exact dP (l:=[0,99,100]) (j:=(aP l (p+1+1+1+1+1+1) 3).toNat) (by decide) (by simp;omega)|exact dP (l:=[0,999,1000]) (j:=(aP l (p+1+1+1+1+1+1) 3).toNat) (by decide) (by simp;omega)
      done)
 refine sq (rT [0,2,3,49] (s2 (cd rfl (fun c49=> ?_) fun c49=> ?_)))
 · have hv:=cE l (p:=p+1+1+1+1+1+1) (n:=2) (by omega) (by omega)
   refine rT [2,3] (ai (by exact⟨by simp,by decide⟩) (s1 (bH (robj:=[(0,.box 92 [.d (.sl (aC (l))),.d (.i (p+1+1+1+1+1+1))])]) (rl:=[(0,0)]) (bor:=[]) (cP (l) (p+1+1+1+1+1+1) _ (by omega) hl2) rfl rfl rfl rfl ⟨bU rfl rfl rfl rfl (cK rfl rfl (aW rfl (aD rfl (aD rfl aH)) trivial)),rfl⟩ rfl (.inl rfl) (aJ ⟨rfl,trivial⟩) (fun _ hj=>nomatch hj) (ai ⟨rfl,hv.1,hv.2⟩ (ai (aEs (l:=[-1,4]) (by simp;omega) rfl) (s2 (sq (rT [2] (s2 (rt ?_))))))))))
   first
    |(refine cS _ ⟨⟨?za5,?zb5,?zc5,?zd5,x⟩,p+1+1+1+1+1+1+1,?zn5,⟨by omega,by omega⟩,rfl⟩ (eE _ [] [] rfl ?_ rfl rfl)
      repeat' first|exact trivial|refine kN rfl ?_|refine cK rfl ?_ ?_|refine iQ rfl rfl ?_ rfl ?_|refine bT rfl ?_ ?_|refine bU rfl rfl rfl rfl ?_|refine aW rfl ?_ ?_|refine cY rfl ?_ ?_|exact aH|refine aD ?_ ?_|refine iK ?_|refine bI rfl ?_ rfl ?_|refine dZ rfl rfl rfl ?_
      try any_goals with_reducible rfl
      try any_goals rfl
      refine⟨⟨?_,?_,?_,?_⟩,?_⟩
      all_goals(try dsimp only)
      all_goals first|exact hall x hx|omega|(refine⟨?_,?_⟩<;>rw[aF (by omega)]<;>omega)|exact dP (l:=[-1,4]) (j:=(aP l (p+1+1+1+1+1+1) 2).toNat) (by decide) (by simp;omega)|exact dP (l:=[0,99,100]) (j:=(aP l (p+1+1+1+1+1+1) 3).toNat) (by decide) (by simp;omega)|exact dP (l:=[0,999,1000]) (j:=(aP l (p+1+1+1+1+1+1) 3).toNat) (by decide) (by simp;omega)
      done)
    |(refine cS _ ⟨⟨?za5,?zb5,?zc5,?zd5,x⟩,p+1+1+1+1+1+1,?zn5,⟨by omega,by omega⟩,rfl⟩ (eE _ [] [] rfl ?_ rfl rfl)
      repeat' first|exact trivial|refine kN rfl ?_|refine cK rfl ?_ ?_|refine iQ rfl rfl ?_ rfl ?_|refine bT rfl ?_ ?_|refine bU rfl rfl rfl rfl ?_|refine aW rfl ?_ ?_|refine cY rfl ?_ ?_|exact aH|refine aD ?_ ?_|refine iK ?_|refine bI rfl ?_ rfl ?_|refine dZ rfl rfl rfl ?_
      try any_goals with_reducible rfl
      try any_goals rfl
      refine⟨⟨?_,?_,?_,?_⟩,?_⟩
      all_goals(try dsimp only)
      all_goals first|exact hall x hx|omega|(refine⟨?_,?_⟩<;>rw[aF (by omega)]<;>omega)|exact dP (l:=[-1,4]) (j:=(aP l (p+1+1+1+1+1+1) 2).toNat) (by decide) (by simp;omega)|exact dP (l:=[0,99,100]) (j:=(aP l (p+1+1+1+1+1+1) 3).toNat) (by decide) (by simp;omega)|exact dP (l:=[0,999,1000]) (j:=(aP l (p+1+1+1+1+1+1) 3).toNat) (by decide) (by simp;omega)
      done)
    |(refine cS _ ⟨⟨?za5,?zb5,?zc5,?zd5,y⟩,q,?zn5,⟨by omega,by omega⟩,rfl⟩ (eE _ [] [] rfl ?_ rfl rfl)
      repeat' first|exact trivial|refine kN rfl ?_|refine cK rfl ?_ ?_|refine iQ rfl rfl ?_ rfl ?_|refine bT rfl ?_ ?_|refine bU rfl rfl rfl rfl ?_|refine aW rfl ?_ ?_|refine cY rfl ?_ ?_|exact aH|refine aD ?_ ?_|refine iK ?_|refine bI rfl ?_ rfl ?_|refine dZ rfl rfl rfl ?_
      try any_goals with_reducible rfl
      try any_goals rfl
      refine⟨⟨?_,?_,?_,?_⟩,?_⟩
      all_goals(try dsimp only)
      all_goals first|exact hq.2.2|omega|(refine⟨?_,?_⟩<;>rw[aF (by omega)]<;>omega)|exact dP (l:=[-1,4]) (j:=(aP l (p+1+1+1+1+1+1) 2).toNat) (by decide) (by simp;omega)|exact dP (l:=[0,99,100]) (j:=(aP l (p+1+1+1+1+1+1) 3).toNat) (by decide) (by simp;omega)|exact dP (l:=[0,999,1000]) (j:=(aP l (p+1+1+1+1+1+1) 3).toNat) (by decide) (by simp;omega)
      done)
 refine sk (sq (rT [2] (s2 (rt ?_))))
 first
  |(refine cS _ ⟨⟨?za6,?zb6,?zc6,?zd6,x⟩,p+1+1+1+1+1+1+1,?zn6,⟨by omega,by omega⟩,rfl⟩ (eE _ [] [] rfl ?_ rfl rfl)
    repeat' first|exact trivial|refine kN rfl ?_|refine cK rfl ?_ ?_|refine iQ rfl rfl ?_ rfl ?_|refine bT rfl ?_ ?_|refine bU rfl rfl rfl rfl ?_|refine aW rfl ?_ ?_|refine cY rfl ?_ ?_|exact aH|refine aD ?_ ?_|refine iK ?_|refine bI rfl ?_ rfl ?_|refine dZ rfl rfl rfl ?_
    try any_goals with_reducible rfl
    try any_goals rfl
    refine⟨⟨?_,?_,?_,?_⟩,?_⟩
    all_goals(try dsimp only)
    all_goals first|exact hall x hx|omega|(refine⟨?_,?_⟩<;>rw[aF (by omega)]<;>omega)|exact dP (l:=[-1,4]) (j:=(aP l (p+1+1+1+1+1+1) 2).toNat) (by decide) (by simp;omega)|exact dP (l:=[0,99,100]) (j:=(aP l (p+1+1+1+1+1+1) 3).toNat) (by decide) (by simp;omega)|exact dP (l:=[0,999,1000]) (j:=(aP l (p+1+1+1+1+1+1) 3).toNat) (by decide) (by simp;omega)
    done)
  |(refine cS _ ⟨⟨?za6,?zb6,?zc6,?zd6,x⟩,p+1+1+1+1+1+1,?zn6,⟨by omega,by omega⟩,rfl⟩ (eE _ [] [] rfl ?_ rfl rfl)
    repeat' first|exact trivial|refine kN rfl ?_|refine cK rfl ?_ ?_|refine iQ rfl rfl ?_ rfl ?_|refine bT rfl ?_ ?_|refine bU rfl rfl rfl rfl ?_|refine aW rfl ?_ ?_|refine cY rfl ?_ ?_|exact aH|refine aD ?_ ?_|refine iK ?_|refine bI rfl ?_ rfl ?_|refine dZ rfl rfl rfl ?_
    try any_goals with_reducible rfl
    try any_goals rfl
    refine⟨⟨?_,?_,?_,?_⟩,?_⟩
    all_goals(try dsimp only)
    all_goals first|exact hall x hx|omega|(refine⟨?_,?_⟩<;>rw[aF (by omega)]<;>omega)|exact dP (l:=[-1,4]) (j:=(aP l (p+1+1+1+1+1+1) 2).toNat) (by decide) (by simp;omega)|exact dP (l:=[0,99,100]) (j:=(aP l (p+1+1+1+1+1+1) 3).toNat) (by decide) (by simp;omega)|exact dP (l:=[0,999,1000]) (j:=(aP l (p+1+1+1+1+1+1) 3).toNat) (by decide) (by simp;omega)
    done)
  |(refine cS _ ⟨⟨?za6,?zb6,?zc6,?zd6,y⟩,q,?zn6,⟨by omega,by omega⟩,rfl⟩ (eE _ [] [] rfl ?_ rfl rfl)
    repeat' first|exact trivial|refine kN rfl ?_|refine cK rfl ?_ ?_|refine iQ rfl rfl ?_ rfl ?_|refine bT rfl ?_ ?_|refine bU rfl rfl rfl rfl ?_|refine aW rfl ?_ ?_|refine cY rfl ?_ ?_|exact aH|refine aD ?_ ?_|refine iK ?_|refine bI rfl ?_ rfl ?_|refine dZ rfl rfl rfl ?_
    try any_goals with_reducible rfl
    try any_goals rfl
    refine⟨⟨?_,?_,?_,?_⟩,?_⟩
    all_goals(try dsimp only)
    all_goals first|exact hq.2.2|omega|(refine⟨?_,?_⟩<;>rw[aF (by omega)]<;>omega)|exact dP (l:=[-1,4]) (j:=(aP l (p+1+1+1+1+1+1) 2).toNat) (by decide) (by simp;omega)|exact dP (l:=[0,99,100]) (j:=(aP l (p+1+1+1+1+1+1) 3).toNat) (by decide) (by simp;omega)|exact dP (l:=[0,999,1000]) (j:=(aP l (p+1+1+1+1+1+1) 3).toNat) (by decide) (by simp;omega)
    done)
theorem am (l:List bB) (hl:l.length≤100000):Sp 24 2 [tD 0 (.sl (aE l)),tD 1 (.sl (aE l))] [tB 0 true]:=by
 refine sb Tryz.func24 rfl (sq (rT [0,1] (s1 (sq (sq (rT [0,1,10] (s5 (cd rfl (fun c10=> ?_) fun c10=> ?_))))))))
 · simp at c10
 refine sk (sq (sq (rT [0,1,5] (s1 (bk (SW.loopW (n:=l.length) (fun n s=> ∃i:Nat,n=l.length - i∧i≤l.length∧s=[tD 0 (.sl (aE l)),tD 1 (.sl (aE l)),tI 5 (i:Nat)]) ?_ ?_))))))
 · exact wq (σ':=[tD 0 (.sl (aE l)),tD 1 (.sl (aE l)),tI 5 (0:Nat)]) [] [] (⟨0,rfl,aSj _,rfl⟩) qz
 rintro n s ⟨i,rfl,hi,rfl⟩
 refine sq (sq (rT [0,1,5,14] (s4 (cd rfl (fun c14=> ?_) fun c14=> ?_))))
 · have hi2:i<l.length:=by simpa[aA] using c14
   have hg:=aQ (l:=l) hi2
   have hlen:=aA l
   refine sk (sq (bk (sq (rD [0,1,5,25] (s2 (ai (by rw[aSd,hg];exact⟨⟨by omega,by rw[hlen];omega⟩,rfl⟩) (ai (by rw[aSd,hg];exact⟨aSf rfl,rfl⟩) (s2 (ai (by rw[aSd,hg];exact⟨⟨by omega,by rw[hlen];omega⟩,rfl⟩) (ai (by rw[aSd,hg];exact⟨aSf rfl,rfl⟩) (aKt dQ (lV aL1.zero ((aE l).getD (Int.toNat (i:Int)) []) 0) (lV aL1.zero ((aE l).getD (Int.toNat (i:Int)) []) 0) rfl rfl rfl (by kernel_rfl) (by kernel_rfl) (by kernel_rfl) (by kernel_rfl) rfl rfl (ai (by kernel_rfl) (cd rfl (fun c25=> ?_) fun c25=> ?_)))))))))))))
   · exact absurd c25 (by simp[jt,eqD,lV,aD6])
   refine sk (rT [0,1,5] (s3 (wq [] [] (⟨l.length - (i+1),by omega,i+1,rfl,by omega,rfl⟩) ?_)))
   repeat' apply ai
   all_goals first|exact qx|exact congrArg D.i (aF (by omega))|rfl|exact qz
 refine xt (sq (rT [4] (s1 (rt (bQ rfl ?_)))))
 rfl
theorem tb (l:List bZ) (hl:l.length≤100000):Sp 40 2 [tD 0 (.sl (aL l)),tD 1 (.sl (aL l))] [tB 0 true]:=by
 refine sb Tryz.func40 rfl (sq (rT [0,1] (s1 (sq (sq (rT [0,1,10] (s5 (cd rfl (fun c10=> ?_) fun c10=> ?_))))))))
 · simp at c10
 refine sk (sq (sq (rT [0,1,5] (s1 (bk (SW.loopW (n:=l.length) (fun n s=> ∃i:Nat,n=l.length - i∧i≤l.length∧s=[tD 0 (.sl (aL l)),tD 1 (.sl (aL l)),tI 5 (i:Nat)]) ?_ ?_))))))
 · exact wq (σ':=[tD 0 (.sl (aL l)),tD 1 (.sl (aL l)),tI 5 (0:Nat)]) [] [] (⟨0,rfl,aSj _,rfl⟩) qz
 rintro n s ⟨i,rfl,hi,rfl⟩
 refine sq (sq (rT [0,1,5,14] (s4 (cd rfl (fun c14=> ?_) fun c14=> ?_))))
 · have hi2:i<l.length:=by simpa[aB] using c14
   have hg:=bR (l:=l) hi2
   have hlen:=aB l
   refine sk (sq (bk (sq (rD [0,1,5,25] (s2 (ai (by rw[aSd,hg];exact⟨⟨by omega,by rw[hlen];omega⟩,rfl⟩) (ai (by rw[aSd,hg];exact⟨aSf rfl,rfl⟩) (s2 (ai (by rw[aSd,hg];exact⟨⟨by omega,by rw[hlen];omega⟩,rfl⟩) (ai (by rw[aSd,hg];exact⟨aSf rfl,rfl⟩) (aKt dQ (lV aL2.zero ((aL l).getD (Int.toNat (i:Int)) []) 0) (lV aL2.zero ((aL l).getD (Int.toNat (i:Int)) []) 0) rfl rfl rfl (by kernel_rfl) (by kernel_rfl) (by kernel_rfl) (by kernel_rfl) rfl rfl (ai (by kernel_rfl) (cd rfl (fun c25=> ?_) fun c25=> ?_)))))))))))))
   · exact absurd c25 (by simp[jt,eqD,lV,aD6])
   refine sk (rT [0,1,5] (s3 (wq [] [] (⟨l.length - (i+1),by omega,i+1,rfl,by omega,rfl⟩) ?_)))
   repeat' apply ai
   all_goals first|exact qx|exact congrArg D.i (aF (by omega))|rfl|exact qz
 refine xt (sq (rT [4] (s1 (rt (bQ rfl ?_)))))
 rfl
set_option maxHeartbeats 800000 in
theorem cq (k:aR) (hk:KB k):Sp 17 2 [tV 0 k.V,tV 1 k.V] [tB 0 true]:=by
 refine sb Tryz.func17 rfl (sq (rT [2,3,11,12,13,14,15,18,19,20,21,22,25,26,27,28,29,32,33,34,35,36,39,40,41,42,43] (s3 (sq (rT [4] (s6 (y4 (y1 (ai pk (s1 (y4 (y1 (ai pk (s1 (y4 (xc (fun h=>am k.held (by have:=hk.1;omega)) (ai rfl (ai rk ?_))))))))))))))))))
 refine ai pk (s1 (y4 (xc (fun h=>tb k.marks (by have:=hk.1;omega)) (ai rfl (ai rk ?_)))))
 refine ai pk (s1 (y4 (xc (fun h=>am k.inbox (by have:=hk.1;omega)) (ai rfl (ai rk ?_)))))
 refine ai pk (s1 (rt (bQ rfl (congrArg D.b ?_))))
 simp
theorem uX (a b c:Int) (h:R1 a∧R1 b∧R1 c):tn 89 3 [tI 0 a,tI 1 b,tI 2 c] (fun s=> ∃x:List UInt8,x.length≤60∧s=[tD 0 (.s x)]):=by
 have q1:=lh h.1
 have q2:=lh h.2.1
 have q3:=lh h.2.2
 refine uo Tryz.func89 rfl (sq (rT [0,1,2] (s1 (sq (rT [6] (s1 (xp (uB a (by omega)) (ai rfl ?_))))))))
 refine ai (by first|trivial|(show _≤9223372036854775807;(try simp only[aSe,aSi,aSh]);omega)) (s1 (xp (uB b (by omega)) (ai rfl ?_)))
 refine ai (by first|trivial|(show _≤9223372036854775807;(try simp only[aSe,aSi,aSh]);omega)) (ai (by first|trivial|(show _≤9223372036854775807;(try simp only[aSe,aSi,aSh]);omega)) (s1 (xp (uB c (by omega)) (ai rfl ?_))))
 refine ai (by first|trivial|(show _≤9223372036854775807;(try simp only[aSe,aSi,aSh]);omega)) (s1 (rt ?_))
 exact cS _ ⟨fv a++[32]++fv b++[32]++fv c,by simp only[aSe,aSi,aSh];omega,rfl⟩ (bQ rfl rfl)
set_option maxHeartbeats 800000 in
theorem vi (l:List UInt8) (p:Int) (hp:0≤p∧p≤790000) (hl:l.length≤2000):tn 90 1 [tP 0 0,oB 0 92 [.d (.sl (aC l)),.d (.i (p))]] (fun s=> ∃(x:List UInt8) (q:Int),(p≤q∧q≤p+70∧x.length≤130)∧s=[tD 0 (.s x),oB 0 92 [.d (.sl (aC l)),.d (.i (q))]]):=by
 have hall: ∀y∈([[111,119,110,32],[116,97,107,101,32],[116,97,107,101,32],[104,101,108,100,32],[105,110,98,111,120,32]]:List (List UInt8)),y.length≤10:=by decide
 refine uo Tryz.func90 rfl (sq (rT [0] (s1 (sq (sq (rT [0,4] (s1 (bH (robj:=[(0,.box 92 [.d (.sl (aC (l))),.d (.i (p))])]) (rl:=[(0,0)]) (bor:=[]) (cP (l) (p) _ (by omega) hl) rfl rfl rfl rfl ⟨bU rfl rfl rfl rfl (cK rfl rfl (aW rfl (aD rfl (aD rfl aH)) trivial)),rfl⟩ rfl (.inl rfl) (aJ ⟨rfl,trivial⟩) (fun _ hj=>nomatch hj) (bk (sq (rT [0,4,5] (ai (by first|trivial|(show _≤9223372036854775807;(try simp only[aSe,aSi,aSh]);omega)) (s1 (cd rfl (fun c5=> ?_) fun c5=> ?_))))))))))))))
 · refine sq (rT [2] (s1 (bH (robj:=[(0,.box 92 [.d (.sl (aC (l))),.d (.i (p+1))])]) (rl:=[(0,0)]) (bor:=[]) (cP (l) (p+1) _ (by omega) hl) rfl rfl rfl rfl ⟨bU rfl rfl rfl rfl (cK rfl rfl (aW rfl (aD rfl (aD rfl aH)) trivial)),rfl⟩ rfl (.inl rfl) (aJ ⟨rfl,trivial⟩) (fun _ hj=>nomatch hj) ?_)))
   have hpv:=cE l (p:=p+1) (n:=30) (by omega) (by omega)
   have q1:=cA (k:=6) (n:=(aP l (p+1) 30).toNat) (by simp;omega)
   refine xp (jM (aP l (p+1) 30) (by omega)) (ai rfl ?_)
   refine ai (by first|trivial|(show _≤9223372036854775807;(try simp only[aSe,aSi,aSh]);omega)) (s1 (rt (cS _ ⟨[116,105,109,101,32]++jQ (aP l (p+1) 30).toNat,p+1+1,⟨by omega,by omega,by simp only[aSe,aSi,aSh];omega⟩,rfl⟩ (eE _ [] [] rfl ?_ rfl rfl))))
   refine qs ?_
   repeat' first|exact qx|apply ai
   all_goals rfl
 refine sq (rT [0,4,11] (ai (by first|trivial|(show _≤9223372036854775807;(try simp only[aSe,aSi,aSh]);omega)) (s1 (cd rfl (fun c11=> ?_) fun c11=> ?_))))
 · refine sq (rE [2] (s1 (gQ (bH (robj:=[(0,.box 92 [.d (.sl (aC (l))),.d (.i (p+1))])]) (rl:=[(0,0)]) (bor:=[]) (cP (l) (p+1) _ (by omega) hl) rfl rfl rfl rfl ⟨bU rfl rfl rfl rfl (cK rfl rfl (aW rfl (aD rfl (aD rfl aH)) trivial)),rfl⟩ rfl (.inl rfl) (aJ ⟨rfl,trivial⟩) (fun _ hj=>nomatch hj) (s1 (gQ (bH (robj:=[(0,.box 92 [.d (.sl (aC (l))),.d (.i (p+1+1))])]) (rl:=[(0,0)]) (bor:=[]) (cP (l) (p+1+1) _ (by omega) hl) rfl rfl rfl rfl ⟨bU rfl rfl rfl rfl (cK rfl rfl (aW rfl (aD rfl (aD rfl aH)) trivial)),rfl⟩ rfl (.inl rfl) (aJ ⟨rfl,trivial⟩) (fun _ hj=>nomatch hj) (ai (by first|trivial|(show _≤9223372036854775807;(try simp only[aSe,aSi,aSh]);omega)) (s1 (gQ (bH (robj:=[(0,.box 92 [.d (.sl (aC (l))),.d (.i (p+1+1+1))])]) (rl:=[(0,0)]) (bor:=[]) (cP (l) (p+1+1+1) _ (by omega) hl) rfl rfl rfl rfl ⟨bU rfl rfl rfl rfl (cK rfl rfl (aW rfl (aD rfl (aD rfl aH)) trivial)),rfl⟩ rfl (.inl rfl) (aJ ⟨rfl,trivial⟩) (fun _ hj=>nomatch hj) ?_)))))))))))
   refine ai (by first|trivial|(show _≤9223372036854775807;(try simp only[aSe,aSi,aSh]);omega)) (cU (robj:=[]) (rl:=[]) (bor:=[]) (news:=[]) (uX (aP l (p+1) 4) (wrap64 (1+aP l (p+1+1) 3)) (wrap64 (1+aP l (p+1+1+1) 30)) (by have:=cE l (p:=p+1) (n:=4) (by omega) (by omega);have:=cE l (p:=p+1+1) (n:=3) (by omega) (by omega);have:=cE l (p:=p+1+1+1) (n:=30) (by omega) (by omega);rw[aF (by omega),aF (by omega)];omega)) rfl rfl rfl rfl ⟨cK rfl rfl (cK rfl rfl (cK rfl rfl (trivial))),rfl⟩ (by rintro _ ⟨y,hy,rfl⟩;exact⟨rfl,.inl rfl,fun j hj=>nomatch hj⟩) (fun p hp=>nomatch hp) (fun j hj=>nomatch hj) ?_)
   rintro _ ⟨y,hy,rfl⟩
   refine ai (by first|trivial|(show _≤9223372036854775807;(try simp only[aSe,aSi,aSh]);omega)) (s1 (rt (cS _ ⟨[108,101,116,32]++y,p+1+1+1+1,⟨by omega,by omega,by simp only[aSe,aSi,aSh];omega⟩,rfl⟩ (eE _ [] [] rfl ?_ rfl rfl))))
   refine qs ?_
   repeat' first|exact qx|apply ai
   all_goals rfl
 refine sq (rT [0,4,23] (ai (by first|trivial|(show _≤9223372036854775807;(try simp only[aSe,aSi,aSh]);omega)) (s1 (cd rfl (fun c23=> ?_) fun c23=> ?_))))
 · refine sq (rE [2] (s1 (gQ (bH (robj:=[(0,.box 92 [.d (.sl (aC (l))),.d (.i (p+1))])]) (rl:=[(0,0)]) (bor:=[]) (cP (l) (p+1) _ (by omega) hl) rfl rfl rfl rfl ⟨bU rfl rfl rfl rfl (cK rfl rfl (aW rfl (aD rfl (aD rfl aH)) trivial)),rfl⟩ rfl (.inl rfl) (aJ ⟨rfl,trivial⟩) (fun _ hj=>nomatch hj) (s1 (gQ (bH (robj:=[(0,.box 92 [.d (.sl (aC (l))),.d (.i (p+1+1))])]) (rl:=[(0,0)]) (bor:=[]) (cP (l) (p+1+1) _ (by omega) hl) rfl rfl rfl rfl ⟨bU rfl rfl rfl rfl (cK rfl rfl (aW rfl (aD rfl (aD rfl aH)) trivial)),rfl⟩ rfl (.inl rfl) (aJ ⟨rfl,trivial⟩) (fun _ hj=>nomatch hj) (ai (by first|trivial|(show _≤9223372036854775807;(try simp only[aSe,aSi,aSh]);omega)) (s1 (gQ (bH (robj:=[(0,.box 92 [.d (.sl (aC (l))),.d (.i (p+1+1+1))])]) (rl:=[(0,0)]) (bor:=[]) (cP (l) (p+1+1+1) _ (by omega) hl) rfl rfl rfl rfl ⟨bU rfl rfl rfl rfl (cK rfl rfl (aW rfl (aD rfl (aD rfl aH)) trivial)),rfl⟩ rfl (.inl rfl) (aJ ⟨rfl,trivial⟩) (fun _ hj=>nomatch hj) ?_)))))))))))
   refine ai (by first|trivial|(show _≤9223372036854775807;(try simp only[aSe,aSi,aSh]);omega)) (cU (robj:=[]) (rl:=[]) (bor:=[]) (news:=[]) (uX (aP l (p+1) 4) (wrap64 (1+aP l (p+1+1) 3)) (wrap64 (1+aP l (p+1+1+1) 30)) (by have:=cE l (p:=p+1) (n:=4) (by omega) (by omega);have:=cE l (p:=p+1+1) (n:=3) (by omega) (by omega);have:=cE l (p:=p+1+1+1) (n:=30) (by omega) (by omega);rw[aF (by omega),aF (by omega)];omega)) rfl rfl rfl rfl ⟨cK rfl rfl (cK rfl rfl (cK rfl rfl (trivial))),rfl⟩ (by rintro _ ⟨y,hy,rfl⟩;exact⟨rfl,.inl rfl,fun j hj=>nomatch hj⟩) (fun p hp=>nomatch hp) (fun j hj=>nomatch hj) ?_)
   rintro _ ⟨y,hy,rfl⟩
   refine ai (by first|trivial|(show _≤9223372036854775807;(try simp only[aSe,aSi,aSh]);omega)) (s1 (rt (cS _ ⟨[101,97,116,32]++y,p+1+1+1+1,⟨by omega,by omega,by simp only[aSe,aSi,aSh];omega⟩,rfl⟩ (eE _ [] [] rfl ?_ rfl rfl))))
   refine qs ?_
   repeat' first|exact qx|apply ai
   all_goals rfl
 refine sq (rT [0,35] (ai (by first|trivial|(show _≤9223372036854775807;(try simp only[aSe,aSi,aSh]);omega)) (s1 (cd rfl (fun c35=> ?_) fun c35=> ?_))))
 · refine sq (rE [2] (s1 (cU (robj:=[]) (rl:=[]) (bor:=[]) (news:=[]) (rH [122] 60 rfl (by omega)) rfl rfl rfl rfl ⟨cK rfl rfl (cK rfl rfl (trivial)),rfl⟩ (by rintro _ ⟨x1,hx1,rfl⟩;exact⟨rfl,.inl rfl,fun j hj=>nomatch hj⟩) (fun p hp=>nomatch hp) (fun j hj=>nomatch hj) ?_)))
   rintro _ ⟨x1,hx1,rfl⟩
   refine cU (robj:=[]) (rl:=[]) (bor:=[]) (news:=[]) (rH [122] 61 rfl (by omega)) rfl rfl rfl rfl ⟨cK rfl rfl (cK rfl rfl (trivial)),rfl⟩ (by rintro _ ⟨x2,hx2,rfl⟩;exact⟨rfl,.inl rfl,fun j hj=>nomatch hj⟩) (fun p hp=>nomatch hp) (fun j hj=>nomatch hj) ?_
   rintro _ ⟨x2,hx2,rfl⟩
   refine ai (by exact⟨by simp,aSf rfl⟩) (wW 40 40 rfl rfl rfl rfl (cU (robj:=[(0,.box 92 [.d (.sl (aC (l))),.d (.i (p+1))])]) (rl:=[(0,0)]) (bor:=[]) (news:=[]) (aJc (l) (p+1) (([[],[119,104,97,116],[116,105,109,101],[116,105,109,101,32,48],[116,105,109,101,32,48,49],[110,101,120,116,32,51],[110,101,120,116,32,49],[109,97,114,107,32,48,32,49,32,53],[109,97,114,107,32,48,32,49],[109,97,114,107,32,48,32,49,32,53,32],[104,101,108,100,32,48,32,49,32,50,32,57,32,120],[105,110,98,111,120,32,48,32,49,32,50,32,57,32,120],x1,x2]:List (List UInt8))) (by simp) (by omega) hl) rfl rfl rfl rfl ⟨bU rfl rfl rfl rfl (cK rfl rfl (aW rfl (aD rfl (aD rfl aH)) trivial)),rfl⟩ (by rintro _ ⟨x,hx,rfl⟩;exact⟨rfl,.inl rfl,fun j hj=>nomatch hj⟩) (aJ ⟨rfl,trivial⟩) (fun j hj=>nomatch hj) ?_))
   rintro _ ⟨x,hx,rfl⟩
   refine s1 (rt (cS _ ⟨x,p+1+1,⟨by omega,by omega,?_⟩,rfl⟩ (eE _ [] [] rfl ?_ rfl rfl)))
   · simp at hx;rcases hx with rfl|rfl|rfl|rfl|rfl|rfl|rfl|rfl|rfl|rfl|rfl|rfl|rfl|rfl<;>first|omega|(simp;done)
   refine qs ?_
   repeat' first|exact qx|apply ai
   all_goals rfl
 refine sk (sq (rE [2] (s1 (ai (by exact⟨by simp,by decide⟩) (wW 43 43 rfl rfl rfl rfl (cU (robj:=[(0,.box 92 [.d (.sl (aC (l))),.d (.i (p+1))])]) (rl:=[(0,0)]) (bor:=[]) (news:=[]) (aJc (l) (p+1) (([[111,119,110,32],[116,97,107,101,32],[116,97,107,101,32],[104,101,108,100,32],[105,110,98,111,120,32]]:List (List UInt8))) (by simp) (by omega) hl) rfl rfl rfl rfl ⟨bU rfl rfl rfl rfl (cK rfl rfl (aW rfl (aD rfl (aD rfl aH)) trivial)),rfl⟩ (by rintro _ ⟨x,hx,rfl⟩;exact⟨rfl,.inl rfl,fun j hj=>nomatch hj⟩) (aJ ⟨rfl,trivial⟩) (fun j hj=>nomatch hj) ?_))))))
 rintro _ ⟨x,hx,rfl⟩
 have hxl:=hall x hx
 refine s1 (cU (robj:=[(0,.box 92 [.d (.sl (aC (l))),.d (.i (p+1+1))])]) (rl:=[(0,0)]) (bor:=[]) (news:=[]) (pQ l (p+1+1) (by omega) hl) rfl rfl rfl rfl ⟨bU rfl rfl rfl rfl (aW rfl (aD rfl (aD rfl aH)) trivial),rfl⟩ (by rintro _ ⟨n1,q1,hn1,hq1,rfl⟩;exact⟨rfl,.inl rfl,fun j hj=>nomatch hj⟩) (aJ ⟨rfl,trivial⟩) (fun j hj=>nomatch hj) ?_)
 rintro _ ⟨n1,q1,hn1,hq1,rfl⟩
 have hwl:=mP n1
 have hnt:=hn1.2
 refine gQ (xp (gO n1 (by omega)) (ai rfl ?_))
 refine ai (by first|trivial|(show _≤9223372036854775807;(try simp only[aSe,aSi,aSh]);omega)) (s1 (rt (cS _ ⟨x++gJ n1,q1,⟨by omega,by omega,by simp only[aSe,aSi,aSh];omega⟩,rfl⟩ (eE _ [] [] rfl ?_ rfl rfl))))
 refine qs ?_
 repeat' first|exact qx|apply ai
 all_goals rfl
set_option maxHeartbeats 1600000 in
theorem ao (l:List UInt8) (p:Int) (k:aR) (hp:0≤p∧p≤780000) (hl:l.length≤2000) (hk:KD k):tn 54 2 [tP 0 0,tV 1 k.V,oB 0 92 [.d (.sl (aC l)),.d (.i (p))]] (fun s=> ∃(x:List UInt8) (q:Int),(p≤q∧q≤p+200∧x.length≤150)∧s=[tD 0 (.s x),oB 0 92 [.d (.sl (aC l)),.d (.i (q))]]):=by
 have hkt:=hk.time
 refine uo Tryz.func54 rfl (sq (rT [0,3] (s2 (sq (rE [0,3,5] (s1 (cU (robj:=[(0,.box 92 [.d (.sl (aC (l))),.d (.i (p))])]) (rl:=[(0,0)]) (bor:=[]) (news:=[]) (pQ l p (by omega) hl) rfl rfl rfl rfl ⟨bU rfl rfl rfl rfl (aW rfl (aD rfl (aD rfl aH)) trivial),rfl⟩ (by rintro _ ⟨n1,q1,hn1,hq1,rfl⟩;exact⟨rfl,.inl rfl,fun j hj=>nomatch hj⟩) (aJ ⟨rfl,trivial⟩) (fun j hj=>nomatch hj) ?_)))))))
 rintro _ ⟨n1,q1,hn1,hq1,rfl⟩
 have hnt:=hn1.2
 refine s2 (SW.midW (fun s=>s=[tP 0 0,tP 3 3,tP 5 5,oB 0 92 [.d (.sl (aC l)),.d (.i (q1+1))],oB 3 26 [.d (.i (k).id),.d (.i (k).time),.d (.i (k).next),.d (.sl (aE (k).held)),.d (.sl (aL (k).marks)),.d (.sl (aE (k).inbox))],oB 5 29 [.d (.i n1.frm),.d (.i n1.num),.d (.i n1.to),.d (.i n1.til),.d (.s n1.text)]]) ?_ ?_)
 · refine sq (rT [0,3,5,11] (s1 (bH (robj:=[(0,.box 92 [.d (.sl (aC (l))),.d (.i (q1))])]) (rl:=[(0,0)]) (bor:=[]) (cP (l) (q1) _ (by omega) hl) rfl rfl rfl rfl ⟨bU rfl rfl rfl rfl (cK rfl rfl (aW rfl (aD rfl (aD rfl aH)) trivial)),rfl⟩ rfl (.inl rfl) (aJ ⟨rfl,trivial⟩) (fun _ hj=>nomatch hj) (bk (sq (rT [0,3,5,11,12] (ai (by first|trivial|(show _≤9223372036854775807;(try simp only[aSe,aSi,aSh]);omega)) (s1 (cd rfl (fun c12=> ?_) fun c12=> ?_)))))))))
   · refine sq (rD [4] (s3 (bH (robj:=[(0,.box 92 [.d (.sl (aC (l))),.d (.i (q1+1))])]) (rl:=[(0,0)]) (bor:=[]) (cP (l) (q1+1) _ (by omega) hl) rfl rfl rfl rfl ⟨bU rfl rfl rfl rfl (cK rfl rfl (aW rfl (aD rfl (aD rfl aH)) trivial)),rfl⟩ rfl (.inl rfl) (aJ ⟨rfl,trivial⟩) (fun _ hj=>nomatch hj) (ai (by first|trivial|(show _≤9223372036854775807;(try simp only[aSe,aSi,aSh]);omega)) ?_))))
     have hpv:=cE l (p:=q1+1) (n:=3) (by omega) (by omega)
     have hrg: -1≤(wrap64 (k.time+aP l (q1+1) 3))∧(wrap64 (k.time+aP l (q1+1) 3))≤9999:=by rw[aF (by omega)];omega
     have qd:=kQ hrg
     refine xp (uB (wrap64 (k.time+aP l (q1+1) 3)) hrg) (ai rfl ?_)
     refine ai (by first|trivial|(show _≤9223372036854775807;(try simp only[aSe,aSi,aSh]);omega)) (s1 (ai (by kernel_rfl) (rt (cS _ ⟨[116,105,109,101,32]++fv (wrap64 (k.time+aP l (q1+1) 3)),q1+1+1,⟨by omega,by omega,by simp only[aSe,aSi,aSh];omega⟩,rfl⟩ (eE _ [] [] rfl ?_ rfl rfl)))))
     refine qs ?_
     repeat' first|exact qx|apply ai
     all_goals rfl
   refine sq (rT [0,3,5,11,21] (ai (by first|trivial|(show _≤9223372036854775807;(try simp only[aSe,aSi,aSh]);omega)) (s1 (cd rfl (fun c21=> ?_) fun c21=> ?_))))
   · refine sq (rT [3,5] (s4 (sq (rT [5] (s4 (sq (rT [4] (s1 ?_))))))))
     have hwl:=mP (⟨k.id,k.next,n1.to,n1.til,n1.text⟩:bB)
     refine xp (gO (⟨k.id,k.next,n1.to,n1.til,n1.text⟩:bB) (by show n1.text.length≤_;omega)) (ai rfl ?_)
     refine ai (by first|trivial|(show _≤9223372036854775807;(try simp only[aSe,aSi,aSh]);omega)) (s1 (rt (cS _ ⟨[111,119,110,32]++gJ (⟨k.id,k.next,n1.to,n1.til,n1.text⟩:bB),q1+1,⟨by omega,by omega,by simp only[aSe,aSi,aSh];omega⟩,rfl⟩ (eE _ [] [] rfl ?_ rfl rfl))))
     refine qs ?_
     repeat' first|exact qx|apply ai
     all_goals rfl
   refine sq (rT [0,3,5,11,32] (ai (by first|trivial|(show _≤9223372036854775807;(try simp only[aSe,aSi,aSh]);omega)) (s1 (cd rfl (fun c32=> ?_) fun c32=> ?_))))
   · refine sq (rT [0,3,5,37] (s3 (ai (by first|trivial|(show _≤9223372036854775807;(try simp only[aSe,aSi,aSh]);omega)) (cd rfl (fun c37=> ?_) fun c37=> ?_))))
     · refine sq ?_
       have hn0:0<k.held.length:=by have h9:=of_decide_eq_true c37;rw[aA] at h9;omega
       obtain⟨j,hj,hjl⟩: ∃j:Nat,aP l (q1+1) ((aE k.held).length:Int)=(j:Int)∧j<k.held.length:=by have:=cE l (p:=q1+1) (n:=((aE k.held).length:Int)) (by omega) (by rw[aA];omega);rw[aA] at *; exact⟨(aP l (q1+1) (k.held.length:Int)).toNat,by omega,by omega⟩
       refine rD [6] (s6 (bH (robj:=[(0,.box 92 [.d (.sl (aC (l))),.d (.i (q1+1))])]) (rl:=[(0,0)]) (bor:=[]) (cP (l) (q1+1) _ (by omega) hl) rfl rfl rfl rfl ⟨bU rfl rfl rfl rfl (cK rfl rfl (aW rfl (aD rfl (aD rfl aH)) trivial)),rfl⟩ rfl (.inl rfl) (aJ ⟨rfl,trivial⟩) (fun _ hj=>nomatch hj) (ai (by rw[hj,aSd,aQ hjl];exact⟨⟨by omega,by rw[aA];omega⟩,rfl⟩) (ai (by rw[hj,aSd,aQ hjl];exact⟨aSf rfl,rfl⟩) (s2 (ai (by kernel_rfl) (sq (wa [tP 6 6,oB 0 92 [.d (.sl (aC l)),.d (.i (q1+1+1))],oB 6 29 [.d (.i (k.held.getD j .zero).frm),.d (.i (k.held.getD j .zero).num),.d (.i (k.held.getD j .zero).to),.d (.i (k.held.getD j .zero).til),.d (.s (k.held.getD j .zero).text)]] [] [] ?_ ?_))))))))
       · repeat' apply ai
         all_goals first|exact qx|((rw[hj,aSd,aQ hjl];rfl))|exact qz
       refine rE [4] (s6 (cU (robj:=[]) (rl:=[]) (bor:=[]) (news:=[]) (uX (k.held.getD j .zero).frm (k.held.getD j .zero).num (k.held.getD j .zero).til (by have h9:=(hk.held_at hjl).1;exact⟨h9.1,h9.2.1,h9.2.2.2⟩)) rfl rfl rfl rfl ⟨cK rfl rfl (cK rfl rfl (cK rfl rfl (trivial))),rfl⟩ (by rintro _ ⟨y,hy,rfl⟩;exact⟨rfl,.inl rfl,fun j hj=>nomatch hj⟩) (fun p hp=>nomatch hp) (fun j hj=>nomatch hj) ?_))
       rintro _ ⟨y,hy,rfl⟩
       refine ai (by first|trivial|(show _≤9223372036854775807;(try simp only[aSe,aSi,aSh]);omega)) (s1 (rt (cS _ ⟨[108,101,116,32]++y,q1+1+1,⟨by omega,by omega,by simp only[aSe,aSi,aSh];omega⟩,rfl⟩ (eE _ [] [] rfl ?_ rfl rfl))))
       refine qs ?_
       repeat' first|exact qx|apply ai
       all_goals rfl
     exact sk (wq [] [] (rfl) qz)
   refine sq (rT [0,3,5,11,55] (ai (by first|trivial|(show _≤9223372036854775807;(try simp only[aSe,aSi,aSh]);omega)) (s1 (cd rfl (fun c55=> ?_) fun c55=> ?_))))
   · refine sq (rT [0,3,5,60] (s3 (ai (by first|trivial|(show _≤9223372036854775807;(try simp only[aSe,aSi,aSh]);omega)) (cd rfl (fun c60=> ?_) fun c60=> ?_))))
     · refine sq ?_
       have hn0:0<k.inbox.length:=by have h9:=of_decide_eq_true c60;rw[aA] at h9;omega
       obtain⟨j,hj,hjl⟩: ∃j:Nat,aP l (q1+1) ((aE k.inbox).length:Int)=(j:Int)∧j<k.inbox.length:=by have:=cE l (p:=q1+1) (n:=((aE k.inbox).length:Int)) (by omega) (by rw[aA];omega);rw[aA] at *; exact⟨(aP l (q1+1) (k.inbox.length:Int)).toNat,by omega,by omega⟩
       refine rD [7] (s6 (bH (robj:=[(0,.box 92 [.d (.sl (aC (l))),.d (.i (q1+1))])]) (rl:=[(0,0)]) (bor:=[]) (cP (l) (q1+1) _ (by omega) hl) rfl rfl rfl rfl ⟨bU rfl rfl rfl rfl (cK rfl rfl (aW rfl (aD rfl (aD rfl aH)) trivial)),rfl⟩ rfl (.inl rfl) (aJ ⟨rfl,trivial⟩) (fun _ hj=>nomatch hj) (ai (by rw[hj,aSd,aQ hjl];exact⟨⟨by omega,by rw[aA];omega⟩,rfl⟩) (ai (by rw[hj,aSd,aQ hjl];exact⟨aSf rfl,rfl⟩) (s2 (ai (by kernel_rfl) (sq (wa [tP 7 7,oB 0 92 [.d (.sl (aC l)),.d (.i (q1+1+1))],oB 7 29 [.d (.i (k.inbox.getD j .zero).frm),.d (.i (k.inbox.getD j .zero).num),.d (.i (k.inbox.getD j .zero).to),.d (.i (k.inbox.getD j .zero).til),.d (.s (k.inbox.getD j .zero).text)]] [] [] ?_ ?_))))))))
       · repeat' apply ai
         all_goals first|exact qx|((rw[hj,aSd,aQ hjl];rfl))|exact qz
       refine rE [4] (s6 (cU (robj:=[]) (rl:=[]) (bor:=[]) (news:=[]) (uX (k.inbox.getD j .zero).frm (k.inbox.getD j .zero).num (k.inbox.getD j .zero).til (by have h9:=(hk.inbox_at hjl).1;exact⟨h9.1,h9.2.1,h9.2.2.2⟩)) rfl rfl rfl rfl ⟨cK rfl rfl (cK rfl rfl (cK rfl rfl (trivial))),rfl⟩ (by rintro _ ⟨y,hy,rfl⟩;exact⟨rfl,.inl rfl,fun j hj=>nomatch hj⟩) (fun p hp=>nomatch hp) (fun j hj=>nomatch hj) ?_))
       rintro _ ⟨y,hy,rfl⟩
       refine ai (by first|trivial|(show _≤9223372036854775807;(try simp only[aSe,aSi,aSh]);omega)) (s1 (rt (cS _ ⟨[101,97,116,32]++y,q1+1+1,⟨by omega,by omega,by simp only[aSe,aSi,aSh];omega⟩,rfl⟩ (eE _ [] [] rfl ?_ rfl rfl))))
       refine qs ?_
       repeat' first|exact qx|apply ai
       all_goals rfl
     exact sk (wq [] [] (rfl) qz)
   refine sq (rT [0,3,5,78] (ai (by first|trivial|(show _≤9223372036854775807;(try simp only[aSe,aSi,aSh]);omega)) (s1 (cd rfl (fun c78=> ?_) fun c78=> ?_))))
   · refine sq (rE [4] (s1 (cU (robj:=[(0,.box 92 [.d (.sl (aC (l))),.d (.i (q1+1))])]) (rl:=[(0,0)]) (bor:=[]) (news:=[]) (vi l (q1+1) (by omega) hl) rfl rfl rfl rfl ⟨bU rfl rfl rfl rfl (aW rfl (aD rfl (aD rfl aH)) trivial),rfl⟩ (by rintro _ ⟨x,q2,hx,rfl⟩;exact⟨rfl,.inl rfl,fun j hj=>nomatch hj⟩) (aJ ⟨rfl,trivial⟩) (fun j hj=>nomatch hj) ?_)))
     rintro _ ⟨x,q2,hx,rfl⟩
     refine s1 (rt (cS _ ⟨x,q2,⟨by omega,by omega,by omega⟩,rfl⟩ (eE _ [] [] rfl ?_ rfl rfl)))
     refine qs ?_
     repeat' first|exact qx|apply ai
     all_goals rfl
   exact sk (wq [] [] (rfl) qz)
 rintro s rfl
 refine sq (rD [5] (s3 (bH (robj:=[(0,.box 92 [.d (.sl (aC (l))),.d (.i (q1+1))])]) (rl:=[(0,0)]) (bor:=[]) (cP (l) (q1+1) _ (by omega) hl) rfl rfl rfl rfl ⟨bU rfl rfl rfl rfl (cK rfl rfl (aW rfl (aD rfl (aD rfl aH)) trivial)),rfl⟩ rfl (.inl rfl) (aJ ⟨rfl,trivial⟩) (fun _ hj=>nomatch hj) (ai (by first|trivial|(show _≤9223372036854775807;(try simp only[aSe,aSi,aSh]);omega)) (s2 (ai (by kernel_rfl) (sq (rT [4] (s1 ?_)))))))))
 have hwl:=mP (⟨n1.frm,n1.num,n1.to,wrap64 (k.time+aP l (q1+1) 20),n1.text⟩:bB)
 refine xp (gO (⟨n1.frm,n1.num,n1.to,wrap64 (k.time+aP l (q1+1) 20),n1.text⟩:bB) (by show n1.text.length≤_;omega)) (ai rfl ?_)
 refine ai (by first|trivial|(show _≤9223372036854775807;(try simp only[aSe,aSi,aSh]);omega)) (s1 (rt (cS _ ⟨[116,97,107,101,32]++gJ (⟨n1.frm,n1.num,n1.to,wrap64 (k.time+aP l (q1+1) 20),n1.text⟩:bB),q1+1+1,⟨by omega,by omega,by simp only[aSe,aSi,aSh];omega⟩,rfl⟩ (eE _ [] [] rfl ?_ rfl rfl))))
 refine qs ?_
 repeat' first|exact qx|apply ai
 all_goals rfl
theorem tc (l:List dY) (f m:Int) (hl:l.length≤1000000):Sp 189 3 [tD 0 (.sl (bM l)),tI 1 f,tI 2 m] [tI 0 (iA l f m)]:=by
 refine sb Tryz.func189 rfl (sq (rT [0,1,2,22,23,24,25,26,27,28] (s1 (sq (sq (rT [0,1,2,7,22,23,24,25,26,27,28] (s1 (bk (SW.loopW (n:=l.length) (fun n q=> ∃i:Nat,n=l.length - i∧i≤l.length∧(∀k,k<i→kR l f m k=false)∧q=[tD 0 (.sl (bM l)),tI 1 f,tI 2 m,tI 7 (i:Nat)]) ?_ ?_)))))))))
 · exact wq (σ':=[tD 0 (.sl (bM l)),tI 1 f,tI 2 m,tI 7 (0:Nat)]) [] [] (⟨0,rfl,aSj _,fun k h=>absurd h (by omega),rfl⟩) qz
 rintro n s ⟨i,rfl,hi,hk,rfl⟩
 refine sq (sq (rT [0,1,2,7,11,22,23,24,25,26,27,28] (s4 (cd rfl (fun c11=> ?_) fun c11=> ?_))))
 · have hi2:i<l.length:=by simpa[aM] using c11
   have hg:=iD (l:=l) hi2
   refine sk (sq (bk (sq (rT [0,1,2,7,22,23,24,25,26,27,28,29] (s2 (ai (by rw[aSd,hg];exact⟨⟨by omega,by rw[aM];omega⟩,rfl⟩) (s1 (ai (by rw[aSd,hg];exact⟨aSf rfl,rfl⟩) (s3 (y2 (ai (fun h=>(by rw[aSd,hg];exact⟨⟨by omega,by rw[aM];omega⟩,rfl⟩)) (ai rk (y1 (ai (fun h=>(by rw[aSd,hg];exact⟨aSf rfl,rfl⟩)) (ai rk (y2 (ai pk (cd rfl (fun c29=> ?_) fun c29=> ?_))))))))))))))))))
   · refine sq (rT [6] (s2 (rt (bQ rfl (congrArg D.i ?_)))))
     have hs:kR l f m i=true:=by
      have h9:=c29
      rw[aSd,hg] at h9
      exact h9
     exact(oJ (aSj _) (by omega) (fun j _ h=>hk j h) hs).symm
   refine sk (rT [0,1,2,7,22,23,24,25,26,27,28] (s3 ?_))
   have hs:kR l f m i=false:=by
    have h9:=c29
    rw[aSd,hg] at h9
    exact h9
   refine wq [] [] (⟨l.length - (i+1),by omega,i+1,rfl,by omega,fun k h=>by by_cases e:k=i;exact e▸hs;exact hk k (by omega),rfl⟩) ?_
   repeat' apply ai
   all_goals first|exact qx|exact congrArg D.i (aF (by omega))|exact qz
 have hi3:i=l.length:=by simp[aM] at c11;omega
 refine xt (sq (rT [6] (s1 (rt (bQ rfl (congrArg D.i ?_))))))
 exact(mX (fun j _ h=>hk j (by omega))).symm
theorem td (l:List dY) (a:Int) (ha:0≤a∧a<l.length) (hl:l.length≤100000):Sp 181 2 [tD 0 (.sl (bM l)),tI 1 a] [tO 0 0 (gL l a.toNat).length,oR 0 136 6 (bM (gL l a.toNat))]:=by
 obtain⟨i,rfl⟩:=Int.eq_ofNat_of_zero_le ha.1
 have hw:wrap64 ((i:Int)+1)=((i+1:Nat):Int):=by rw[aF (by omega)];omega
 refine sb Tryz.func181 rfl (sq (rT [0,1] (s1 (sq (rD [4] (ai (by simp) (s2 (ai (by exact⟨by rw[aM];exact⟨by first|(simp;done)|(simp;omega),by first|(simp;done)|(simp;omega),by first|(simp;done)|(simp;omega)⟩,vH _⟩) (ai (by exact⟨by first|trivial|rfl|(simp;done),by first|rfl|(simp[aM];done),by first|exact gm l _ _|(simp;done),by(try simp only[aSe,aSi,aSh,aSk,aSr,aM,iL,iM,iN,iO]);show _*64≤_;omega⟩) (s3 (ai (by rw[hw];exact⟨by rw[aM];exact⟨by first|(simp;done)|(simp;omega),by first|(simp;done)|(simp;omega),by first|(simp;done)|(simp;omega)⟩,vH _⟩) (ai (by exact⟨by first|trivial|rfl|(simp;done),by first|rfl|(simp[aM];done),by first|exact gm l _ _|(simp;done),by(try simp only[hw]);(try simp only[aSe,aSi,aSh,aSk,aSr,aM,iL,iM,iN,iO]);show _*64≤_;omega⟩) (s1 (ai (by kernel_rfl) (rt (eE _ [(0,5)] [] rfl (iQ rfl rfl ?_ rfl (bT rfl ?_ trivial)) rfl rfl))))))))))))))))
 · rw[hw,tT,dn];simp[bM,gL]
 rw[hw,tT,dn];simp[bM,gL,List.map_take,List.map_drop]
theorem te (l:List dY) (a:Int) (ha:0≤a∧a<l.length) (hl:l.length≤100000):Ab.Spec Tryz.prog 181 2 [(.t 0,.v (Dv (.sl (bM l)))),(.t 1,.v (I a))] [(.t 0,.v (Dv (.sl (bM (gL l a.toNat)))))]:=
 Spec.told (rl:=[]) (bor:=[0]) (td l a ha hl) (fM rfl rfl rfl (aM _) rfl trivial) rfl rfl
set_option maxHeartbeats 800000 in
theorem aJd (k:aO) (hl:k.log.length≤900000):Sp 95 1 [tV 0 (.e (.agg [.d (.i (k).id),.d (.b (k).up),.d (.s (k).log),.d (.i (k).forced),.own 0 k.halves.length])),oR 0 136 6 (bM k.halves)] [tV 0 (.tup [.agg [.d (.i (aZ k).1.id),.d (.i (aZ k).1.time),.d (.i (aZ k).1.next),.d (.sl (aE (aZ k).1.held)),.d (.sl (aL (aZ k).1.marks)),.d (.sl (aE (aZ k).1.inbox))],.c (.d (.b (aZ k).2))]),oR 0 136 6 (bM k.halves)]:=by
 refine sb Tryz.func95 rfl (sq (rT [1,2] (s3 (sq (rT [1,2,4] (s3 (xp (eY k.log (by omega)) (ai rfl ?_))))))))
 refine s5 (sq (rT [2,3] (s3 (xp (vM k.id (dB k.log).1 (mJ k.log hl).1 (mJ k.log hl).2) (ai rfl ?_)))))
 exact s4 (rt (eE _ [] [] rfl (aQb rfl (aM8 (aD rfl (aD rfl (aD rfl (aD rfl (aD rfl (aD rfl aH)))))) (aR6 rfl aKz)) (bT rfl rfl trivial)) rfl rfl))
theorem qN (a:Int) (f:cF):Sp 178 2 [tI 0 a,tV 1 f.V] [tV 0 ((rx a f).V)]:=by
 exact sb Tryz.func178 rfl (sq (rT [0,3,4] (s2 (sq (rT [4] (s9 (s6 (rt (eE _ [] [] rfl (cY rfl (aD rfl (aD rfl (aD rfl (aD rfl (aD rfl (aD rfl (aD rfl (aD rfl (aD rfl (aD rfl aH)))))))))) trivial) rfl rfl)))))))))
set_option maxHeartbeats 3200000 in
theorem vj (k:aO) (f:cF) (hb:k.halves.length≤3) (hb2: ∀x∈k.halves,x.got.length≤14):Sp 179 2 [tV 0 (.e (.agg [.d (.i (k).id),.d (.b (k).up),.d (.s (k).log),.d (.i (k).forced),.own 0 k.halves.length])),(.t 1,.v f.V),oR 0 136 6 (bM k.halves)] [tV 0 (.tup [.agg [.d (.i ((dW k (bS k.halves f).1)).id),.d (.b ((dW k (bS k.halves f).1)).up),.d (.s ((dW k (bS k.halves f).1)).log),.d (.i ((dW k (bS k.halves f).1)).forced),.d (.sl (bM ((dW k (bS k.halves f).1)).halves))],.c (.d (.i (bS k.halves f).2))])]:=by
 have hlt:=ry (f:=f) hb
 have hg14:=aAh (f:=f) hb2
 refine sb Tryz.func179 rfl (sq (rT [2,3,4,58,59,60,61,62,65,66,67,68,69] (s4 (sq (wa [tP 2 2,tP 3 3,tP 4 4,oB 2 79 [.d (.i (k).id),.d (.b (k).up),.d (.s (k).log),.d (.i (k).forced),.own 0 k.halves.length],oB 3 178 [.d (.i f.kind),.d (.i f.src),.d (.i f.dst),.d (.i f.frm),.d (.i f.num),.d (.i f.to),.d (.i f.til),.d (.i f.size),.d (.i f.mix),.d (.s f.data)],oB 4 79 [.d (.i 0),.d (.b false),.d (.s []),.d (.i 0),.nil],oR 0 136 6 (bM k.halves)] [] [] qz (rT [2,3,4,6,58,59,60,61,62,65,66,67,68,69] (s6 (bH (robj:=[(0,.row 136 6 (bM k.halves))]) (rl:=[]) (bor:=[0]) (tc k.halves f.frm f.num (by omega)) rfl rfl rfl rfl ⟨fM rfl rfl rfl (aM _) rfl (cK rfl rfl (cK rfl rfl trivial)),rfl⟩ rfl (.inr (fun p hp=>by simp at hp;subst hp;trivial)) (aJ ⟨rfl,trivial⟩) (fun j hj=>nomatch hj) ?_))))))))
 refine s1 (SW.midW (fun q=>q=[tP 2 2,tP 3 3,tP 4 4,tI 6 ((dE k.halves f).2:Nat),oB 2 79 [.d (.i (k).id),.d (.b (k).up),.d (.s (k).log),.d (.i (k).forced),.own 50 (dE k.halves f).1.length],oB 3 178 [.d (.i f.kind),.d (.i f.src),.d (.i f.dst),.d (.i f.frm),.d (.i f.num),.d (.i f.to),.d (.i f.til),.d (.i f.size),.d (.i f.mix),.d (.s f.data)],oB 4 79 [.d (.i 0),.d (.b false),.d (.s []),.d (.i 0),.nil],oR 50 136 6 (bM (dE k.halves f).1)]) ?_ ?_)
 · refine sq (rT [2,3,4,6,18,58,59,60,61,62,65,66,67,68,69] (s2 (cd rfl (fun c18=> ?_) fun c18=> ?_)))
   · have hneg:iA k.halves f.frm f.num<0:=by simpa using c18
     have hput:=zW hneg
     refine SW.midW (fun q=>q=[tP 2 2,tP 3 3,tP 4 4,oB 2 79 [.d (.i (k).id),.d (.b (k).up),.d (.s (k).log),.d (.i (k).forced),.own 50 (fW k.halves).length],oB 3 178 [.d (.i f.kind),.d (.i f.src),.d (.i f.dst),.d (.i f.frm),.d (.i f.num),.d (.i f.to),.d (.i f.til),.d (.i f.size),.d (.i f.mix),.d (.s f.data)],oB 4 79 [.d (.i 0),.d (.b false),.d (.s []),.d (.i 0),.nil],oR 50 136 6 (bM (fW k.halves))]) ?_ ?_
     · refine sq (rT [2,3,4,22,58,59,60,61,62,65,66,67,68,69] (s2 (ai (by exact aM _) (s1 (cd rfl (fun c22=> ?_) fun c22=> ?_)))))
       · have h3:3≤k.halves.length:=by simp[aM] at c22;omega
         have hcut:fW k.halves=gL k.halves (0:Int).toNat:=by unfold fW;rw[if_pos h3];rfl
         refine rE [2,3,4,58,59,60,61,62,65,66,67,68,69] (s2 (wW 24 0 rfl rfl (aM _) (by rfl) (gQ (bH (robj:=[]) (rl:=[(0,25)]) (bor:=[]) (td k.halves 0 (by omega) (by omega)) rfl rfl rfl rfl ⟨cK rfl rfl (cK rfl rfl trivial),rfl⟩ rfl (.inl rfl) (fun p hp=>nomatch hp) (fun j hj=>by(obtain rfl:j=0:=by simpa[nE,bX,iH] using hj);rfl) (s2 ?_)))))
         first
         |(refine wq [(50,25)] [] (rfl) ?_
           repeat' apply ai
           all_goals first|exact qx|(rw[hcut];done)|(rw[hcut];simp[aM];done)|(simp[aM];done)|exact qz)
         |(refine wq [(50,0)] [] (rfl) ?_
           repeat' apply ai
           all_goals first|exact qx|(rw[hcut];done)|(rw[hcut];simp[aM];done)|(simp[aM];done)|exact qz)
       have h3: ¬3≤k.halves.length:=by simp[aM] at c22;omega
       have hcut:fW k.halves=k.halves:=by unfold fW;rw[if_neg h3]
       refine sk ?_
       first
       |(refine wq [(50,25)] [] (rfl) ?_
         repeat' apply ai
         all_goals first|exact qx|(rw[hcut];done)|(rw[hcut];simp[aM];done)|(simp[aM];done)|exact qz)
       |(refine wq [(50,0)] [] (rfl) ?_
         repeat' apply ai
         all_goals first|exact qx|(rw[hcut];done)|(rw[hcut];simp[aM];done)|(simp[aM];done)|exact qz)
     rintro s rfl
     have hc2:=ib k.halves hb
     refine sq (rT [2,3,4,58,59,60,61,62,65,66,67,68,69] (s9 (s5 (ai (by exact⟨rfl,aM _,by intro r hr;rw[aSs.1 hr];rfl,by show(_+1)*64≤_;omega⟩) (s2 (rT [2,3,4,6,58,59,60,61,62,65,66,67,68,69] (s2 (ai (by first|rfl|(simp[aM];done)) (s2 ?_)))))))))
     first
     |(refine wq [] [] (rfl) ?_
       repeat' apply ai
       all_goals first|exact qx|(rw[hput];done)|(rw[hput];rfl)|(rw[hput];simp[aM];done)|(rw[hput];exact qS _ (qW f))|(simp[aM];done)|(rw[hput];show D.i _=D.i (((fW k.halves).length:Nat):Int);refine congrArg D.i ?_;simp only[aSe,aSi,aSh,aM];rw[aF (by omega)];omega)|(rw[hput];show D.i _=D.i (((iA k.halves f.frm f.num).toNat:Nat):Int);exact congrArg D.i (Int.toNat_of_nonneg (by omega)).symm)|exact qz)
     |(refine wq [(50,0)] [] (rfl) ?_
       repeat' apply ai
       all_goals first|exact qx|(rw[hput];done)|(rw[hput];rfl)|(rw[hput];simp[aM];done)|(rw[hput];exact qS _ (qW f))|(simp[aM];done)|(rw[hput];show D.i _=D.i (((fW k.halves).length:Nat):Int);refine congrArg D.i ?_;simp only[aSe,aSi,aSh,aM];rw[aF (by omega)];omega)|(rw[hput];show D.i _=D.i (((iA k.halves f.frm f.num).toNat:Nat):Int);exact congrArg D.i (Int.toNat_of_nonneg (by omega)).symm)|exact qz)
   have hneg: ¬iA k.halves f.frm f.num<0:=by simpa using c18
   have hput:=dw hneg
   refine sk ?_
   first
   |(refine wq [] [] (rfl) ?_
     repeat' apply ai
     all_goals first|exact qx|(rw[hput];done)|(rw[hput];rfl)|(rw[hput];simp[aM];done)|(rw[hput];exact qS _ (qW f))|(simp[aM];done)|(rw[hput];show D.i _=D.i (((fW k.halves).length:Nat):Int);refine congrArg D.i ?_;simp only[aSe,aSi,aSh,aM];rw[aF (by omega)];omega)|(rw[hput];show D.i _=D.i (((iA k.halves f.frm f.num).toNat:Nat):Int);exact congrArg D.i (Int.toNat_of_nonneg (by omega)).symm)|exact qz)
   |(refine wq [(50,0)] [] (rfl) ?_
     repeat' apply ai
     all_goals first|exact qx|(rw[hput];done)|(rw[hput];rfl)|(rw[hput];simp[aM];done)|(rw[hput];exact qS _ (qW f))|(simp[aM];done)|(rw[hput];show D.i _=D.i (((fW k.halves).length:Nat):Int);refine congrArg D.i ?_;simp only[aSe,aSi,aSh,aM];rw[aF (by omega)];omega)|(rw[hput];show D.i _=D.i (((iA k.halves f.frm f.num).toNat:Nat):Int);exact congrArg D.i (Int.toNat_of_nonneg (by omega)).symm)|exact qz)
 rintro s rfl
 refine sq (rT [2,3,4,6,7,58,59,60,61,62,65,66,67,68,69] (s3 (ai (by exact⟨aM _,by omega,by omega⟩) (ai (by rw[aSd,iD hlt.1];exact⟨⟨aM _,hlt.1⟩,aSf rfl,rfl⟩) (s2 (sq (sq (wa [tP 2 2,tP 3 3,tP 4 4,tP 7 7,tI 6 ((dE k.halves f).2:Nat),oB 2 79 [.d (.i (k).id),.d (.b (k).up),.d (.s (k).log),.d (.i (k).forced),.own 50 (dE k.halves f).1.length],oB 3 178 [.d (.i f.kind),.d (.i f.src),.d (.i f.dst),.d (.i f.frm),.d (.i f.num),.d (.i f.to),.d (.i f.til),.d (.i f.size),.d (.i f.mix),.d (.s f.data)],oB 4 79 [.d (.i 0),.d (.b false),.d (.s []),.d (.i 0),.nil],oB 7 136 [.d (.i ((bK k.halves f)).frm),.d (.i ((bK k.halves f)).num),.d (.i ((bK k.halves f)).to),.d (.i ((bK k.halves f)).til),.d (.i ((bK k.halves f)).size),.d (.sl (dM ((bK k.halves f)).got))],oR 50 136 6 (bM (dE k.halves f).1)] [] [] ?_ ?_))))))))
 · repeat' apply ai
   all_goals first|exact qx|(rw[aSd,iD hlt.1];rfl)|rfl|exact qz
 refine rT [2,3,4,6,7,70] (s6 (y4 (y1 (ai pk (s1 (y4 (y1 (ai pk (cd rfl (fun c70=> ?_) fun c70=> ?_)))))))))
 · have hno: ¬pJ (bK k.halves f) f=true:=by intro h;simp only[pJ,aSg,beq_iff_eq] at h;simp[h.1.1,h.1.2,h.2] at c70
   have hadd:=dx hno
   refine sq (rT [4,5] (s3 (rt (rq [] [50] rfl ?_))))
   repeat' apply ai
   all_goals try exact qx
   all_goals(first|with_reducible rfl|(rw[hadd];done)|(rw[hadd];rfl)|exact aM _)
 have hyes:pJ (bK k.halves f) f=true:=by simp at c70;simp[pJ,c70]
 have hadd:=zX hyes
 refine sk (sq (rT [2,3,4,6,7,8] (s2 (sq (sq (rT [2,3,4,6,7,8,9] (s1 (bk (SW.loopW (n:=(bK k.halves f).got.length) (fun m q=> ∃i:Nat,m=(bK k.halves f).got.length - i∧i≤(bK k.halves f).got.length∧q=[tP 2 2,tP 3 3,tP 4 4,tP 7 7,tI 6 ((dE k.halves f).2:Nat),tO 8 72 (gV ((bK k.halves f).got.take (i)) f.mix).length,tI 9 (i:Nat),oB 2 79 [.d (.i (k).id),.d (.b (k).up),.d (.s (k).log),.d (.i (k).forced),.own 50 (dE k.halves f).1.length],oB 3 178 [.d (.i f.kind),.d (.i f.src),.d (.i f.dst),.d (.i f.frm),.d (.i f.num),.d (.i f.to),.d (.i f.til),.d (.i f.size),.d (.i f.mix),.d (.s f.data)],oB 4 79 [.d (.i 0),.d (.b false),.d (.s []),.d (.i 0),.nil],oB 7 136 [.d (.i ((bK k.halves f)).frm),.d (.i ((bK k.halves f)).num),.d (.i ((bK k.halves f)).to),.d (.i ((bK k.halves f)).til),.d (.i ((bK k.halves f)).size),.d (.sl (dM ((bK k.halves f)).got))],oR 50 136 6 (bM (dE k.halves f).1),oR 72 155 2 (dM (gV ((bK k.halves f).got.take (i)) f.mix))]) ?_ ?_)))))))))
 · refine wq (σ':=[tP 2 2,tP 3 3,tP 4 4,tP 7 7,tI 6 ((dE k.halves f).2:Nat),tO 8 72 (gV ((bK k.halves f).got.take (0)) f.mix).length,tI 9 (0:Nat),oB 2 79 [.d (.i (k).id),.d (.b (k).up),.d (.s (k).log),.d (.i (k).forced),.own 50 (dE k.halves f).1.length],oB 3 178 [.d (.i f.kind),.d (.i f.src),.d (.i f.dst),.d (.i f.frm),.d (.i f.num),.d (.i f.to),.d (.i f.til),.d (.i f.size),.d (.i f.mix),.d (.s f.data)],oB 4 79 [.d (.i 0),.d (.b false),.d (.s []),.d (.i 0),.nil],oB 7 136 [.d (.i ((bK k.halves f)).frm),.d (.i ((bK k.halves f)).num),.d (.i ((bK k.halves f)).to),.d (.i ((bK k.halves f)).til),.d (.i ((bK k.halves f)).size),.d (.sl (dM ((bK k.halves f)).got))],oR 50 136 6 (bM (dE k.halves f).1),oR 72 155 2 (dM (gV ((bK k.halves f).got.take (0)) f.mix))]) [] [] (⟨0,rfl,aSj _,rfl⟩) ?_
   repeat' apply ai
   all_goals first|exact qx|rfl|exact qz
 rintro n s ⟨i,rfl,hi,rfl⟩
 refine sq (sq (rT [2,3,4,6,7,8,9,77] (s5 (cd rfl (fun c77=> ?_) fun c77=> ?_))))
 · have hi2:i< (bK k.halves f).got.length:=by simpa[bO] using c77
   have hg:=sM (l:=(bK k.halves f).got) hi2
   have hts:=fU (z:=gI.zero) hi2
   have hle:=rz ((bK k.halves f).got.take i) f.mix
   rw[aSk] at hle
   refine sk (sq (bk (sq (rD [2,3,4,6,7,8,9,88] (s3 (ai (by rw[aSd,hg];exact⟨⟨by omega,by rw[bO];omega⟩,rfl⟩) (s1 (ai (by rw[aSd,hg];exact⟨aSf rfl,rfl⟩) (s3 (ai (by kernel_rfl) (cd rfl (fun c88=> ?_) fun c88=> ?_)))))))))))
   · have hlg:=aC6 (l:=(bK k.halves f).got.take i) (m:=(bK k.halves f).got.getD i .zero) (n:=f.mix) (by rw[aSd,hg] at c88;exact c88)
     refine rT [2,3,4,6,7,8,9] (s4 (ai (by rw[aSd,hg];exact⟨⟨by omega,by rw[bO];omega⟩,rfl⟩) (ai (by rw[aSd,hg];exact⟨aSf rfl,rfl⟩) (s1 (ai (by exact⟨rfl,bO _,by intro r hr;rw[aSs.1 hr];rfl,by show(_+1)*24≤_;omega⟩) (s1 (rT [2,3,4,6,7,8,9] (s3 (wq [] [] (⟨(bK k.halves f).got.length - (i+1),by omega,i+1,rfl,by omega,rfl⟩) ?_)))))))))
     repeat' apply ai
     all_goals first|exact qx|exact congrArg D.i (by rw[aF (by omega)];omega)|(rw[hts,hlg];done)|(rw[hts,hlg,aSe];rfl)|(rw[hts,hlg];simp[bO];done)|(rw[hts,hlg,aSd,hg];exact xI _ _)|exact qz
   have hlg:=aFw (l:=(bK k.halves f).got.take i) (m:=(bK k.halves f).got.getD i .zero) (n:=f.mix) (by rw[aSd,hg] at c88;exact c88)
   refine sk (rT [2,3,4,6,7,8,9] (s3 (wq [] [] (⟨(bK k.halves f).got.length - (i+1),by omega,i+1,rfl,by omega,rfl⟩) ?_)))
   repeat' apply ai
   all_goals first|exact qx|exact congrArg D.i (by rw[aF (by omega)];omega)|(rw[hts,hlg];done)|(rw[hts,hlg,aSe];rfl)|(rw[hts,hlg];simp[bO];done)|(rw[hts,hlg,aSd,hg];exact xI _ _)|exact qz
 have hi3:i=(bK k.halves f).got.length:=by simp[bO] at c77;omega
 subst hi3
 clear hi
 have hle:=rz (bK k.halves f).got f.mix
 refine xt (SW.midW (fun q=>q=[tP 2 2,tP 3 3,tP 4 4,tP 7 7,tI 6 ((dE k.halves f).2:Nat),tO 8 60 (qI (gV (bK k.halves f).got f.mix)).length,oB 2 79 [.d (.i (k).id),.d (.b (k).up),.d (.s (k).log),.d (.i (k).forced),.own 50 (dE k.halves f).1.length],oB 3 178 [.d (.i f.kind),.d (.i f.src),.d (.i f.dst),.d (.i f.frm),.d (.i f.num),.d (.i f.to),.d (.i f.til),.d (.i f.size),.d (.i f.mix),.d (.s f.data)],oB 4 79 [.d (.i 0),.d (.b false),.d (.s []),.d (.i 0),.nil],oB 7 136 [.d (.i ((bK k.halves f)).frm),.d (.i ((bK k.halves f)).num),.d (.i ((bK k.halves f)).to),.d (.i ((bK k.halves f)).til),.d (.i ((bK k.halves f)).size),.d (.sl (dM ((bK k.halves f)).got))],oR 50 136 6 (bM (dE k.halves f).1),oR 60 155 2 (dM (qI (gV (bK k.halves f).got f.mix)))]) ?_ ?_)
 · refine sq (rT [2,3,4,6,7,8,99] (s1 (ai (by exact bO _) (s1 (cd rfl (fun c99=> ?_) fun c99=> ?_)))))
   · have h14:14≤(gV (bK k.halves f).got f.mix).length:=by rw[aSv] at c99;simp[bO] at c99;omega
     have hcg:qI (gV (bK k.halves f).got f.mix)=(gV (bK k.halves f).got f.mix).drop 1:=by unfold qI;rw[if_pos h14]
     refine rE [2,3,4,6,7,8] (s2 (wW 101 72 rfl rfl (by simp[bO]) (by rfl) (gQ (sx dQ rfl (by exact⟨⟨by simp,by simp[bO] at *; omega,by simp⟩,xH _⟩) (ai (by rw[aSv];exact⟨trivial,rfl,aCg _ _ _,by have h9:=Nat.le_trans (show(((dM (gV (bK k.halves f).got f.mix)).take (gF none (dM (gV (bK k.halves f).got f.mix)).length)).drop (fE (some 1))).length≤(dM (gV (bK k.halves f).got f.mix)).length by rw[aSr,aSk];omega) (Nat.le_of_eq (bO _));simp only[aSh];show _*24≤_;omega⟩) (s1 ?_))))))
     first
     |(refine wq [(60,72)] [] (rfl) ?_
       repeat' apply ai
       all_goals first|exact qx|(rw[hcg];done)|(rw[hcg,aSv];done)|(rw[hcg];simp[bO,gF,fE];done)|(simp[bO];done)|(rw[hcg];simp[gF,fE,dM,List.map_drop];done)|(rw[hcg];simp[gF,fE,dM,List.map_drop];rw[List.take_of_length_le (by simp)];done)|exact qz)
     |(refine wq [(60,100)] [] (rfl) ?_
       repeat' apply ai
       all_goals first|exact qx|(rw[hcg];done)|(rw[hcg,aSv];done)|(rw[hcg];simp[bO,gF,fE];done)|(simp[bO];done)|(rw[hcg];simp[gF,fE,dM,List.map_drop];done)|(rw[hcg];simp[gF,fE,dM,List.map_drop];rw[List.take_of_length_le (by simp)];done)|exact qz)
   have h14: ¬14≤(gV (bK k.halves f).got f.mix).length:=by rw[aSv] at c99;simp[bO] at c99;omega
   have hcg:qI (gV (bK k.halves f).got f.mix)=(gV (bK k.halves f).got f.mix):=by unfold qI;rw[if_neg h14]
   refine sk ?_
   first
   |(refine wq [(60,72)] [] (rfl) ?_
     repeat' apply ai
     all_goals first|exact qx|(rw[hcg];done)|(rw[hcg,aSv];done)|(rw[hcg];simp[bO,gF,fE];done)|(simp[bO];done)|(rw[hcg];simp[gF,fE,dM,List.map_drop];done)|(rw[hcg];simp[gF,fE,dM,List.map_drop];rw[List.take_of_length_le (by simp)];done)|exact qz)
   |(refine wq [(60,100)] [] (rfl) ?_
     repeat' apply ai
     all_goals first|exact qx|(rw[hcg];done)|(rw[hcg,aSv];done)|(rw[hcg];simp[bO,gF,fE];done)|(simp[bO];done)|(rw[hcg];simp[gF,fE,dM,List.map_drop];done)|(rw[hcg];simp[gF,fE,dM,List.map_drop];rw[List.take_of_length_le (by simp)];done)|exact qz)
 rintro s rfl
 have hcl: (qI (gV (bK k.halves f).got f.mix)).length≤14:=by unfold qI;split<;>(try rw[aSr])<;>omega
 refine sq (rT [2,4,6,7] (s7 (ai (by exact⟨rfl,bO _,by intro r hr;rw[aSs.1 hr];rfl,by show(_+1)*24≤_;omega⟩) (s2 (sq (wa [tP 2 2,tP 4 4,tP 7 7,tI 6 ((dE k.halves f).2:Nat),oB 2 79 [.d (.i (k).id),.d (.b (k).up),.d (.s (k).log),.d (.i (k).forced),.own 50 (dE k.halves f).1.length],oB 3 178 [.d (.i f.kind),.d (.i f.src),.d (.i f.dst),.d (.i f.frm),.d (.i f.num),.d (.i f.to),.d (.i f.til),.d (.i f.size),.d (.i f.mix),.d (.s f.data)],oB 4 79 [.d (.i 0),.d (.b false),.d (.s []),.d (.i 0),.nil],oB 7 136 [.d (.i ((sO (bK k.halves f) f)).frm),.d (.i ((sO (bK k.halves f) f)).num),.d (.i ((sO (bK k.halves f) f)).to),.d (.i ((sO (bK k.halves f) f)).til),.d (.i ((sO (bK k.halves f) f)).size),.d (.sl (dM ((sO (bK k.halves f) f)).got))],oR 50 136 6 (bM (dE k.halves f).1)] [] [60] ?_ ?_))))))
 · repeat' apply ai
   all_goals first|exact qx|rfl|(exact congrArg D.sl (xI _ ⟨f.mix,f.data⟩).symm)|(simp[bO];done)|exact qz
 refine rT [2,4,6] (s4 (ai (by exact⟨aM _,by omega,by omega⟩) (ai (by rw[aSd,iD hlt.1];exact⟨aM _,hlt.1,rfl,aSf rfl⟩) (sq (rT [4,5] (s4 (rt (rq [] [50] rfl ?_))))))))
 repeat' apply ai
 all_goals try exact qx
 all_goals(first|with_reducible rfl|(rw[hadd];done)|(rw[hadd];rfl)|(rw[aSd,hadd];exact congrArg D.sl (aAg (h:=sO (bK k.halves f) f) hlt.1).symm)|(simp[aM];done))
set_option maxHeartbeats 6400000 in
theorem nj (k:aO) (f:cF) (hok:bF k=true) (hu:k.up=true) (hf:eL f=true) (hkd:f.kind=1):Sp 168 2 [tV 0 (.e (.agg [.d (.i (k).id),.d (.b (k).up),.d (.s (k).log),.d (.i (k).forced),.own 0 k.halves.length])),(.t 1,.v f.V),oR 0 136 6 (bM k.halves)] [tV 0 (.tup [.agg [.d (.i ((dL k f).1).id),.d (.b ((dL k f).1).up),.d (.s ((dL k f).1).log),.d (.i ((dL k f).1).forced),.d (.sl (bM ((dL k f).1).halves))],.c (.d (.sl (lP (dL k f).2)))])]:=by
 have hlg:=fV hok
 have hkb:=tY hok
 have hfh:=dy hf hkd
 have hH:=aGz (ic hok) hlg.2.2.2.1 hf hkd
 have h6:=eC (gN hok)
 refine sb Tryz.func168 rfl (sq (rT [2,3,4,39,40,41,42,43,44,45,46,62,63,64,65,66,67,68] (s4 (sq (rT [2,3,4,6,39,40,41,42,43,44,45,46,62,63,64,65,66,67,68] (s2 (sq (rT [2,3,4,6,7,39,40,41,42,43,44,45,46,62,63,64,65,66,67,68] (s1 (bH (robj:=[(0,.row 136 6 (bM k.halves))]) (rl:=[(0,0)]) (bor:=[]) (aJd k (by omega)) rfl rfl rfl rfl ⟨cY rfl (aD rfl (aD rfl (aD rfl (aD rfl (bI rfl rfl rfl aH))))) (bT rfl rfl trivial),rfl⟩ rfl (.inl rfl) (aJ ⟨rfl,trivial⟩) (fun _ hj=>nomatch hj) (s6 (sq (sq (rT [2,3,4,6,7,25,39,40,41,42,43,44,45,46,62,63,64,65,66,67,68] (s5 (cd rfl (fun c25=> ?_) fun c25=> ?_))))))))))))))))
 · have hlate:f.til≤(aZ k).1.time:=by simpa using c25
   refine sq (rD [4,5] (s2 (xp (qN _ f) (ai rfl ?_))))
   refine s3 (ai (by kernel_rfl) (rt ?_))
   have hr:dL k f=(k,[rx 3 f]):=by rw[dL,if_pos hlate]
   refine rq [] [0,29] rfl ?_
   repeat' apply ai
   all_goals try exact qx
   all_goals(first|with_reducible rfl|(rw[hr];done)|(rw[hr];rfl)|exact aM _|rfl)
 have hlate: ¬f.til≤(aZ k).1.time:=by simpa using c25
 refine sk (sq (sq (rT [2,3,4,6,47,62,63,64,65,66,67,68] (s6 (xp (fK (aZ k).1.held f.frm f.num (by have:=h6.1.1;omega)) (ai rfl ?_))))))
 refine s2 (y4 (y2 (xc (fun h=>(mR (aZ k).1.marks f.frm f.num (by have:=h6.1.2.1;omega))) (ai rfl (ai rk ?_)))))
 refine y1 (ai pk (cd rfl (fun c47=> ?_) fun c47=> ?_))
 · have hhave:0≤aX (aZ k).1.held f.frm f.num∨0≤jI (aZ k).1.marks f.frm f.num:=by simpa using c47
   refine sq (rT [2,3,4] (s2 (xp (iP k.log k.forced (by omega)) (ai rfl ?_))))
   refine s2 (sq (rD [4,5] (s2 (xp (qN _ f) (ai rfl ?_)))))
   refine s3 (ai (by kernel_rfl) (rt ?_))
   have hr:dL k f=(tW k,[rx 2 f]):=by rw[dL,if_neg hlate,if_pos hhave]
   refine rq [] [0,55] rfl ?_
   repeat' apply ai
   all_goals try exact qx
   all_goals(first|with_reducible rfl|(rw[hr];done)|(rw[hr];rfl)|exact aM _|rfl)
 have hhave: ¬(0≤aX (aZ k).1.held f.frm f.num∨0≤jI (aZ k).1.marks f.frm f.num):=by simpa using c47
 refine sk (sq (sq (rD [2,3,4,6,69] (s6 (y2 (xc (fun h=>(nV f.size (by omega))) (ai rfl (ai rk ?_))))))))
 refine y2 (xc (fun h=>(uW _ f.mix)) (ai rfl (ai rk ?_)))
 refine y1 (ai pk (ai (by kernel_rfl) (cd rfl (fun c69=> ?_) fun c69=> ?_)))
 · have hskip:f.frm=k.id∨ ¬rS ((f.size+3) / 4) f.mix=true:=by simpa using c69
   refine sq (rT [4,5] (s4 (rt ?_)))
   have hr:dL k f=(k,[]):=by rw[dL,if_neg hlate,if_neg hhave,if_pos hskip]
   refine rq [] [0,15] rfl ?_
   repeat' apply ai
   all_goals try exact qx
   all_goals(first|with_reducible rfl|(rw[hr];done)|(rw[hr];rfl)|exact aM _|rfl)
 have hskip: ¬(f.frm=k.id∨ ¬rS ((f.size+3) / 4) f.mix=true):=by simpa using c69
 refine sk (sq (rT [2,3,4,6,9] (s2 (bH (robj:=[(0,.row 136 6 (bM k.halves))]) (rl:=[]) (bor:=[]) (vj k f hlg.2.2.2.1 hlg.2.2.2.2.2) rfl rfl rfl rfl ⟨cY rfl (aD rfl (aD rfl (aD rfl (aD rfl (bI rfl rfl rfl aH))))) (cY rfl (aD rfl (aD rfl (aD rfl (aD rfl (aD rfl (aD rfl (aD rfl (aD rfl (aD rfl (aD rfl aH)))))))))) (bT rfl rfl trivial)),rfl⟩ rfl (.inl rfl) (aJ ⟨rfl,trivial⟩) (fun _ hj=>nomatch hj) (s5 (sq (sq (rT [2,3,4,6,9,79] (s2 (cd rfl (fun c79=> ?_) fun c79=> ?_))))))))))
 · have hneg: (bS k.halves f).2<0:=by simpa using c79
   refine sq (rT [4,5] (s4 (rt ?_)))
   have hr:dL k f=(dW k (bS k.halves f).1,[]):=by rw[dL,if_neg hlate,if_neg hhave,if_neg hskip,if_pos hneg]
   refine rq [] [15] rfl ?_
   repeat' apply ai
   all_goals try exact qx
   all_goals(first|with_reducible rfl|(rw[hr];done)|(rw[hr];rfl)|exact aM _|rfl)
 have hge: ¬(bS k.halves f).2<0:=by simpa using c79
 obtain⟨i,hi⟩: ∃i:Nat,(bS k.halves f).2=(i:Int):=⟨(bS k.halves f).2.toNat,by omega⟩
 have hil:i< (bS k.halves f).1.length:=aFz hi
 have hgi: (bM (dW k (bS k.halves f).1).halves).getD i []=((bS k.halves f).1.getD i .zero).row:=iD hil
 have hr1:dL k f=nC k f (bS k.halves f).1 i:=by rw[dL,if_neg hlate,if_neg hhave,if_neg hskip,if_neg hge,hi];rfl
 have hgl: ((bS k.halves f).1.getD i .zero).got.length≤14:=by have h9:=(tZ _).1 (hH.1.1 _ (dU (z:=dY.zero) hil));exact(mM h9.1).2.2.2.2.2
 refine sk (sq (rD [2,3,4,6,9,10,11] (s5 (ai (by rw[hi];exact⟨⟨by omega,by rw[aM];show((i:Nat):Int)< (((bS k.halves f).1.length:Nat):Int);omega⟩,by rw[aSd,hgi];rfl⟩) (s1 (ai (by rw[hi,aSd,hgi];exact⟨aSf rfl,rfl⟩) (xp (sy f.size ((bS k.halves f).1.getD i .zero).got (by omega)) (ai (by rw[hi,aSd,hgi];rfl) ?_))))))))
 refine s5 (ai (by kernel_rfl) (sq (sq (rT [2,3,4,6,9,10,95] (s2 (cd rfl (fun c95=> ?_) fun c95=> ?_))))))
 · have hno: ¬(dN f.size ((bS k.halves f).1.getD i .zero).got).2=true:=by exact rO c95
   refine sq (rT [4,5] (s4 (rt ?_)))
   have hr:dL k f=(dW k (bS k.halves f).1,[]):=hr1.trans (ie hno)
   refine rq [] [15] rfl ?_
   repeat' apply ai
   all_goals try exact qx
   all_goals(first|with_reducible rfl|(rw[hr];done)|(rw[hr];rfl)|exact aM _|rfl)
 have hyes: (dN f.size ((bS k.halves f).1.getD i .zero).got).2=true:=by exact jL c95
 refine sk (sq (rT [2,3,4,6,9,12] (s9 (s3 (sq (rT [2,3,4,6,12] (s3 (xp (te (bS k.halves f).1 (i:Nat) (by omega) (by omega)) (ai (by rw[hi];rfl) ?_)))))))))
 refine s2 (sq (rT [2,3,4,6,13] (s1 (xp (gO (eJ f (dN f.size ((bS k.halves f).1.getD i .zero).got).1) (by have:=aC9 f.size ((bS k.halves f).1.getD i .zero).got;show(dN f.size ((bS k.halves f).1.getD i .zero).got).1.length≤_;omega)) (ai rfl ?_)))))
 refine s1 (sq (sq (rT [2,3,4,6,13,116] (s2 (cd rfl (fun c116=> ?_) fun c116=> ?_)))))
 · have hemp:gJ (eJ f (dN f.size ((bS k.halves f).1.getD i .zero).got).1)=[]:=by exact beq_iff_eq.1 c116
   refine sq (rT [4,5] (s4 (rt ?_)))
   have hr:dL k f=(dW k (gL (bS k.halves f).1 i),[]):=hr1.trans (bo hyes hemp)
   refine rq [] [15] rfl ?_
   repeat' apply ai
   all_goals try exact qx
   all_goals(first|with_reducible rfl|(rw[hr];done)|(rw[hr];rfl)|exact aM _|rfl)
 have hemp: ¬gJ (eJ f (dN f.size ((bS k.halves f).1.getD i .zero).got).1)=[]:=by exact beq_eq_false_iff_ne.1 c116
 refine sk (sq (rT [2,3,4,6,14] (s2 (ai (by have:=mP (eJ f (dN f.size ((bS k.halves f).1.getD i .zero).got).1);show _≤9223372036854775807;(try simp only[aSe,aSi,aSh]);omega) (xp (lK (dW k (gL (bS k.halves f).1 i)) (eX fQ (eJ f (dN f.size ((bS k.halves f).1.getD i .zero).got).1)) true (aAi hok hu (by have:=vZ (bS k.halves f).1 i;omega) (aGy hH.1 i)) (by have h9:=uS fQ (eJ f (dN f.size ((bS k.halves f).1.getD i .zero).got).1);have h8:fQ.length=4:=rfl;omega)) (ai rfl ?_))))))
 refine s5 (sq (sq (rT [2,3,4,6,127] (s2 (cd rfl (fun c127=> ?_) fun c127=> ?_)))))
 · have hw: ¬(fF (dW k (gL (bS k.halves f).1 i)) (eX fQ (eJ f (dN f.size ((bS k.halves f).1.getD i .zero).got).1)) true).2=true:=rO c127
   refine sq (rT [4,5] (s4 (rt ?_)))
   have hr:dL k f=((fF (dW k (gL (bS k.halves f).1 i)) (eX fQ (eJ f (dN f.size ((bS k.halves f).1.getD i .zero).got).1)) true).1,[]):=hr1.trans (xS hyes hemp hw)
   refine rq [] [15] rfl ?_
   repeat' apply ai
   all_goals try exact qx
   all_goals(first|with_reducible rfl|(rw[hr];done)|(rw[hr];rfl)|exact aM _|rfl)
 have hw: (fF (dW k (gL (bS k.halves f).1 i)) (eX fQ (eJ f (dN f.size ((bS k.halves f).1.getD i .zero).got).1)) true).2=true:=jL c127
 refine sk (sq (rD [4,5] (s2 (xp (qN _ f) (ai rfl ?_)))))
 refine s3 (ai (by kernel_rfl) (rt ?_))
 have hr:dL k f=((fF (dW k (gL (bS k.halves f).1 i)) (eX fQ (eJ f (dN f.size ((bS k.halves f).1.getD i .zero).got).1)) true).1,[rx 2 f]):=hr1.trans (ig hyes hemp hw)
 refine rq [] [133] rfl ?_
 repeat' apply ai
 all_goals try exact qx
 all_goals(first|with_reducible rfl|(rw[hr];done)|(rw[hr];rfl)|exact aM _|rfl)
set_option maxHeartbeats 6400000 in
theorem iu (k:aO) (f:cF) (hl:k.log.length≤140737488355328):Sp 155 2 [tV 0 k.V,tV 1 f.V] [tV 0 (.tup [.agg [.d (.i ((cT k f).1).id),.d (.b ((cT k f).1).up),.d (.s ((cT k f).1).log),.d (.i ((cT k f).1).forced),.d (.sl (bM ((cT k f).1).halves))],.c (.d (.sl (lP (cT k f).2)))])]:=by
 refine sb Tryz.func155 rfl (sq (rT [2,3,4,27,28,29,32,33,34,35,36,68,69,72,73,74,75,76,77,78,79,80,83,84,85,86,87,88,89,90,91] (s4 (sq (rT [2,3,4,6,27,28,29,32,33,34,35,36,68,69,72,73,74,75,76,77,78,79,80,83,84,85,86,87,88,89,90,91] (s2 (sq (sq (rT [2,3,4,6,18,27,28,29,32,33,34,35,36,68,69,72,73,74,75,76,77,78,79,80,83,84,85,86,87,88,89,90,91] (s1 (xp (fP k hl) (ai rfl ?_))))))))))))
 refine s1 (cd rfl (fun c18=> ?_) fun c18=> ?_)
 · have hno: ¬bF k=true:=rO c18
   refine sq (rT [4,5] (s4 (rt ?_)))
   have hr:cT k f=(.zero,[]):=sa hno
   refine rq [] [15] rfl ?_
   repeat' apply ai
   all_goals try exact qx
   all_goals(first|with_reducible rfl|(rw[hr];done)|(rw[hr];rfl)|exact aM _|rfl)
 have hok:bF k=true:=jL c18
 have hlg:=fV hok
 have hK:=kK hok
 have h6:=eC (gN hok)
 have hkb:=tY hok
 have hsk:eV k.log k.forced=true:=(gM hlg.1).2.1
 obtain⟨⟨_,htm,hnx,_⟩,_⟩:=(bV _).1 (gN hok)
 refine sk (sq (rT [2,3,4,6,7,27,28,29,32,33,34,35,36,68,69,72,73,74,75,76,77,78,79,80,83,84,85,86,87,88,89,90,91] (s1 (bH (robj:=[]) (rl:=[(0,22)]) (bor:=[]) (sv k (⟨by omega,fun x hx=>by have:=hlg.2.2.2.2.2 x hx;omega⟩)) rfl rfl rfl rfl ⟨cY rfl (aD rfl (aD rfl (aD rfl (aD rfl (aD rfl aH))))) trivial,rfl⟩ rfl (.inl rfl) (fun p hp=>nomatch hp) (fun j hj=>by(obtain rfl:j=0:=by simpa[nE,bX,iH] using hj);rfl) (s2 (sq (sq (rT [2,3,4,6,7,37,68,69,72,73,74,75,76,77,78,79,80,83,84,85,86,87,88,89,90,91] (s4 (y1 (xc (fun h=>(al f)) (ai rfl (ai rk ?_)))))))))))))
 refine y1 (ai pk (s1 (y4 (y1 (ai pk (cd rfl (fun c37=> ?_) fun c37=> ?_))))))
 · have hnot: ¬(k.up&&eL f&&f.dst==k.id)=true:=by intro h;simp at h;simp[h.1.1,h.1.2,h.2] at c37
   refine sq (rT [4,5] (s4 (rt ?_)))
   have hr:cT k f=(k,[]):=sc hok hnot
   refine rq [] [22,15] rfl ?_
   repeat' apply ai
   all_goals try exact qx
   all_goals(first|with_reducible rfl|(rw[hr];done)|(rw[hr];rfl)|exact aM _|rfl)
 have hgo: (k.up&&eL f&&f.dst==k.id)=true:=by simp at c37;simp[c37]
 have hu:k.up=true:=by simp at hgo;exact hgo.1.1
 have hf:eL f=true:=by simp at hgo;exact hgo.1.2
 refine sk (sq (sq (rT [2,3,4,6,7,42,68,69,72,73,74,75,76,77,78,79,80,83,84,85,86,87,88,89,90,91] (s3 (cd rfl (fun c42=> ?_) fun c42=> ?_)))))
 · have hkd:f.kind=1:=by simpa using c42
   have hhh:=mt hok hu hf hkd
   refine sq (rT [4,8,9] (s2 (bH (robj:=[(22,.row 136 6 (bM k.halves))]) (rl:=[(0,22)]) (bor:=[]) (nj k f hok hu hf hkd) rfl rfl rfl rfl ⟨cY rfl (aD rfl (aD rfl (aD rfl (aD rfl (bI rfl rfl rfl aH))))) (cY rfl (aD rfl (aD rfl (aD rfl (aD rfl (aD rfl (aD rfl (aD rfl (aD rfl (aD rfl (aD rfl aH)))))))))) (bT rfl rfl trivial)),rfl⟩ rfl (.inl rfl) (aJ ⟨rfl,trivial⟩) (fun _ hj=>nomatch hj) (s6 (sq (rT [4,5] (s1 (xp (fL (dL k f).1 ⟨by have:=hhh.2;omega,fun x hx=>by have:=aG0 hhh.1 x hx;omega⟩) (ai rfl ?_)))))))))
   refine s3 (rt ?_)
   have hr:cT k f=dL k f:=dz hok hgo hkd
   refine rq [] [] rfl ?_
   repeat' apply ai
   all_goals try exact qx
   all_goals(first|with_reducible rfl|(rw[hr];done)|(rw[hr];rfl)|exact aM _|rfl)
 have hkd: ¬f.kind=1:=by simpa using c42
 have hfs:=kX hf
 refine sk (sq (rT [3,4,6,7,10,68,69,72,73,74,75,76,77,78,79,80,83,84,85,86,87,88,89,90,91] (s1 (xp (gE k (by omega)) (ai rfl ?_)))))
 refine s6 (sq (rT [3,4,6,7,10,12,68,69,72,73,74,75,76,77,78,79,80,83,84,85,86,87,88,89,90,91] (s6 (xp (fK (aZ k).1.held f.frm f.num (by have:=h6.1.1;omega)) (ai rfl ?_)))))
 refine s1 (sq (sq (rD [3,4,6,7,92] (s4 (y2 (ai pk (s1 (y3 (ai (fun h=>(by simp[gb] at h;obtain⟨j,hj,hjl,_⟩:=qF hok (f:=f.frm) (n:=f.num) (by omega);rw[hj,aSd,aQ hjl];exact⟨⟨by omega,by rw[aA];omega⟩,rfl⟩)) (ai rk (y1 (ai (fun h=>(by simp[gb] at h;obtain⟨j,hj,hjl,_⟩:=qF hok (f:=f.frm) (n:=f.num) (by omega);rw[hj,aSd,aQ hjl];exact⟨aSf rfl,rfl⟩)) (ai rk (y3 (ai pk (s1 (y3 (ai (fun h=>(by simp[gb] at h;obtain⟨j,hj,hjl,_⟩:=qF hok (f:=f.frm) (n:=f.num) (by omega);rw[hj,aSd,aQ hjl];exact⟨⟨by omega,by rw[aA];omega⟩,rfl⟩)) (ai rk (y1 (ai (fun h=>(by simp[gb] at h;obtain⟨j,hj,hjl,_⟩:=qF hok (f:=f.frm) (n:=f.num) (by omega);rw[hj,aSd,aQ hjl];exact⟨aSf rfl,rfl⟩)) (ai rk (y3 (ai pk (ai (by kernel_rfl) (cd rfl (fun c92=> ?_) fun c92=> ?_))))))))))))))))))))))))))
 · have hno: ¬zV k f=true:=aLi hok c92
   refine sq (rT [4,5] (s4 (rt ?_)))
   have hr:cT k f=(k,[]):=ko hok hgo hkd hno
   refine rq [] [22,15] rfl ?_
   repeat' apply ai
   all_goals try exact qx
   all_goals(first|with_reducible rfl|(rw[hr];done)|(rw[hr];rfl)|exact aM _|rfl)
 have hyes:zV k f=true:=aI2 hok c92
 refine sk (sq (wa [tP 3 3,tP 4 4,tP 7 7,tO 6 15 0,oB 2 79 [.d (.i (k).id),.d (.b (k).up),.d (.s (k).log),.d (.i (k).forced),.d (.sl (bM (k).halves))],oB 3 178 [.d (.i f.kind),.d (.i f.src),.d (.i f.dst),.d (.i f.frm),.d (.i f.num),.d (.i f.to),.d (.i f.til),.d (.i f.size),.d (.i f.mix),.d (.s f.data)],oB 4 79 [.d (.i 0),.d (.b false),.d (.s []),.d (.i 0),.nil],oB 7 79 [.d (.i (k).id),.d (.b (k).up),.d (.s (k).log),.d (.i (k).forced),.d (.sl (bM (k).halves))],oR 15 178 10 []] [] [22] ?_ ?_))
 · repeat' apply ai
   all_goals first|exact qx|exact aM _|rfl|exact qz
 have q1:=cA (k:=6) (n:=f.frm.toNat) (by simp;omega)
 have q2:=cA (k:=6) (n:=f.num.toNat) (by simp;omega)
 have q3:=cA (k:=6) (n:=f.til.toNat) (by simp;omega)
 have hll: (km f).length≤100:=by simp[km,qU,nH];omega
 refine rD [4,6,13] (s7 (xp (yN f.frm f.num f.til (by have:=hfs;omega)) (ai rfl ?_)))
 refine ai (by show _≤9223372036854775807;(try simp only[aSe,aSi,aSh]);omega) (xp (lK k (km f) false hok (by omega)) (ai rfl ?_))
 refine s6 (ai (by kernel_rfl) (sq (rT [4,5] (s4 (rt ?_)))))
 have hr:cT k f=((fF k (km f) false).1,[]):=sd hok hgo hkd hyes
 refine rq [] [15] rfl ?_
 repeat' apply ai
 all_goals try exact qx
 all_goals(first|with_reducible rfl|(rw[hr];done)|(rw[hr];rfl)|exact aM _|rfl)
set_option maxHeartbeats 1600000 in
theorem iv (k:aO) (keep:Int) (hl:k.log.length≤140737488355328):Sp 160 2 [tV 0 k.V,tI 1 keep] [tV 0 ((mO k keep).V)]:=by
 refine sb Tryz.func160 rfl (sq (rT [1,2,4] (s2 (sq (sq (rT [1,2,4,7] (s1 (xp (fP k hl) (ai rfl ?_)))))))))
 refine s1 (cd rfl (fun c7=> ?_) fun c7=> ?_)
 · have hno: ¬bF k=true:=rO c7
   refine sq (rT [4] (s2 (rt ?_)))
   have hr:mO k keep= .zero:=if_neg hno
   refine rq [] [] rfl ?_
   repeat' apply ai
   all_goals try exact qx
   all_goals(first|with_reducible rfl|(rw[hr];done)|(rw[hr];rfl)|rfl)
 have hok:bF k=true:=jL c7
 have hlg:=fV hok
 refine sk (sq (rD [4] (s5 (xp (kz k.log k.forced keep (by omega)) (ai rfl ?_)))))
 refine s2 (ai (by kernel_rfl) (rt ?_))
 have hr:mO k keep=⟨k.id,false,(jE k.log k.forced keep).1,(jE k.log k.forced keep).2,[]⟩:=if_pos hok
 refine rq [] [] rfl ?_
 repeat' apply ai
 all_goals try exact qx
 all_goals(first|with_reducible rfl|(rw[hr];done)|(rw[hr];rfl)|rfl)
set_option maxHeartbeats 1600000 in
theorem iw (k:aO) (hl:k.log.length≤140737488355328):Sp 161 1 [tV 0 k.V] [tV 0 ((jK k).V)]:=by
 refine sb Tryz.func161 rfl (sq (rT [1,2] (s2 (sq (sq (rT [1,2,5] (s1 (xp (fP k hl) (ai rfl ?_)))))))))
 refine s1 (cd rfl (fun c5=> ?_) fun c5=> ?_)
 · have hno: ¬bF k=true:=rO c5
   refine sq (rT [2] (s2 (rt ?_)))
   have hr:jK k= .zero:=if_neg hno
   refine rq [] [] rfl ?_
   repeat' apply ai
   all_goals try exact qx
   all_goals(first|with_reducible rfl|(rw[hr];done)|(rw[hr];rfl)|rfl)
 have hok:bF k=true:=jL c5
 have hlg:=fV hok
 refine sk (sq (sq (rT [1,2,8] (s2 (cd rfl (fun c8=> ?_) fun c8=> ?_)))))
 · have hu:k.up=true:=c8
   refine sq (rT [2] (s1 (xp (fL k (⟨by omega,fun x hx=>by have:=hlg.2.2.2.2.2 x hx;omega⟩)) (ai rfl ?_))))
   refine s1 (rt ?_)
   have hr:jK k=k:=by rw[jK,if_pos hok];cases k;simp at hu;simp[hu]
   refine rq [] [] rfl ?_
   repeat' apply ai
   all_goals try exact qx
   all_goals(first|with_reducible rfl|(rw[hr];done)|(rw[hr];rfl)|rfl)
 have hu:k.up=false:=c8
 refine sk (sq (rT [2] (s6 (rt ?_))))
 have hr:=aIm hok hu
 refine rq [] [] rfl ?_
 repeat' apply ai
 all_goals try exact qx
 all_goals(first|with_reducible rfl|(rw[hr];done)|(rw[hr];rfl)|rfl)
set_option maxHeartbeats 1600000 in
theorem eg (k:aO) (hl:k.log.length≤140737488355328):Sp 164 1 [tV 0 k.V] [tV 0 (.tup [.agg [.d (.i ((eF k).1).id),.d (.b ((eF k).1).up),.d (.s ((eF k).1).log),.d (.i ((eF k).1).forced),.d (.sl (bM ((eF k).1).halves))],.c (.d (.b (eF k).2))])]:=by
 refine sb Tryz.func164 rfl (sq (rT [1,2,15,16,17,18,19,20,21,22] (s3 (sq (sq (rT [1,2,7,15,16,17,18,19,20,21,22] (s1 (xp (fP k hl) (ai rfl ?_)))))))))
 refine s1 (cd rfl (fun c7=> ?_) fun c7=> ?_)
 · have hno: ¬bF k=true:=rO c7
   refine sq (rT [2,3] (s3 (rt ?_)))
   have hr:eF k=(.zero,false):=if_neg hno
   refine rq [] [] rfl ?_
   repeat' apply ai
   all_goals try exact qx
   all_goals(first|with_reducible rfl|(rw[hr];done)|(rw[hr];rfl)|rfl)
 have hok:bF k=true:=jL c7
 have hlg:=fV hok
 refine sk (sq (rT [1,2,4,15,16,17,18,19,20,21,22] (s1 (xp (fL k (⟨by omega,fun x hx=>by have:=hlg.2.2.2.2.2 x hx;omega⟩)) (ai rfl ?_)))))
 refine s2 (sq (sq (rT [1,2,4,23] (s4 (y4 (y4 (ai pk (cd rfl (fun c23=> ?_) fun c23=> ?_))))))))
 · refine sq (rT [2,3] (s3 (rt ?_)))
   have hr:eF k=(k,false):=by rw[eF,if_pos hok,if_pos c23]
   refine rq [] [] rfl ?_
   repeat' apply ai
   all_goals try exact qx
   all_goals(first|with_reducible rfl|(rw[hr];done)|(rw[hr];rfl)|rfl)
 refine sk (sq (rT [2,4] (s2 (xp (iP k.log k.forced (by omega)) (ai rfl ?_)))))
 refine s2 (sq (rT [2,3] (s3 (rt ?_))))
 have hr:eF k=(tW k,true):=by rw[eF,if_pos hok,if_neg (by rw[c23];decide)]
 refine rq [] [] rfl ?_
 repeat' apply ai
 all_goals try exact qx
 all_goals(first|with_reducible rfl|(rw[hr];done)|(rw[hr];rfl)|rfl)
set_option maxHeartbeats 1600000 in
theorem ap (a:Nat) (l:List cF) (ha:a≤30) (hl:l.length≤1000) (hp: ∀f∈l,FP f):Sp 156 2 [tV 0 (.e (.c (ps 804 4 (a)))),tD 1 (.sl (lP l)),(.o 804,aI 175 4 fG)] [tV 0 (.e (.c (ps 804 4 (ck a l.length)))),(.o 804,aI 175 4 fG)]:=by
 refine sb Tryz.func156 rfl (sq (rT [0,1,11,12,13] (s1 (sq (sq (rT [0,1,5,11,12,13] (s1 (bk (SW.loopW (n:=l.length) (fun m q=> ∃i:Nat,m=l.length - i∧(i≤l.length∧a+i≤30)∧q=[tV 0 (.e (.c (ps 804 4 (a+i)))),tD 1 (.sl (lP l)),tI 5 (i:Nat),(.o 804,aI 175 4 fG)]) ?_ ?_)))))))))
 · exact wq (σ':=[tV 0 (.e (.c (ps 804 4 (a+0)))),tD 1 (.sl (lP l)),tI 5 (0:Nat),(.o 804,aI 175 4 fG)]) [] [] (⟨0,rfl,⟨aSj _,ha⟩,rfl⟩) qz
 rintro n s ⟨i,rfl,hi,rfl⟩
 refine sq (sq (rT [0,1,5,11,12,13,14] (s5 (y1 (aAm dQ rfl rfl rfl rfl rfl rk (y1 (ai pk (cd rfl (fun c14=> ?_) fun c14=> ?_))))))))
 · have hi2:i<l.length∧a+i<30:=by simp[kS] at c14;omega
   have hg:=sf (l:=l) hi2.1
   have hfp:=hp _ (dU (z:=cF.zero) hi2.1)
   refine sk (sq (bk (rD [0,1,5,11,12,13] (s3 (ai (by rw[aSd,hg];exact⟨⟨by omega,by rw[kS];omega⟩,rfl⟩) (s1 (ai (by rw[aSd,hg];exact⟨aSf rfl,rfl⟩) (s2 (ai (by rw[aSd,hg];exact⟨⟨by omega,by rw[kS];omega⟩,rfl⟩) (s1 (ai (by rw[aSd,hg];exact⟨aSf rfl,rfl⟩) (s2 (ai (by rw[aSd,hg];exact⟨⟨by omega,by rw[kS];omega⟩,rfl⟩) (ai (by rw[aSd,hg];exact⟨aSf rfl,rfl⟩) (bH (robj:=[]) (rl:=[(0,32)]) (bor:=[]) (qJ (l.getD i .zero)) rfl rfl rfl rfl ⟨cY rfl (by rw[aSd,hg];exact(aD rfl (aD rfl (aD rfl (aD rfl (aD rfl (aD rfl (aD rfl (aD rfl (aD rfl (aD rfl aH))))))))))) trivial,rfl⟩ rfl (.inl rfl) (fun p hp=>nomatch hp) (fun j hj=>by(obtain rfl:j=0:=by simpa[nE,bX,iH] using hj);rfl) ?_)))))))))))))))
   refine ai (by exact⟨aT _,by rw[cC]⟩) (s2 (jq (m:=1) (z:=[.i 0,.i 0,.s [],.b false]) dQ rfl rfl rfl rfl rfl rfl rfl rfl se (fg dQ (by decide) rfl rfl rfl (fun r hr=> ?_) rfl) ?_ ?_))
   · rw[aSs.1 hr,aSd,hg]
     exact⟨rfl,⟨_,_,_,_⟩,rfl,hfp.1,by have:=tw (l.getD i .zero);show(iJ (aC (oI (l.getD i .zero)))).length≤1000;rw[cC];omega⟩
   · show(a+i+1)*40≤_;omega
   refine s1 (ai (by kernel_rfl) (rT [0,1,5,11,12,13] (s3 (wq [] [] (⟨l.length - (i+1),by omega,i+1,rfl,by omega,rfl⟩) ?_))))
   repeat' apply ai
   all_goals first|exact qx|exact congrArg D.i (by rw[aF (by omega)];omega)|omega|exact qz
 have hi3:i=l.length∨a+i=30:=by simp[kS] at c14;omega
 refine xt (sq (rT [4] (s2 (rt (eE _ [] [] rfl (aKi rfl rfl ?_ rfl (aV rfl rfl trivial)) rfl rfl)))))
 unfold ck;omega
theorem tf (a b:Int):Sp 153 2 [tI 0 a,tI 1 b] [tI 0 (zY a b)]:=by
 refine sb Tryz.func153 rfl (sq (rT [0,1] (s1 (sq (sq (rT [0,1,7] (s3 (cd rfl (fun c7=> ?_) fun c7=> ?_))))))))
 · refine sq (rT [4] (s2 (rt (bQ rfl (congrArg D.i ?_)))))
   simp[zY] at *; omega
 refine sk (sq (rT [4] (s2 (rt (bQ rfl (congrArg D.i ?_))))))
 simp[zY] at *; omega
set_option maxHeartbeats 3200000 in
theorem vk (tm:Int) (ks:List aO) (ls:List Bool) (a b c:Nat) (e:EvR) (hw:tl ks ls a b c) (htx:e.text.length≤1000) (hat:0≤e.at_∧e.at_≤3):tn 157 2 [tV 0 (.e (.agg [.d (.i (tm)),.own 802 4,.own 803 3,ps 804 4 (a),ps 805 5 (b),ps 806 5 (c)])),(.t 1,.v e.V),oR 802 79 5 (aG ks),oR 803 4 1 (aK ls),(.o 804,aI 175 4 fG),(.o 805,aI 29 5 cL),(.o 806,aI 29 5 cL)] (fun s=> ∃(tm:Int) (ks:List aO) (ls:List Bool) (a b c:Nat) (ok:Bool),tl ks ls a b c∧s=[tV 0 (.tup [.agg [.d (.i (tm)),.own 802 4,.own 803 3,ps 804 4 (a),ps 805 5 (b),ps 806 5 (c)],.c (.d (.b (ok)))]),oR 802 79 5 (aG ks),oR 803 4 1 (aK ls),(.o 804,aI 175 4 fG),(.o 805,aI 29 5 cL),(.o 806,aI 29 5 cL)]):=by
 obtain⟨i,hi,hil⟩:=xW hat
 have hks:=hw.at hil
 refine uo Tryz.func157 rfl (sq (rT [2,3,4] (s4 (sq (sq (rT [2,3,4,11] (s2 (dg dQ rfl rfl rfl rfl rfl (s1 (cd rfl (fun c11=> ?_) fun c11=> ?_))))))))))
 · refine sq (rT [4,5] (s3 (rt (cS [tV 0 (.tup [.agg [.d (.i (tm)),.own 802 4,.own 803 3,ps 804 4 (a),ps 805 5 (b),ps 806 5 (c)],.c (.d (.b (false)))]),oR 802 79 5 (aG ks),oR 803 4 1 (aK ls),(.o 804,aI 175 4 fG),(.o 805,aI 29 5 cL),(.o 806,aI 29 5 cL)] ⟨tm,ks,ls,a,b,c,false,hw,rfl⟩ (rq [] [] rfl ?_)))))
   repeat' apply ai
   all_goals try exact qx
   all_goals(first|with_reducible rfl|(rw[hi,aSd];exact bE (by rw[hw.four];exact hil))|rfl)
 have hb6:b<6:=by simp at c11;omega
 refine sk (sq (rD [2,3,4,6,7] (s4 (ai (by rw[hi];exact⟨by rw[bC];exact hw.four,by omega,by omega⟩) (ai (by rw[hi,aSd,bW (by rw[hw.four];exact hil)];exact⟨⟨by rw[bC];exact hw.four,hil⟩,aSf rfl,rfl⟩) (s6 (xp (lf (ks.getD i .zero) e.dst e.til e.text (by have:=hks.1;omega) (by omega)) (ai (by rw[hi,aSd,bW (by rw[hw.four];exact hil)];rfl) ?_))))))))
 refine s6 (ai (by kernel_rfl) (sq (sq (rT [2,3,4,6,7,30] (s2 (cd rfl (fun c30=> ?_) fun c30=> ?_))))))
 · refine sq (rT [4,5] (s3 (rt (cS [tV 0 (.tup [.agg [.d (.i (tm)),.own 802 4,.own 803 3,ps 804 4 (a),ps 805 5 (b),ps 806 5 (c)],.c (.d (.b (false)))]),oR 802 79 5 (aG ks),oR 803 4 1 (aK ls),(.o 804,aI 175 4 fG),(.o 805,aI 29 5 cL),(.o 806,aI 29 5 cL)] ⟨tm,ks,ls,a,b,c,false,hw,rfl⟩ (rq [] [] rfl ?_)))))
   repeat' apply ai
   all_goals try exact qx
   all_goals(first|with_reducible rfl|(rw[hi,aSd];exact bE (by rw[hw.four];exact hil))|rfl)
 refine sk (sq (rT [2,3,4,7] (s5 (ai (by rw[hi];exact⟨by rw[bC];exact hw.four,by omega,by omega⟩) (ai (by rw[hi,aSd,bW (by rw[hw.four];exact hil)];exact⟨by rw[bC];exact hw.four,hil,rfl,aSf rfl⟩) (sq (wa [tP 2 2,tP 3 3,tP 4 4,tI 7 ((dV (ks.getD i .zero) e.dst e.til e.text).2),oB 2 84 [.d (.i (tm)),.own 802 4,.own 803 3,ps 804 4 (a),ps 805 5 (b),ps 806 5 (c)],oB 3 140 [.d (.i e.kind),.d (.i e.at_),.d (.i e.frm),.d (.i e.num),.d (.i e.word),.d (.i e.mix),.d (.i e.keep),.d (.i e.dst),.d (.i e.til),.d (.s e.text)],oB 4 84 [.d (.i 0),.nil,.nil,.nil,.nil,.nil],oB 6 79 [.d (.i (((dV (ks.getD i .zero) e.dst e.til e.text).1)).id),.d (.b (((dV (ks.getD i .zero) e.dst e.til e.text).1)).up),.d (.s (((dV (ks.getD i .zero) e.dst e.til e.text).1)).log),.d (.i (((dV (ks.getD i .zero) e.dst e.til e.text).1)).forced),.d (.sl (bM (((dV (ks.getD i .zero) e.dst e.til e.text).1)).halves))],oR 802 79 5 (aG (ks.set i (dV (ks.getD i .zero) e.dst e.til e.text).1)),oR 803 4 1 (aK ls),(.o 804,aI 175 4 fG),(.o 805,aI 29 5 cL),(.o 806,aI 29 5 cL)] [] [] ?_ ?_)))))))
 · repeat' apply ai
   all_goals first|exact qx|(rw[hi,aSd];exact bE (k:=(dV (ks.getD i .zero) e.dst e.til e.text).1) (by rw[hw.four];exact hil))|rfl|exact qz
 refine rT [2,4] (s9 (s4 (jq (m:=1) (z:=[.i 0,.i 0,.i 0,.i 0,.s []]) dQ rfl rfl rfl rfl rfl rfl rfl rfl aDa (fg dQ (by decide) rfl rfl rfl (fun r hr=> ?_) rfl) ?_ ?_)))
 · rw[aSs.1 hr]
   exact⟨rfl,⟨_,_,_,_,_⟩,rfl,by show e.text.length≤1000000;omega⟩
 · have:=hw.rb;show(_+1)*48≤_;omega
 refine s2 (sq (rT [4,5] (s3 (rt (cS [tV 0 (.tup [.agg [.d (.i (tm)),.own 802 4,.own 803 3,ps 804 4 (a),ps 805 5 ((b+1)),ps 806 5 (c)],.c (.d (.b (true)))]),oR 802 79 5 (aG (ks.set i (dV (ks.getD i .zero) e.dst e.til e.text).1)),oR 803 4 1 (aK ls),(.o 804,aI 175 4 fG),(.o 805,aI 29 5 cL),(.o 806,aI 29 5 cL)] ⟨tm,(ks.set i (dV (ks.getD i .zero) e.dst e.til e.text).1),ls,a,(b+1),c,true,((hw.set (aI3 hks) i).to hw.ra (by omega) hw.rc),rfl⟩ (rq [] [] rfl ?_))))))
 repeat' apply ai
 all_goals try exact qx
 all_goals(first|with_reducible rfl|(rw[hi,aSd];exact bE (by rw[hw.four];exact hil))|rfl)
set_option maxHeartbeats 6400000 in
theorem li (tm:Int) (ks:List aO) (ls:List Bool) (a b c:Nat) (e:EvR) (hw:tl ks ls a b c) (htx:e.text.length≤1000) (hat:0≤e.at_∧e.at_≤3):tn 148 2 [tV 0 (.e (.agg [.d (.i (tm)),.own 802 4,.own 803 3,ps 804 4 (a),ps 805 5 (b),ps 806 5 (c)])),(.t 1,.v e.V),oR 802 79 5 (aG ks),oR 803 4 1 (aK ls),(.o 804,aI 175 4 fG),(.o 805,aI 29 5 cL),(.o 806,aI 29 5 cL)] (fun s=> ∃(tm:Int) (ks:List aO) (ls:List Bool) (a b c:Nat) (ok:Bool),tl ks ls a b c∧s=[tV 0 (.tup [.agg [.d (.i (tm)),.own 802 4,.own 803 3,ps 804 4 (a),ps 805 5 (b),ps 806 5 (c)],.c (.d (.b (ok)))]),oR 802 79 5 (aG ks),oR 803 4 1 (aK ls),(.o 804,aI 175 4 fG),(.o 805,aI 29 5 cL),(.o 806,aI 29 5 cL)]):=by
 obtain⟨i,hi,hil⟩:=xW hat
 have hks:=hw.at hil
 refine uo Tryz.func148 rfl (sq (rT [2,3,4,103,104,105,106] (s4 (sq (rT [2,3,4,6,103,104,105,106] (s4 (ai (by rw[hi];exact⟨by rw[bC];exact hw.four,by omega,by omega⟩) (ai (by rw[hi,aSd,bW (by rw[hw.four];exact hil)];exact⟨⟨by rw[bC];exact hw.four,hil⟩,aSf rfl,rfl⟩) (s2 (sq (wa [tP 2 2,tP 3 3,tP 4 4,tP 6 6,oB 2 84 [.d (.i (tm)),.own 802 4,.own 803 3,ps 804 4 (a),ps 805 5 (b),ps 806 5 (c)],oB 3 140 [.d (.i e.kind),.d (.i e.at_),.d (.i e.frm),.d (.i e.num),.d (.i e.word),.d (.i e.mix),.d (.i e.keep),.d (.i e.dst),.d (.i e.til),.d (.s e.text)],oB 4 84 [.d (.i 0),.nil,.nil,.nil,.nil,.nil],oB 6 79 [.d (.i ((ks.getD i .zero)).id),.d (.b ((ks.getD i .zero)).up),.d (.s ((ks.getD i .zero)).log),.d (.i ((ks.getD i .zero)).forced),.d (.sl (bM ((ks.getD i .zero)).halves))],oR 802 79 5 (aG ks),oR 803 4 1 (aK ls),(.o 804,aI 175 4 fG),(.o 805,aI 29 5 cL),(.o 806,aI 29 5 cL)] [] [] ?_ ?_)))))))))))
 · repeat' apply ai
   all_goals first|exact qx|(rw[hi,aSd,bW (by rw[hw.four];exact hil)];rfl)|exact qz
 refine rT [2,3,4,6,7,103,104,105,106] (s1 (SW.midW (fun q=> ∃(ks2:List aO) (ok2:Bool),tl ks2 ls a b c∧q=[tP 2 2,tP 4 4,tB 7 ok2,oB 2 84 [.d (.i (tm)),.own 802 4,.own 803 3,ps 804 4 (a),ps 805 5 (b),ps 806 5 (c)],oB 3 140 [.d (.i e.kind),.d (.i e.at_),.d (.i e.frm),.d (.i e.num),.d (.i e.word),.d (.i e.mix),.d (.i e.keep),.d (.i e.dst),.d (.i e.til),.d (.s e.text)],oB 4 84 [.d (.i 0),.nil,.nil,.nil,.nil,.nil],oR 802 79 5 (aG ks2),oR 803 4 1 (aK ls),(.o 804,aI 175 4 fG),(.o 805,aI 29 5 cL),(.o 806,aI 29 5 cL)]) ?_ ?_))
 · refine sq (rT [2,3,4,6,7,20,103,104,105,106] (s2 (bk (sq (rT [2,3,4,6,7,20,21,103,104,105,106] (s2 (cd rfl (fun c21=> ?_) fun c21=> ?_)))))))
   · refine sq (rE [4,5] (s2 (cU (robj:=[(802,.row 79 5 (aG ks)),(803,.row 4 1 (aK ls)),(804,aI 175 4 fG),(805,aI 29 5 cL),(806,aI 29 5 cL)]) (rl:=[]) (bor:=[]) (news:=[]) (vk tm ks ls a b c e hw htx hat) rfl rfl rfl rfl ⟨cY rfl (aD rfl (bI rfl rfl rfl (bI rfl rfl rfl (bD rfl rfl rfl (bD rfl rfl rfl (bD rfl rfl rfl aH)))))) (cY rfl (aD rfl (aD rfl (aD rfl (aD rfl (aD rfl (aD rfl (aD rfl (aD rfl (aD rfl (aD rfl aH)))))))))) (bT rfl rfl (bT rfl rfl (aV rfl rfl (aV rfl rfl (aV rfl rfl trivial)))))),rfl⟩ (by rintro _ ⟨tm2,ks2,ls2,a2,b2,c2,ok2,hw2,rfl⟩;exact⟨rfl,.inl rfl,fun j hj=>nomatch hj⟩) (aJ ⟨rfl,rfl,rfl,rfl,rfl,trivial⟩) (fun j hj=>nomatch hj) ?_)))
     rintro _ ⟨tm2,ks2,ls2,a2,b2,c2,ok2,hw2,rfl⟩
     refine s4 (rt (cS [tV 0 (.tup [.agg [.d (.i (tm2)),.own 802 4,.own 803 3,ps 804 4 (a2),ps 805 5 (b2),ps 806 5 (c2)],.c (.d (.b (ok2)))]),oR 802 79 5 (aG ks2),oR 803 4 1 (aK ls2),(.o 804,aI 175 4 fG),(.o 805,aI 29 5 cL),(.o 806,aI 29 5 cL)] ⟨tm2,ks2,ls2,a2,b2,c2,ok2,hw2,rfl⟩ (rq [] [] rfl ?_)))
     repeat' apply ai
     all_goals try exact qx
     all_goals(first|with_reducible rfl|(rw[hi,aSd];exact bE (by rw[hw.four];exact hil))|rfl)
   refine sq (rT [2,3,4,6,7,20,28,103,104,105,106] (s2 (cd rfl (fun c28=> ?_) fun c28=> ?_)))
   · refine rD [2,4,7] (s5 (xp (ip (ks.getD i .zero) (by have:=hks.1;omega)) (ai rfl ?_)))
     refine s3 (ai (by rw[hi];exact⟨by rw[bC];exact hw.four,by omega,by omega⟩) (ai (by rw[hi,aSd,bW (by rw[hw.four];exact hil)];exact⟨by rw[bC];exact hw.four,hil,rfl,aSf rfl⟩) (s1 (ai (by kernel_rfl) ?_))))
     first
     |(refine wq [] [] (⟨(ks.set i (eD (ks.getD i .zero)).1),(eD (ks.getD i .zero)).2,(hw.set (xU hks) i),rfl⟩) ?_
       repeat' apply ai
       all_goals try exact qx
       all_goals(first|with_reducible rfl|(rw[hi,aSd];exact bE (by rw[hw.four];exact hil))|rfl))
     |(refine wq [] [] (⟨(ks.set i (dX (ks.getD i .zero)).1),(dX (ks.getD i .zero)).2,(hw.set (xV hks) i),rfl⟩) ?_
       repeat' apply ai
       all_goals try exact qx
       all_goals(first|with_reducible rfl|(rw[hi,aSd];exact bE (by rw[hw.four];exact hil))|rfl))
     |(refine wq [] [] (⟨(ks.set i (eF (ks.getD i .zero)).1),(eF (ks.getD i .zero)).2,(hw.set (uV hks) i),rfl⟩) ?_
       repeat' apply ai
       all_goals try exact qx
       all_goals(first|with_reducible rfl|(rw[hi,aSd];exact bE (by rw[hw.four];exact hil))|rfl))
     |(refine wq [] [] (⟨ks,false,hw,rfl⟩) ?_
       repeat' apply ai
       all_goals try exact qx
       all_goals(first|with_reducible rfl|(rw[hi,aSd];exact bE (by rw[hw.four];exact hil))|rfl))
   refine sq (rT [2,3,4,6,7,20,40,103,104,105,106] (s2 (cd rfl (fun c40=> ?_) fun c40=> ?_)))
   · refine sq (rT [2,4,8,9] (s7 (xp (ld (ks.getD i .zero) e.frm e.num e.mix (by have:=hks.1;omega)) (ai rfl ?_))))
     refine s6 (sq (sq (rT [2,4,8,9,53] (s1 (cd rfl (fun c53=> ?_) fun c53=> ?_)))))
     · refine rE [2,4,9] (s4 (wW 57 57 rfl rfl rfl (by rfl) (gQ (bH (robj:=[(804,aI 175 4 fG)]) (rl:=[]) (bor:=[]) (ap a [(eA (ks.getD i .zero) e.frm e.num e.mix).1] hw.ra (by simp) (fun f hf=>by rw[aSs.1 hf];exact aQh c53)) rfl rfl rfl rfl ⟨aKi rfl rfl rfl rfl (cK rfl rfl (aV rfl rfl trivial)),rfl⟩ rfl (.inl rfl) (aJ ⟨rfl,trivial⟩) (fun j hj=>nomatch hj) (s2 (sq (rT [4,5] (s4 (rt ?_)))))))))
       first
       |(refine cS [tV 0 (.tup [.agg [.d (.i (tm)),.own 802 4,.own 803 3,ps 804 4 ((ck a 1)),ps 805 5 (b),ps 806 5 (c)],.c (.d (.b ((eA (ks.getD i .zero) e.frm e.num e.mix).2)))]),oR 802 79 5 (aG ks),oR 803 4 1 (aK ls),(.o 804,aI 175 4 fG),(.o 805,aI 29 5 cL),(.o 806,aI 29 5 cL)] ⟨tm,ks,ls,(ck a 1),b,c,(eA (ks.getD i .zero) e.frm e.num e.mix).2,(hw.to (sg hw.ra) hw.rb hw.rc),rfl⟩ (rq [] [] rfl ?_)
         repeat' apply ai
         all_goals try exact qx
         all_goals(first|with_reducible rfl|(rw[hi,aSd];exact bE (by rw[hw.four];exact hil))|rfl))
       |(refine cS [tV 0 (.tup [.agg [.d (.i (tm)),.own 802 4,.own 803 3,ps 804 4 (a),ps 805 5 (b),ps 806 5 (c)],.c (.d (.b ((eA (ks.getD i .zero) e.frm e.num e.mix).2)))]),oR 802 79 5 (aG ks),oR 803 4 1 (aK ls),(.o 804,aI 175 4 fG),(.o 805,aI 29 5 cL),(.o 806,aI 29 5 cL)] ⟨tm,ks,ls,a,b,c,(eA (ks.getD i .zero) e.frm e.num e.mix).2,hw,rfl⟩ (rq [] [] rfl ?_)
         repeat' apply ai
         all_goals try exact qx
         all_goals(first|with_reducible rfl|(rw[hi,aSd];exact bE (by rw[hw.four];exact hil))|rfl))
     refine sk (sq (rT [4,5] (s4 (rt ?_))))
     first
     |(refine cS [tV 0 (.tup [.agg [.d (.i (tm)),.own 802 4,.own 803 3,ps 804 4 ((ck a 1)),ps 805 5 (b),ps 806 5 (c)],.c (.d (.b ((eA (ks.getD i .zero) e.frm e.num e.mix).2)))]),oR 802 79 5 (aG ks),oR 803 4 1 (aK ls),(.o 804,aI 175 4 fG),(.o 805,aI 29 5 cL),(.o 806,aI 29 5 cL)] ⟨tm,ks,ls,(ck a 1),b,c,(eA (ks.getD i .zero) e.frm e.num e.mix).2,(hw.to (sg hw.ra) hw.rb hw.rc),rfl⟩ (rq [] [] rfl ?_)
       repeat' apply ai
       all_goals try exact qx
       all_goals(first|with_reducible rfl|(rw[hi,aSd];exact bE (by rw[hw.four];exact hil))|rfl))
     |(refine cS [tV 0 (.tup [.agg [.d (.i (tm)),.own 802 4,.own 803 3,ps 804 4 (a),ps 805 5 (b),ps 806 5 (c)],.c (.d (.b ((eA (ks.getD i .zero) e.frm e.num e.mix).2)))]),oR 802 79 5 (aG ks),oR 803 4 1 (aK ls),(.o 804,aI 175 4 fG),(.o 805,aI 29 5 cL),(.o 806,aI 29 5 cL)] ⟨tm,ks,ls,a,b,c,(eA (ks.getD i .zero) e.frm e.num e.mix).2,hw,rfl⟩ (rq [] [] rfl ?_)
       repeat' apply ai
       all_goals try exact qx
       all_goals(first|with_reducible rfl|(rw[hi,aSd];exact bE (by rw[hw.four];exact hil))|rfl))
   refine sq (rT [2,3,4,6,7,20,62,103,104,105,106] (s2 (cd rfl (fun c62=> ?_) fun c62=> ?_)))
   · refine sq (rD [2,4,6] (s7 (xp (iv (ks.getD i .zero) e.keep (by have:=hks.1;omega)) (ai rfl ?_))))
     refine ai (by rw[hi];exact⟨by rw[bC];exact hw.four,by omega,by omega⟩) (ai (by rw[hi,aSd,bW (by rw[hw.four];exact hil)];exact⟨by rw[bC];exact hw.four,hil,rfl,aSf rfl⟩) (ai (by kernel_rfl) (sq (rD [4,5] (s5 (ai (by kernel_rfl) (rt (cS [tV 0 (.tup [.agg [.d (.i (tm)),.own 802 4,.own 803 3,ps 804 4 (a),ps 805 5 (b),ps 806 5 (c)],.c (.d (.b ((ks.getD i .zero).up)))]),oR 802 79 5 (aG (ks.set i (mO (ks.getD i .zero) e.keep))),oR 803 4 1 (aK ls),(.o 804,aI 175 4 fG),(.o 805,aI 29 5 cL),(.o 806,aI 29 5 cL)] ⟨tm,(ks.set i (mO (ks.getD i .zero) e.keep)),ls,a,b,c,(ks.getD i .zero).up,(hw.set (aF1 hks) i),rfl⟩ (rq [] [] rfl ?_)))))))))
     repeat' apply ai
     all_goals try exact qx
     all_goals(first|with_reducible rfl|(rw[hi,aSd];exact bE (k:=(mO (ks.getD i .zero) e.keep)) (by rw[hw.four];exact hil))|rfl)
   refine sq (rT [2,3,4,6,7,20,76,103,104,105,106] (s2 (cd rfl (fun c76=> ?_) fun c76=> ?_)))
   · refine sq (rD [2,4,6] (s5 (xp (iw (ks.getD i .zero) (by have:=hks.1;omega)) (ai rfl ?_))))
     refine ai (by rw[hi];exact⟨by rw[bC];exact hw.four,by omega,by omega⟩) (ai (by rw[hi,aSd,bW (by rw[hw.four];exact hil)];exact⟨by rw[bC];exact hw.four,hil,rfl,aSf rfl⟩) (ai (by kernel_rfl) (sq (rD [4,5] (s6 (ai (by kernel_rfl) (rt (cS [tV 0 (.tup [.agg [.d (.i (tm)),.own 802 4,.own 803 3,ps 804 4 (a),ps 805 5 (b),ps 806 5 (c)],.c (.d (.b ((!(ks.getD i .zero).up))))]),oR 802 79 5 (aG (ks.set i (jK (ks.getD i .zero)))),oR 803 4 1 (aK ls),(.o 804,aI 175 4 fG),(.o 805,aI 29 5 cL),(.o 806,aI 29 5 cL)] ⟨tm,(ks.set i (jK (ks.getD i .zero))),ls,a,b,c,(!(ks.getD i .zero).up),(hw.set (aF2 hks) i),rfl⟩ (rq [] [] rfl ?_)))))))))
     repeat' apply ai
     all_goals try exact qx
     all_goals(first|with_reducible rfl|(rw[hi,aSd];exact bE (k:=(jK (ks.getD i .zero))) (by rw[hw.four];exact hil))|rfl)
   refine sq (rT [2,3,4,6,7,20,89,103,104,105,106] (s2 (cd rfl (fun c89=> ?_) fun c89=> ?_)))
   · refine sq (rT [2,3,4,10,11,12,103,104,105,106] (s5 (xp (lg (ks.getD i .zero) e.frm e.num (by have:=hks.1;omega)) (ai rfl ?_))))
     refine s9 (sq (sq (wa [tP 2 2,tP 3 3,tP 4 4,tP 10 10,tP 11 11,tB 12 ((cH (ks.getD i .zero) e.frm e.num).2.2),oB 2 84 [.d (.i (tm)),.own 802 4,.own 803 3,ps 804 4 (a),ps 805 5 (b),ps 806 5 (c)],oB 3 140 [.d (.i e.kind),.d (.i e.at_),.d (.i e.frm),.d (.i e.num),.d (.i e.word),.d (.i e.mix),.d (.i e.keep),.d (.i e.dst),.d (.i e.til),.d (.s e.text)],oB 4 84 [.d (.i 0),.nil,.nil,.nil,.nil,.nil],oB 10 79 [.d (.i (((cH (ks.getD i .zero) e.frm e.num).1)).id),.d (.b (((cH (ks.getD i .zero) e.frm e.num).1)).up),.d (.s (((cH (ks.getD i .zero) e.frm e.num).1)).log),.d (.i (((cH (ks.getD i .zero) e.frm e.num).1)).forced),.d (.sl (bM (((cH (ks.getD i .zero) e.frm e.num).1)).halves))],oB 11 29 [.d (.i (cH (ks.getD i .zero) e.frm e.num).2.1.frm),.d (.i (cH (ks.getD i .zero) e.frm e.num).2.1.num),.d (.i (cH (ks.getD i .zero) e.frm e.num).2.1.to),.d (.i (cH (ks.getD i .zero) e.frm e.num).2.1.til),.d (.s (cH (ks.getD i .zero) e.frm e.num).2.1.text)],oR 802 79 5 (aG ks),oR 803 4 1 (aK ls),(.o 804,aI 175 4 fG),(.o 805,aI 29 5 cL),(.o 806,aI 29 5 cL)] [] [] qz (rT [2,3,4,10,11,107] (s2 (y2 (aAm dQ rfl rfl rfl rfl rfl rk ?_)))))))
     refine y1 (ai pk (cd rfl (fun c107=> ?_) fun c107=> ?_))
     · have hc6:c<6:=by simp at c107;omega
       refine sq (rT [2,4,11] (s5 (ai (by rw[hi];exact⟨by rw[bC];exact hw.four,by omega,by omega⟩) (ai (by rw[hi,aSd,bW (by rw[hw.four];exact hil)];exact⟨by rw[bC];exact hw.four,hil,rfl,aSf rfl⟩) (sq (wa [tP 2 2,tP 4 4,tP 11 11,oB 2 84 [.d (.i (tm)),.own 802 4,.own 803 3,ps 804 4 (a),ps 805 5 (b),ps 806 5 (c)],oB 3 140 [.d (.i e.kind),.d (.i e.at_),.d (.i e.frm),.d (.i e.num),.d (.i e.word),.d (.i e.mix),.d (.i e.keep),.d (.i e.dst),.d (.i e.til),.d (.s e.text)],oB 4 84 [.d (.i 0),.nil,.nil,.nil,.nil,.nil],oB 11 29 [.d (.i (cH (ks.getD i .zero) e.frm e.num).2.1.frm),.d (.i (cH (ks.getD i .zero) e.frm e.num).2.1.num),.d (.i (cH (ks.getD i .zero) e.frm e.num).2.1.to),.d (.i (cH (ks.getD i .zero) e.frm e.num).2.1.til),.d (.s (cH (ks.getD i .zero) e.frm e.num).2.1.text)],oR 802 79 5 (aG (ks.set i (cH (ks.getD i .zero) e.frm e.num).1)),oR 803 4 1 (aK ls),(.o 804,aI 175 4 fG),(.o 805,aI 29 5 cL),(.o 806,aI 29 5 cL)] [] [] ?_ ?_))))))
       · repeat' apply ai
         all_goals first|exact qx|(rw[hi,aSd];exact bE (k:=(cH (ks.getD i .zero) e.frm e.num).1) (by rw[hw.four];exact hil))|rfl|exact qz
       refine rT [2,4] (s4 (jq (m:=1) (z:=[.i 0,.i 0,.i 0,.i 0,.s []]) dQ rfl rfl rfl rfl rfl rfl rfl rfl aDa (fg dQ (by decide) rfl rfl rfl (fun r hr=> ?_) rfl) ?_ ?_))
       · rw[aSs.1 hr]
         exact⟨rfl,⟨_,_,_,_,_⟩,rfl,by exact aLl hks⟩
       · have:=hw.rc;show(_+1)*48≤_;omega
       refine s2 (sq (rT [4,5] (s3 (rt (cS [tV 0 (.tup [.agg [.d (.i (tm)),.own 802 4,.own 803 3,ps 804 4 (a),ps 805 5 (b),ps 806 5 ((c+1))],.c (.d (.b (true)))]),oR 802 79 5 (aG (ks.set i (cH (ks.getD i .zero) e.frm e.num).1)),oR 803 4 1 (aK ls),(.o 804,aI 175 4 fG),(.o 805,aI 29 5 cL),(.o 806,aI 29 5 cL)] ⟨tm,(ks.set i (cH (ks.getD i .zero) e.frm e.num).1),ls,a,b,(c+1),true,((hw.set (aI4 hks) i).to hw.ra hw.rb (by omega)),rfl⟩ (rq [] [] rfl ?_))))))
       repeat' apply ai
       all_goals try exact qx
       all_goals(first|with_reducible rfl|(rw[hi,aSd];exact bE (by rw[hw.four];exact hil))|rfl)
     refine sk (sq (rT [4,5] (s3 (rt (cS [tV 0 (.tup [.agg [.d (.i (tm)),.own 802 4,.own 803 3,ps 804 4 (a),ps 805 5 (b),ps 806 5 (c)],.c (.d (.b (false)))]),oR 802 79 5 (aG ks),oR 803 4 1 (aK ls),(.o 804,aI 175 4 fG),(.o 805,aI 29 5 cL),(.o 806,aI 29 5 cL)] ⟨tm,ks,ls,a,b,c,false,hw,rfl⟩ (rq [] [] rfl ?_))))))
     repeat' apply ai
     all_goals try exact qx
     all_goals(first|with_reducible rfl|(rw[hi,aSd];exact bE (by rw[hw.four];exact hil))|rfl)
   refine sq (rT [2,3,4,6,7,20,122] (s2 (cd rfl (fun c122=> ?_) fun c122=> ?_)))
   · refine rD [2,4,7] (s5 (xp (iq (ks.getD i .zero) (by have:=hks.1;omega)) (ai rfl ?_)))
     refine s3 (ai (by rw[hi];exact⟨by rw[bC];exact hw.four,by omega,by omega⟩) (ai (by rw[hi,aSd,bW (by rw[hw.four];exact hil)];exact⟨by rw[bC];exact hw.four,hil,rfl,aSf rfl⟩) (s1 (ai (by kernel_rfl) ?_))))
     first
     |(refine wq [] [] (⟨(ks.set i (eD (ks.getD i .zero)).1),(eD (ks.getD i .zero)).2,(hw.set (xU hks) i),rfl⟩) ?_
       repeat' apply ai
       all_goals try exact qx
       all_goals(first|with_reducible rfl|(rw[hi,aSd];exact bE (by rw[hw.four];exact hil))|rfl))
     |(refine wq [] [] (⟨(ks.set i (dX (ks.getD i .zero)).1),(dX (ks.getD i .zero)).2,(hw.set (xV hks) i),rfl⟩) ?_
       repeat' apply ai
       all_goals try exact qx
       all_goals(first|with_reducible rfl|(rw[hi,aSd];exact bE (by rw[hw.four];exact hil))|rfl))
     |(refine wq [] [] (⟨(ks.set i (eF (ks.getD i .zero)).1),(eF (ks.getD i .zero)).2,(hw.set (uV hks) i),rfl⟩) ?_
       repeat' apply ai
       all_goals try exact qx
       all_goals(first|with_reducible rfl|(rw[hi,aSd];exact bE (by rw[hw.four];exact hil))|rfl))
     |(refine wq [] [] (⟨ks,false,hw,rfl⟩) ?_
       repeat' apply ai
       all_goals try exact qx
       all_goals(first|with_reducible rfl|(rw[hi,aSd];exact bE (by rw[hw.four];exact hil))|rfl))
   refine sq (rT [2,3,4,6,7,134] (s2 (cd rfl (fun c134=> ?_) fun c134=> ?_)))
   · refine rD [2,4,7] (s5 (xp (eg (ks.getD i .zero) (by have:=hks.1;omega)) (ai rfl ?_)))
     refine s3 (ai (by rw[hi];exact⟨by rw[bC];exact hw.four,by omega,by omega⟩) (ai (by rw[hi,aSd,bW (by rw[hw.four];exact hil)];exact⟨by rw[bC];exact hw.four,hil,rfl,aSf rfl⟩) (s1 (ai (by kernel_rfl) ?_))))
     first
     |(refine wq [] [] (⟨(ks.set i (eD (ks.getD i .zero)).1),(eD (ks.getD i .zero)).2,(hw.set (xU hks) i),rfl⟩) ?_
       repeat' apply ai
       all_goals try exact qx
       all_goals(first|with_reducible rfl|(rw[hi,aSd];exact bE (by rw[hw.four];exact hil))|rfl))
     |(refine wq [] [] (⟨(ks.set i (dX (ks.getD i .zero)).1),(dX (ks.getD i .zero)).2,(hw.set (xV hks) i),rfl⟩) ?_
       repeat' apply ai
       all_goals try exact qx
       all_goals(first|with_reducible rfl|(rw[hi,aSd];exact bE (by rw[hw.four];exact hil))|rfl))
     |(refine wq [] [] (⟨(ks.set i (eF (ks.getD i .zero)).1),(eF (ks.getD i .zero)).2,(hw.set (uV hks) i),rfl⟩) ?_
       repeat' apply ai
       all_goals try exact qx
       all_goals(first|with_reducible rfl|(rw[hi,aSd];exact bE (by rw[hw.four];exact hil))|rfl))
     |(refine wq [] [] (⟨ks,false,hw,rfl⟩) ?_
       repeat' apply ai
       all_goals try exact qx
       all_goals(first|with_reducible rfl|(rw[hi,aSd];exact bE (by rw[hw.four];exact hil))|rfl))
   refine sk ?_
   first
   |(refine wq [] [] (⟨(ks.set i (eD (ks.getD i .zero)).1),(eD (ks.getD i .zero)).2,(hw.set (xU hks) i),rfl⟩) ?_
     repeat' apply ai
     all_goals try exact qx
     all_goals(first|with_reducible rfl|(rw[hi,aSd];exact bE (by rw[hw.four];exact hil))|rfl))
   |(refine wq [] [] (⟨(ks.set i (dX (ks.getD i .zero)).1),(dX (ks.getD i .zero)).2,(hw.set (xV hks) i),rfl⟩) ?_
     repeat' apply ai
     all_goals try exact qx
     all_goals(first|with_reducible rfl|(rw[hi,aSd];exact bE (by rw[hw.four];exact hil))|rfl))
   |(refine wq [] [] (⟨(ks.set i (eF (ks.getD i .zero)).1),(eF (ks.getD i .zero)).2,(hw.set (uV hks) i),rfl⟩) ?_
     repeat' apply ai
     all_goals try exact qx
     all_goals(first|with_reducible rfl|(rw[hi,aSd];exact bE (by rw[hw.four];exact hil))|rfl))
   |(refine wq [] [] (⟨ks,false,hw,rfl⟩) ?_
     repeat' apply ai
     all_goals try exact qx
     all_goals(first|with_reducible rfl|(rw[hi,aSd];exact bE (by rw[hw.four];exact hil))|rfl))
 rintro s ⟨ks2,ok2,hw2,rfl⟩
 refine sq (rT [4,5] (s4 (rt (cS [tV 0 (.tup [.agg [.d (.i (tm)),.own 802 4,.own 803 3,ps 804 4 (a),ps 805 5 (b),ps 806 5 (c)],.c (.d (.b (ok2)))]),oR 802 79 5 (aG ks2),oR 803 4 1 (aK ls),(.o 804,aI 175 4 fG),(.o 805,aI 29 5 cL),(.o 806,aI 29 5 cL)] ⟨tm,ks2,ls,a,b,c,ok2,hw2,rfl⟩ (rq [] [] rfl ?_)))))
 repeat' apply ai
 all_goals try exact qx
 all_goals(first|with_reducible rfl|(rw[hi,aSd];exact bE (by rw[hw.four];exact hil))|rfl)
set_option maxHeartbeats 6400000 in
theorem nk (tm:Int) (ks:List aO) (ls:List Bool) (a b c:Nat) (e:EvR) (hw:tl ks ls a b c) (htx:e.text.length≤1000):tn 147 2 [tV 0 (.e (.agg [.d (.i (tm)),.own 802 4,.own 803 3,ps 804 4 (a),ps 805 5 (b),ps 806 5 (c)])),(.t 1,.v e.V),oR 802 79 5 (aG ks),oR 803 4 1 (aK ls),(.o 804,aI 175 4 fG),(.o 805,aI 29 5 cL),(.o 806,aI 29 5 cL)] (fun s=> ∃(tm:Int) (ks:List aO) (ls:List Bool) (a b c:Nat) (ok:Bool),tl ks ls a b c∧s=[tV 0 (.tup [.agg [.d (.i (tm)),.own 802 4,.own 803 3,ps 804 4 (a),ps 805 5 (b),ps 806 5 (c)],.c (.d (.b (ok)))]),oR 802 79 5 (aG ks),oR 803 4 1 (aK ls),(.o 804,aI 175 4 fG),(.o 805,aI 29 5 cL),(.o 806,aI 29 5 cL)]):=by
 refine uo Tryz.func147 rfl (sq (rT [2,3,4,33,34,35,36,37,38,39,40,43,44,45,46,84,85,86,87,88,89,90,91,92,93,100,101,102,133,134,135,136,137,140,141,142,143,144] (s4 (sq (sq (rT [2,3,4,19,33,34,35,36,37,38,39,40,43,44,45,46,84,85,86,87,88,89,90,91,92,93,100,101,102,133,134,135,136,137,140,141,142,143,144] (s4 (dg dQ rfl rfl rfl rfl rfl (s1 (xp (dC _ _ _) (ai rfl ?_)))))))))))
 refine s1 (cd rfl (fun c19=> ?_) fun c19=> ?_)
 · refine sq (rT [4,5] (s3 (rt (cS [tV 0 (.tup [.agg [.d (.i (tm)),.own 802 4,.own 803 3,ps 804 4 (a),ps 805 5 (b),ps 806 5 (c)],.c (.d (.b (false)))]),oR 802 79 5 (aG ks),oR 803 4 1 (aK ls),(.o 804,aI 175 4 fG),(.o 805,aI 29 5 cL),(.o 806,aI 29 5 cL)] ⟨tm,ks,ls,a,b,c,false,hw,rfl⟩ (rq [] [] rfl ?_)))))
   repeat' apply ai
   all_goals try exact qx
   all_goals(first|with_reducible rfl|(rw[hi,aSd];exact bE (by rw[hw.four];exact hil))|rfl)
 have hwd0:0≤e.word∧e.word≤(a:Int) - 1:=by rw[aF (by have:=hw.ra;omega)] at c19;simp[gX] at c19;omega
 refine sk (sq ?_)
 obtain⟨wi,hwi,hwl⟩: ∃wi:Nat,e.word=(wi:Int)∧wi<a:=⟨e.word.toNat,by omega,by omega⟩
 have hwd:0≤e.word∧e.word< (a:Int):=by omega
 refine rE [2,3,4,6,33,34,35,36,37,38,39,40,43,44,45,46,84,85,86,87,88,89,90,91,92,93,100,101,102,133,134,135,136,137,140,141,142,143,144] (s4 (gQ (aEm dQ rfl rfl rfl rfl rfl rfl rfl rfl hwd (aKf dQ rfl rfl rfl rfl rfl rfl (aSf rfl) ?_))))
 rintro _ _ ⟨p,rfl,hpp⟩
 refine s2 (sq (sq (rT [2,3,4,6,29,33,34,35,36,37,38,39,40,43,44,45,46,84,85,86,87,88,89,90,91,92,93,100,101,102,133,134,135,136,137,140,141,142,143,144] (s3 (cd rfl (fun c29=> ?_) fun c29=> ?_)))))
 · refine sq (sq (rT [2,3,4,6,47] (s3 (y4 (y2 (xc (fun h=>(dC _ _ _)) (ai rfl (ai rk ?_))))))))
   refine y1 (ai pk (s1 (y2 (xc (fun h=>(dC _ _ _)) (ai rfl (ai rk ?_))))))
   refine y1 (ai pk (cd rfl (fun c47=> ?_) fun c47=> ?_))
   · refine sq (rT [4,5] (s3 (rt (cS [tV 0 (.tup [.agg [.d (.i (tm)),.own 802 4,.own 803 3,ps 804 4 (a),ps 805 5 (b),ps 806 5 (c)],.c (.d (.b (false)))]),oR 802 79 5 (aG ks),oR 803 4 1 (aK ls),(.o 804,aI 175 4 fG),(.o 805,aI 29 5 cL),(.o 806,aI 29 5 cL)] ⟨tm,ks,ls,a,b,c,false,hw,rfl⟩ (rq [] [] rfl ?_)))))
     repeat' apply ai
     all_goals try exact qx
     all_goals(first|with_reducible rfl|(rw[hi,aSd];exact bE (by rw[hw.four];exact hil))|rfl)
   have hpl:=hpp.2
   have hmx:0≤e.mix∧e.mix≤(p.data.length:Int) - 1:=by rw[aF (by omega)] at c47;simp[gb,gX] at c47;omega
   refine sk (sq (rT [2,3,4,7] (s2 (ai (by omega) (s1 (sq ?_))))))
   obtain⟨i,hi,hil⟩: ∃i:Nat,e.mix=(i:Int)∧i<p.data.length:=⟨e.mix.toNat,by omega,by omega⟩
   have hgb:=iF (l:=p.data) (i:=i) hil
   refine rD [2,3,4,7] (s6 (ai (aR5 (by omega) (by omega) rfl) (ai (by rw[hi,aSd,hgb,aT];exact⟨⟨rfl,hil⟩,aSo _,rfl⟩) (s4 (ai (aR5 (by omega) (by omega) rfl) (ai (by rw[hi,aSd,hgb,aT];exact⟨rfl,hil,rfl,aSo _⟩) (ai (by kernel_rfl) (sq (wa [tP 2 2,tP 3 3,tP 4 4,tO 7 51 p.data.length,oB 2 84 [.d (.i (tm)),.own 802 4,.own 803 3,ps 804 4 (a),ps 805 5 (b),ps 806 5 (c)],oB 3 140 [.d (.i e.kind),.d (.i e.at_),.d (.i e.frm),.d (.i e.num),.d (.i e.word),.d (.i e.mix),.d (.i e.keep),.d (.i e.dst),.d (.i e.til),.d (.s e.text)],oB 4 84 [.d (.i 0),.nil,.nil,.nil,.nil,.nil],oR 802 79 5 (aG ks),oR 803 4 1 (aK ls),(.o 804,aI 175 4 fG),(.o 805,aI 29 5 cL),(.o 806,aI 29 5 cL),oR 51 5 1 (aC ((p.data.set i (u8 (jb ((p.data.getD i 0).toNat:Int) (hF e.keep))))))] [] [] ?_ ?_)))))))))
   · repeat' apply ai
     all_goals first|exact qx|(rw[List.length_set];done)|(simp[aT];done)|(rw[hi,aSd,hgb];refine Eq.trans ?_ (aKs hil (dj _ _));rw[hgb];rfl)|exact qz
   refine rT [2,3,4] (s5 (ai (by exact⟨by first|exact aT _|(simp[aT];done),by rw[cC]⟩) (aEm dQ rfl rfl rfl rfl rfl rfl rfl rfl hwd (aKd dQ rfl rfl rfl rfl rfl (aBl dQ rfl rfl rfl rfl rfl rfl rfl rfl rfl (aSf rfl) ?_ ?_)))))
   · rintro r hr ⟨q,rfl,hq⟩
     exact⟨⟨q.frm,q.to,(p.data.set i (u8 (jb ((p.data.getD i 0).toNat:Int) (hF e.keep)))),q.done⟩,congrArg (fun z=>[D.i q.frm,D.i q.to,D.s z,D.b q.done]) (cC _),hq.1,by show((p.data.set i (u8 (jb ((p.data.getD i 0).toNat:Int) (hF e.keep))))).length≤1000;rw[List.length_set];exact hpp.2⟩
   refine sq (rT [2,4] (s4 (aEm dQ rfl rfl rfl rfl rfl rfl rfl rfl hwd (aKd dQ rfl rfl rfl rfl rfl (aBl dQ rfl rfl rfl rfl rfl rfl rfl rfl rfl (aSf rfl) ?_ ?_)))))
   · rintro r hr ⟨q,rfl,hq⟩
     exact⟨⟨q.frm,q.to,q.data,true⟩,rfl,hq⟩
   refine sq (rT [4,5] (s3 (rt (cS [tV 0 (.tup [.agg [.d (.i (tm)),.own 802 4,.own 803 3,ps 804 4 (a),ps 805 5 (b),ps 806 5 (c)],.c (.d (.b (true)))]),oR 802 79 5 (aG ks),oR 803 4 1 (aK ls),(.o 804,aI 175 4 fG),(.o 805,aI 29 5 cL),(.o 806,aI 29 5 cL)] ⟨tm,ks,ls,a,b,c,true,hw,rfl⟩ (rq [] [] rfl ?_)))))
   repeat' apply ai
   all_goals try exact qx
   all_goals(first|with_reducible rfl|(rw[hi,aSd];exact bE (by rw[hw.four];exact hil))|rfl)
 refine sk (sq (sq ?_))
 obtain⟨q,hq,hql⟩: ∃q:Nat,zY p.frm p.to=(q:Int)∧q<3:=by have h9:=aAj hpp.1;exact⟨(zY p.frm p.to).toNat,by omega,by omega⟩
 refine rD [2,3,4,6,94,100,101,102,133,134,135,136,137,140,141,142,143,144] (s4 (y4 (y2 (xc (fun h=>(tf p.frm p.to)) (ai rfl (ai rk ?_))))))
 refine ai (fun h=>(by rw[hq];exact⟨by rw[cO];exact hw.three,by omega,by omega⟩)) (ai rk (ai (fun h=>(by rw[hq,aSd,kH (by rw[hw.three];exact hql)];exact⟨⟨by rw[cO];exact hw.three,hql⟩,aSf rfl,rfl⟩)) (ai rk (y1 (ai pk (ai (by kernel_rfl) (cd rfl (fun c94=> ?_) fun c94=> ?_)))))))
 · refine sq (rT [4,5] (s3 (rt (cS [tV 0 (.tup [.agg [.d (.i (tm)),.own 802 4,.own 803 3,ps 804 4 (a),ps 805 5 (b),ps 806 5 (c)],.c (.d (.b (false)))]),oR 802 79 5 (aG ks),oR 803 4 1 (aK ls),(.o 804,aI 175 4 fG),(.o 805,aI 29 5 cL),(.o 806,aI 29 5 cL)] ⟨tm,ks,ls,a,b,c,false,hw,rfl⟩ (rq [] [] rfl ?_)))))
   repeat' apply ai
   all_goals try exact qx
   all_goals(first|with_reducible rfl|(rw[hi,aSd];exact bE (by rw[hw.four];exact hil))|rfl)
 refine sk (SW.midL (fun a2:Nat=>tl ks ls a2 b c) (fun a2=>[tP 2 2,tP 3 3,tP 4 4,tP 6 6,oB 2 84 [.d (.i (tm)),.own 802 4,.own 803 3,ps 804 4 (a2),ps 805 5 (b),ps 806 5 (c)],oB 3 140 [.d (.i e.kind),.d (.i e.at_),.d (.i e.frm),.d (.i e.num),.d (.i e.word),.d (.i e.mix),.d (.i e.keep),.d (.i e.dst),.d (.i e.til),.d (.s e.text)],oB 4 84 [.d (.i 0),.nil,.nil,.nil,.nil,.nil],oB 6 175 [.d (.i p.frm),.d (.i p.to),.d (.s p.data),.d (.b p.done)],oR 802 79 5 (aG ks),oR 803 4 1 (aK ls),(.o 804,aI 175 4 fG),(.o 805,aI 29 5 cL),(.o 806,aI 29 5 cL)]) ?_ ?_)
 · refine sq (rT [2,3,4,6,103,133,134,135,136,137,140,141,142,143,144] (s4 (y3 (ai pk (cd rfl (fun c103=> ?_) fun c103=> ?_)))))
   · refine SW.newPool 88 175 4 fG rfl (rX [2,3,4,6] (aM0 (j:=88) dQ rfl rfl rfl rfl rfl rfl (sx dQ rfl vc (sx dQ rfl vc (sx dQ rfl vc (sx dQ rfl vc (aBm (m:=wi) dQ rfl rfl rfl rfl rfl rfl rfl rfl rfl (by rw[hwi];refine⟨?_,?_⟩<;>first|trivial|(simp[bnd,fE,gF]<;>omega)) (by rw[hwi];simp[fE,gF]) ?_)))))))
     refine jq (m:=wi) (z:=[.i 0,.i 0,.s [],.b false]) dQ rfl rfl rfl rfl rfl rfl rfl rfl se (aBo dQ (by decide) rfl rfl rfl) (by show(0+wi)*40≤_;have:=hw.ra;omega) (sx dQ rfl vc (sx dQ rfl vc (sx dQ rfl vc (sx dQ rfl vc (sx dQ rfl vc (aBm (m:=a - (wi+1)) dQ rfl rfl rfl rfl rfl rfl rfl rfl rfl (by rw[hwi,aF (by have:=hw.ra;omega)];simp[bnd,fE,gF]<;>omega) (by rw[hwi,aF (by have:=hw.ra;omega)];simp[fE,gF]<;>omega) (jq (m:=a - (wi+1)) (z:=[.i 0,.i 0,.s [],.b false]) dQ rfl rfl rfl rfl rfl rfl rfl rfl se (aBo dQ (by decide) rfl rfl rfl) (by show(0+wi+(a - (wi+1)))*40≤_;have:=hw.ra;omega) (sx dQ rfl vc (sx dQ rfl vc (⟨by kernel_rfl,?_⟩))))))))))
     first
     |(refine⟨(0+wi+(a - (wi+1))),(hw.to (by have:=hw.ra;omega) hw.rb hw.rc),?_⟩
       refine aDb 804 88 rfl rfl (by decide) (by rfl) (ij (wq [] [] rfl ?_))
       repeat' apply ai
       all_goals try exact qx
       all_goals(first|with_reducible rfl|omega))
     |(refine⟨a,hw,?_⟩
       refine ij (wq [] [] rfl ?_)
       repeat' apply ai
       all_goals try exact qx
       all_goals(first|with_reducible rfl|omega))
   refine sk ?_
   first
   |(refine⟨(0+wi+(a - (wi+1))),(hw.to (by have:=hw.ra;omega) hw.rb hw.rc),?_⟩
     refine aDb 804 88 rfl rfl (by decide) (by rfl) (ij (wq [] [] rfl ?_))
     repeat' apply ai
     all_goals try exact qx
     all_goals(first|with_reducible rfl|omega))
   |(refine⟨a,hw,?_⟩
     refine ij (wq [] [] rfl ?_)
     repeat' apply ai
     all_goals try exact qx
     all_goals(first|with_reducible rfl|omega))
 rintro a2 hw2
 refine sq (sq (rT [2,4,6,121,133,134,135,136,137,140,141,142,143,144] (s3 (cd rfl (fun c121=> ?_) fun c121=> ?_))))
 · refine sq (rT [4,5] (s3 (rt (cS [tV 0 (.tup [.agg [.d (.i (tm)),.own 802 4,.own 803 3,ps 804 4 (a2),ps 805 5 (b),ps 806 5 (c)],.c (.d (.b (true)))]),oR 802 79 5 (aG ks),oR 803 4 1 (aK ls),(.o 804,aI 175 4 fG),(.o 805,aI 29 5 cL),(.o 806,aI 29 5 cL)] ⟨tm,ks,ls,a2,b,c,true,hw2,rfl⟩ (rq [] [] rfl ?_)))))
   repeat' apply ai
   all_goals try exact qx
   all_goals(first|with_reducible rfl|(rw[hi,aSd];exact bE (by rw[hw.four];exact hil))|rfl)
 refine sk (sq (rT [2,4,6,8,9,133,134,135,136,137,140,141,142,143,144] (s2 (ai (by have:=hpp.2;omega) (bH (robj:=[(126,.row 5 1 (aC (p.data)))]) (rl:=[]) (bor:=[126]) (ef p.data) rfl rfl rfl rfl ⟨fM rfl rfl rfl (by first|exact aT _|(simp[aT,yx];done)) rfl (trivial),rfl⟩ rfl (.inr (aEr rfl)) (aJ ⟨rfl,trivial⟩) (fun _ hj=>nomatch hj) (s6 (sq (sq (rT [2,4,6,8,145] (s3 (y4 (y1 (ai pk (s1 (y4 (y1 (ai pk (cd rfl (fun c145=> ?_) fun c145=> ?_))))))))))))))))))
 · refine sq (rT [4,5] (s3 (rt (cS [tV 0 (.tup [.agg [.d (.i (tm)),.own 802 4,.own 803 3,ps 804 4 (a2),ps 805 5 (b),ps 806 5 (c)],.c (.d (.b (true)))]),oR 802 79 5 (aG ks),oR 803 4 1 (aK ls),(.o 804,aI 175 4 fG),(.o 805,aI 29 5 cL),(.o 806,aI 29 5 cL)] ⟨tm,ks,ls,a2,b,c,true,hw2,rfl⟩ (rq [] [] rfl ?_)))))
   repeat' apply ai
   all_goals try exact qx
   all_goals(first|with_reducible rfl|(rw[hi,aSd];exact bE (by rw[hw.four];exact hil))|rfl)
 refine sk (sq ?_)
 obtain⟨i,hi,hil⟩:=xW hpp.1.2.1
 have hks:=hw2.at hil
 refine rD [2,4,6,10,11] (s4 (ai (by rw[hi];exact⟨by rw[bC];exact hw.four,by omega,by omega⟩) (ai (by rw[hi,aSd,bW (by rw[hw.four];exact hil)];exact⟨⟨by rw[bC];exact hw.four,hil⟩,aSf rfl,rfl⟩) (s1 (xp (iu (ks.getD i .zero) (fX p.data) (by have:=hks.1;omega)) (ai (by rw[hi,aSd,bW (by rw[hw2.four];exact hil)];rfl) ?_))))))
 refine s6 (ai (by kernel_rfl) (sq (rT [2,4,11] (s5 (ai (by rw[hi];exact⟨by rw[bC];exact hw.four,by omega,by omega⟩) (ai (by rw[hi,aSd,bW (by rw[hw.four];exact hil)];exact⟨by rw[bC];exact hw.four,hil,rfl,aSf rfl⟩) (sq (wa [tP 2 2,tP 4 4,tD 11 (.sl (lP (cT (ks.getD i .zero) (fX p.data)).2)),oB 2 84 [.d (.i (tm)),.own 802 4,.own 803 3,ps 804 4 (a2),ps 805 5 (b),ps 806 5 (c)],oB 3 140 [.d (.i e.kind),.d (.i e.at_),.d (.i e.frm),.d (.i e.num),.d (.i e.word),.d (.i e.mix),.d (.i e.keep),.d (.i e.dst),.d (.i e.til),.d (.s e.text)],oB 4 84 [.d (.i 0),.nil,.nil,.nil,.nil,.nil],oR 802 79 5 (aG (ks.set i (cT (ks.getD i .zero) (fX p.data)).1)),oR 803 4 1 (aK ls),(.o 804,aI 175 4 fG),(.o 805,aI 29 5 cL),(.o 806,aI 29 5 cL)] [] [] ?_ ?_))))))))
 · repeat' apply ai
   all_goals first|exact qx|(rw[hi,aSd];exact bE (k:=(cT (ks.getD i .zero) (fX p.data)).1) (by rw[hw.four];exact hil))|rfl|exact qz
 refine rT [2,4] (s3 (bH (robj:=[(804,aI 175 4 fG)]) (rl:=[]) (bor:=[]) (ap a2 (cT (ks.getD i .zero) (fX p.data)).2 hw2.ra (by have:=(aG1 (k:=(ks.getD i .zero)) (f:=fX p.data)).2;omega) aG1.1) rfl rfl rfl rfl ⟨aKi rfl rfl rfl rfl (cK rfl rfl (aV rfl rfl trivial)),rfl⟩ rfl (.inl rfl) (aJ ⟨rfl,trivial⟩) (fun j hj=>nomatch hj) (s2 (sq (rT [4,5] (s3 (rt (cS [tV 0 (.tup [.agg [.d (.i (tm)),.own 802 4,.own 803 3,ps 804 4 ((ck a2 (cT (ks.getD i .zero) (fX p.data)).2.length)),ps 805 5 (b),ps 806 5 (c)],.c (.d (.b (true)))]),oR 802 79 5 (aG (ks.set i (cT (ks.getD i .zero) (fX p.data)).1)),oR 803 4 1 (aK ls),(.o 804,aI 175 4 fG),(.o 805,aI 29 5 cL),(.o 806,aI 29 5 cL)] ⟨tm,(ks.set i (cT (ks.getD i .zero) (fX p.data)).1),ls,(ck a2 (cT (ks.getD i .zero) (fX p.data)).2.length),b,c,true,((hw2.set (aF3 hks) i).to (sg hw2.ra) hw2.rb hw2.rc),rfl⟩ ?_))))))))
 refine rq [] [] rfl ?_
 repeat' apply ai
 all_goals try exact qx
 all_goals(first|with_reducible rfl|(rw[hi,aSd];exact bE (k:=(cT (ks.getD i .zero) (fX p.data)).1) (by rw[hw.four];exact hil))|rfl)
end Go.Proofs.YtcbjphphppaoiaaGreatDoor
