/- Plain functions, and contracts of the functions that the law reaches. -/
import Derived.Test.YtmabaopgkimfmaaGreatDoorB2
set_option maxHeartbeats 12800000
namespace Go.Proofs.YtmabaopgkimfmaaGreatDoor
open Int renaming toNat_natCast→aVr
open Nat renaming le_of_ble_eq_true→aVs,zero_le→aVv,le_refl→aVz
open List renaming length_append→aVt,length_cons→aVw,length_nil→aVx,getD_eq_getElem?_getD→aVy,length_take→aV0,getElem?_eq_getElem→aV1,getElem?_eq_some_iff→aV2,take_length→aV3,length_drop→aV4,mem_map→aV5,mem_cons→aV6,range→aV7,all_eq_true→aV8,length_set→aV9,mem_singleton→aWa,replicate→aWb
open Bool renaming and_eq_true→aVu,or_eq_true→aWc
open Go Go.Ab Go.RowKit
set_option linter.unusedVariables false
set_option linter.unusedSimpArgs false
set_option maxRecDepth 9000
theorem oY (n:Int):Sp 218 1 [tI 0 n] [tI 0 (cK n)]:=by
 refine sb Tryz.func218 rfl (sq (rT [0] (s1 (sq (sq (rT [0,5] (s1 (xp (dM _ _ _) (ai rfl ?_)))))))))
 refine s1 (cd rfl (fun c5=> ?_) fun c5=> ?_)
 · refine sq (rT [2] (s1 (rt (aU rfl (aA D.i ?_)))))
   simp at c5
   simp[cK,c5,Int.mul_comm]
 refine sk (sq (rT [2] (s5 (rt (aU rfl (aA D.i ?_))))))
 simp at c5
 simp[cK,c5,Int.mul_comm]
theorem oZ (n:Int):Sp 215 1 [tI 0 n] [tI 0 (cK n)]:=by
 refine sb Tryz.func215 rfl (sq (rT [0] (s1 (sq (sq (rT [0,5] (s1 (xp (dU _ _ _) (ai rfl ?_)))))))))
 refine s1 (cd rfl (fun c5=> ?_) fun c5=> ?_)
 · refine sq (rT [2] (s1 (rt (aU rfl (aA D.i ?_)))))
   simp at c5
   simp[cK,c5,Int.mul_comm]
 refine sk (sq (rT [2] (s5 (rt (aU rfl (aA D.i ?_))))))
 simp at c5
 simp[cK,c5,Int.mul_comm]
theorem kz (b n:Int):Sp 217 2 [tI 0 b,tI 1 n] [tB 0 (oC b n)]:=by
 refine sb Tryz.func217 rfl (sq (rT [0,1] (s1 (sq (rT [4] (s1 (xp (dM _ _ _) (ai rfl ?_))))))))
 refine s1 (y1 (xc (fun h=>(dM _ _ _)) (ai rfl (ai rk ?_))))
 refine ai pk (s1 (rt (aU rfl ?_)))
 rfl
theorem ay (b d:Int) (hb:1≤b∧b≤6) (hd:1≤d∧d≤6):Sp 251 2 [tI 0 b,tI 1 d] [tI 0 (gN b d)]:=by
 refine sb Tryz.func251 rfl (sq (rT [0,1] (s1 (sq (sq (rT [0,1,6] (s2 (cd rfl (fun c6=> ?_) fun c6=> ?_))))))))
 · have h1:d=1:=by simpa using c6
   refine sq (rT [4] (s1 (ai (by omega) (s2 (rt (aU rfl (aA D.i ?_)))))))
   exact(aC h1).symm
 have h1: ¬d=1:=by simpa using c6
 have h2:wrap64 (d*wrap64 (d - 1))≠0:=kb (by omega)
 refine sk (sq (rT [4] (s4 (ai (h2) (s1 (rt (aU rfl (aA D.i ?_))))))))
 exact(aB h1).symm
theorem nl (b n:Int) (hok:oC b n=true):Sp 219 2 [tI 0 b,tI 1 n] [tI 0 (hZ b n)]:=by
 obtain⟨hb,hn⟩:=rN hok
 refine sb Tryz.func219 rfl (sq (rT [0,1] (s1 (sq (sq (rT [0,1,14] (s2 (xp (kz _ _) (ai rfl ?_)))))))))
 refine s1 (cd rfl (fun c14=> ?_) fun c14=> ?_)
 · rw[hok] at c14
   cases c14
 refine sk (sq (sq (rT [0,1,17] (s3 (cd rfl (fun c17=> ?_) fun c17=> ?_)))))
 · have hs:n<b:=by simpa using c17
   refine sq (rT [4] (s1 (rt (aU rfl (aA D.i ?_)))))
   exact(av hok hs).symm
 have hs: ¬n<b:=by simpa using c17
 refine sk (sq (rT [0,1,5] (s1 (ai (by omega) (s3 (sq (rT [0,1,5,6] (s1 (ai (by exact⟨rfl,by simp,by simp⟩) (ai (by exact⟨⟨rfl,by simp⟩,aVz _,rfl⟩) (s1 (sq (sq (wa [tI 0 b,tI 1 n,tO 5 21 (rG b 1).length,tI 6 (oK b 1),oR 21 3 1 (bW (rG b 1))] [] [] ?_ ?_))))))))))))))
 · repeat' apply ai
   all_goals first|exact qx|(rw[aM5];rfl)|(simp[rG,bW,gN,List.range_succ];done)|exact qz
 refine rT [0,1,5,6,7] (s1 (bk (SW.loopW (n:=5) (fun m s=> ∃i:Nat,m=6 - i∧(1≤i∧(i:Int)≤b)∧s=[tI 0 b,tI 1 n,tO 5 21 (rG b (i)).length,tI 6 (oK b (i)),tI 7 ((i+1:Nat):Int),oR 21 3 1 (bW (rG b (i)))]) ?_ ?_)))
 · refine wq [] [] (⟨1,rfl,by omega,rfl⟩) ?_
   repeat' apply ai
   all_goals first|exact qx|rfl|exact aA D.i (by rw[aF (by omega)];omega)|(simp;done)|omega|exact qz
 rintro n s ⟨i,rfl,hi,rfl⟩
 refine sq (sq (rT [0,1,5,6,7,27] (s3 (cd rfl (fun c27=> ?_) fun c27=> ?_))))
 · have hi2: ((i+1:Nat):Int)≤b:=by simpa using c27
   have hr1:=mX hb (d:=i) (by omega)
   have hw1:=mU (b:=b) (d:=((i+1:Nat):Int)) hb (by omega)
   refine sk (sq (bk (sq (rT [0,1,5,6,7] (s5 (ai (kb (by omega)) (s1 (ai (by refine⟨rfl,bN _,by simp,?_⟩;rw[lI];show(_+1)*8≤_;omega) (s1 (wa [tI 0 b,tI 1 n,tO 5 21 (rG b (i+1)).length,tI 6 (oK b (i)),tI 7 ((i+1:Nat):Int),oR 21 3 1 (bW (rG b (i+1)))] [] [] ?_ ?_))))))))))
   · repeat' apply ai
     all_goals first|exact qx|(simp[bN,lI];done)|(rw[ut,← iM,← ew (by omega)];done)|(rw[ut,← iM,← ew (by omega)];rfl)|exact aA D.i (by rw[aF (by omega)];omega)|(simp;done)|omega|exact qz
   refine rT [0,1,5,6,7] (s3 (ai (aVj (by omega) (by rw[lI];omega) rfl) (ai (by rw[aVr];exact aVk (by rw[lI];omega) rfl) (s2 (rT [0,1,5,6,7] (s3 ?_))))))
   have hat:=aE0 (b:=b) (k:=i+1) (i:=i+1) (by omega) (by omega)
   refine wq [] [] (⟨6 - (i+1),by omega,i+1,rfl,by omega,rfl⟩) ?_
   repeat' apply ai
   all_goals first|exact qx|(rw[aVr,hat];exact aA D.i (aF (by omega)))|exact aA D.i (by rw[aF (by omega)];omega)|(simp;done)|omega|exact qz
 have hi3: ¬((i+1:Nat):Int)≤b:=by simpa using c27
 have hie:i=b.toNat:=by omega
 subst hie
 have hq:=mX hb (d:=b.toNat) (by omega)
 refine xt (sq (rT [0,5,8] (s4 (xp (oY _) (ai rfl ?_)))))
 refine xp (oY _) (ai rfl ?_)
 refine ai (by decide) (s1 (ai (by omega) (s1 (sq (rT [0,5,8,9] (s1 (sq (sq (rT [0,5,8,9,10] (s1 (bk (SW.loopW (n:=7) (fun m s=> ∃j:Nat,m=7 - j∧(j:Int)≤b∧zM b (cc b n) (6 - j) (j+1)=hZ b n∧s=[tI 0 b,tO 5 21 (rG b b.toNat).length,tI 8 (cc b n),tI 9 (oK b (j)),tI 10 ((j+1:Nat):Int),oR 21 3 1 (bW (rG b b.toNat))]) ?_ ?_))))))))))))
 · refine wq [] [] (⟨0,rfl,by omega,(ey hok hs).symm,rfl⟩) ?_
   repeat' apply ai
   all_goals first|exact qx|(rw[Int.mul_comm 31 n];rfl)|rfl|exact aA D.i (by rw[aF (by omega)];omega)|(simp;done)|omega|exact qz
 rintro n s ⟨j,rfl,hj,hdg,rfl⟩
 refine sq (sq (rT [0,5,8,9,10,55] (s3 (cd rfl (fun c55=> ?_) fun c55=> ?_))))
 · have hj2: ((j+1:Nat):Int)≤b:=by simpa using c55
   have hr1:=mX hb (d:=j) (by omega)
   have hw1:=mU (b:=b) (d:=((j+1:Nat):Int)) hb (by omega)
   have hat:=aE0 (b:=b) (k:=b.toNat) (i:=j+1) (by omega) (by omega)
   have hsum:wrap64 (oK b j+xK (((bW (rG b b.toNat)).getD ((j+1:Nat):Int).toNat []).getD 0 (.i 0)))=oK b (j+1):=by
    rw[aVr,hat]
    show _=oK b j+gN b ((j+1:Nat):Int)
    exact aF (by omega)
   refine sk (sq (bk (sq (rT [0,5,8,9,10] (s3 (ai (aVj (by omega) (by rw[lI];omega) rfl) (ai (by rw[aVr];exact aVk (by rw[lI];omega) rfl) (s2 (sq (rT [0,5,8,9,10,66] (s3 (cd rfl (fun c66=> ?_) fun c66=> ?_))))))))))))
   · have hlt:cc b n<oK b (j+1):=by
      rw[← hsum]
      exact of_decide_eq_true c66
     refine sq (rT [4] (s2 (rt (aU rfl (aA D.i ?_)))))
     rw[← hdg]
     exact(aA5 (by omega) hj2 hlt).symm
   have hnl: ¬cc b n<oK b (j+1):=by
    rw[← hsum]
    exact of_decide_eq_false c66
   have hst:=aA4 (by omega) hj2 hnl
   refine sk (rT [0,5,8,9,10] (s3 (wq [] [] (⟨7 - (j+1),by omega,j+1,rfl,by omega,hst▸hdg,rfl⟩) ?_)))
   repeat' apply ai
   all_goals first|exact qx|(rw[hsum];done)|exact aA D.i (by rw[aF (by omega)];omega)|(simp;done)|omega|exact qz
 have hj3: ¬((j+1:Nat):Int)≤b:=by simpa using c55
 refine xt (sq (rT [4] (s2 (rt (aU rfl (aA D.i ?_))))))
 rw[← hdg]
 exact(cf (by omega)).symm
theorem nm (b n:Int) (hok:oC b n=true):Sp 216 2 [tI 0 b,tI 1 n] [tI 0 (hZ b n)]:=by
 obtain⟨hb,hn⟩:=rN hok
 refine sb Tryz.func216 rfl (sq (rT [0,1] (s1 (sq (sq (rT [0,1,12] (s2 (xp (wF _ _) (ai rfl ?_)))))))))
 refine s1 (cd rfl (fun c12=> ?_) fun c12=> ?_)
 · rw[hok] at c12
   cases c12
 refine sk (sq (sq (rT [0,1,15] (s3 (cd rfl (fun c15=> ?_) fun c15=> ?_)))))
 · have hs:n<b:=by simpa using c15
   refine sq (rT [4] (s1 (rt (aU rfl (aA D.i ?_)))))
   exact(av hok hs).symm
 have hs: ¬n<b:=by simpa using c15
 refine sk (sq (rT [0,1,5] (s1 (sq (sq (rT [0,1,5,6] (s1 (bk (SW.loopW (n:=7) (fun m s=> ∃i:Nat,m=7 - i∧(i:Int)≤b∧s=[tI 0 b,tI 1 n,tI 5 (oK b (i)),tI 6 ((i+1:Nat):Int)]) ?_ ?_)))))))))
 · refine wq [] [] (⟨0,rfl,by omega,rfl⟩) ?_
   repeat' apply ai
   all_goals first|exact qx|rfl|exact aA D.i (by rw[aF (by omega)];omega)|(simp;done)|omega|exact qz
 rintro n s ⟨i,rfl,hi,rfl⟩
 refine sq (sq (rT [0,1,5,6,18] (s3 (cd rfl (fun c18=> ?_) fun c18=> ?_))))
 · have hi2: ((i+1:Nat):Int)≤b:=by simpa using c18
   have hr1:=mX hb (d:=i) (by omega)
   have hw1:=mU (b:=b) (d:=((i+1:Nat):Int)) hb (by omega)
   refine sk (sq (bk (rT [0,1,5,6] (s3 (xp (ay b _ (by omega) (by omega)) (ai rfl ?_))))))
   refine s2 (rT [0,1,5,6] (s3 (wq [] [] (⟨7 - (i+1),by omega,i+1,rfl,by omega,rfl⟩) ?_)))
   repeat' apply ai
   all_goals first|exact qx|(show D.i _=D.i (oK b i+gN b ((i+1:Nat):Int));exact aA D.i (aF (by omega)))|exact aA D.i (by rw[aF (by omega)];omega)|(simp;done)|omega|exact qz
 have hi3: ¬((i+1:Nat):Int)≤b:=by simpa using c18
 have hie:i=b.toNat:=by omega
 subst hie
 have hq:=mX hb (d:=b.toNat) (by omega)
 refine xt (sq (rT [0,7] (s4 (xp (oZ _) (ai rfl ?_)))))
 refine xp (oZ _) (ai rfl ?_)
 refine ai (by decide) (s1 (ai (by omega) (s1 (sq (sq (rT [0,7,8] (s1 (bk ?_))))))))
 have hdr:=aHe (n:=n) hb
 refine SW.loopW (n:=7) (fun m s=> ∃j:Nat,m=7 - j∧((j:Int)≤b∧(j+1:Int)≤b)∧zM b (cc b n) (6 - j) (j+1)=hZ b n∧s=[tI 0 b,tI 7 (cc b n - oK b (j)),tI 8 ((j+1:Nat):Int)]) ?_ ?_
 · refine wq [] [] (⟨0,rfl,by omega,(ey hok hs).symm,rfl⟩) ?_
   repeat' apply ai
   all_goals first|exact qx|(show D.i (cc b n)=D.i (cc b n - 0);rw[Int.sub_zero])|rfl|exact aA D.i (by rw[aF (by omega)];omega)|(simp;done)|omega|exact qz
 rintro n s ⟨j,rfl,hj,hdg,rfl⟩
 refine sq (sq (rT [0,7,8,37] (s3 (cd rfl (fun c37=> ?_) fun c37=> ?_))))
 · have hj2: ((j+1:Nat):Int)<b:=by simpa using c37
   have hr1:=mX hb (d:=j) (by omega)
   have hw1:=mU (b:=b) (d:=((j+1:Nat):Int)) hb (by omega)
   have hsum:wrap64 (cc b n - oK b j - gN b ((j+1:Nat):Int))=cc b n - oK b (j+1):=by
    show _=cc b n - (oK b j+gN b ((j+1:Nat):Int))
    rw[aF (by omega)];omega
   refine sk (sq (bk (sq (rT [0,7,8] (s3 (xp (ay b _ (by omega) (by omega)) (ai rfl ?_)))))))
   refine s2 (sq (rT [0,7,8,46] (s2 (cd rfl (fun c46=> ?_) fun c46=> ?_))))
   · have hlt:cc b n<oK b (j+1):=by
      have h9:=of_decide_eq_true c46
      rw[hsum] at h9;omega
     refine sq (rT [4] (s2 (rt (aU rfl (aA D.i ?_)))))
     rw[← hdg]
     exact(aA5 (by omega) (by omega) hlt).symm
   have hnl: ¬cc b n<oK b (j+1):=by
    have h9:=of_decide_eq_false c46
    rw[hsum] at h9;omega
   have hst:=aA4 (by omega) (by omega) hnl
   refine sk (rT [0,7,8] (s3 (wq [] [] (⟨7 - (j+1),by omega,j+1,rfl,by omega,hst▸hdg,rfl⟩) ?_)))
   repeat' apply ai
   all_goals first|exact qx|(rw[hsum];done)|exact aA D.i (by rw[aF (by omega)];omega)|(simp;done)|omega|exact qz
 have hj3: ¬((j+1:Nat):Int)<b:=by simpa using c37
 refine xt (sq (rT [4] (s2 (rt (aU rfl (aA D.i ?_))))))
 rw[← hdg]
 rw[cf (by omega)]
theorem aC4 (l:List Int) (hl:l.length≤1000000):Sp 220 1 [tD 0 (.sl (bW l))] [tO 0 0 l.length,oR 0 3 1 (bW l)]:=by
 refine sb Tryz.func220 rfl (sq (rT [0] (s1 (sq (sq (rT [0,6] (s3 (cd rfl (fun c6=> ?_) fun c6=> ?_))))))))
 · refine sq (rT [2] (s1 (SW.nilOwn 2 0 3 1 rfl rfl (rt (rq [] [] rfl ?_)))))
   repeat' apply ai
   all_goals try exact qx
   all_goals(simp[bN] at c6;simp[c6,bW])
 refine sk (sq (rT [0,3] (s2 (ai (by refine⟨rfl,by omega,?_⟩;rw[bN];show((8:Nat):Int)*_≤_;omega) (s1 (sq (rT [3] (s2 (ai (by refine⟨trivial,by simp,aCl l⟩) (sq (rT [2] (s2 (rt (rq [(0,9)] [] rfl ?_))))))))))))))
 repeat' apply ai
 all_goals try exact qx
 all_goals first|(simp[bN];done)|(simp;done)
theorem aP4 (o:List Int):gU [tO 0 0 o.length,oR 0 3 1 (bW (o))]:=by
 intro p hp
 simp at hp
 rcases hp with rfl|rfl
 · trivial
 intro r hr d hd
 obtain⟨x,_,rfl⟩:=aV5.1 hr
 simp at hd;subst hd;trivial
theorem aC5 (b n:Int):Sp 180 2 [tI 0 b,tI 1 n] [tD 0 (.sl (bW (cB b n)))]:=by
 refine sb Tryz.func180 rfl (sq (rT [0,1] (s1 (sq (sq (rT [0,1,15] (s2 (xp (kz _ _) (ai rfl ?_)))))))))
 refine s1 (cd rfl (fun c15=> ?_) fun c15=> ?_)
 · have hok: ¬oC b n=true:=by simpa using c15
   refine sq (rT [4] (s1 (rt (dO _ [] [] rfl (bw rfl (aA D.sl ?_) trivial) rfl rfl))))
   rw[zP hok];rfl
 have hok:oC b n=true:=by simpa using c15
 obtain⟨hb,hn⟩:=rN hok
 have hmd:=oT hok
 refine sk (sq (sq (rT [0,1,18] (s3 (cd rfl (fun c18=> ?_) fun c18=> ?_)))))
 · have hs:n<b:=by simpa using c18
   refine sq (rT [4] (s3 (rt (dO _ [] [20] rfl (dD rfl rfl rfl ?_ (aA D.sl ?_) trivial) rfl rfl))))
   · rfl
   rw[wA hok hs];rfl
 have hs: ¬n<b:=by simpa using c18
 refine sk (sq (rT [0,1,5] (s1 (sq (rT [0,1,5,6] (s3 (xp (oY _) (ai rfl ?_))))))))
 refine s1 (sq (sq (rT [0,5,6,7] (s2 (xp (nl b n hok) (ai rfl ?_))))))
 refine s1 (bk (SW.loopW (n:=(hZ b n).toNat*1) (fun m s=> ∃(x:Int) (k:Nat) (u:List Bool),m=k*1∧(UOk b u∧(u.count true:Int)+k≤b)∧um b k x u=rR b n∧s=[tI 0 b,tP 5 5,tI 6 (x),tI 7 (k:Nat),oB 5 219 (cS (u))]) ?_ ?_))
 · refine wk [tI 0 b,tP 5 5,tI 6 (cK (wrap64 (wrap64 (n*7)+1))),tI 7 ((hZ b n).toNat:Nat),oB 5 219 (cS (aWb 6 false))] [] [] (⟨_,_,_,rfl,⟨(sT b).1,by rw[(sT b).2];omega⟩,rfl,rfl⟩) ?_ rfl rfl
   repeat' first|exact trivial|(refine dy rfl ?_ ?_)|(refine sC rfl ?_ ?_)|refine qB rfl ?_|refine iG rfl ?_ ?_|refine lD rfl rfl ?_ rfl ?_|refine cJ rfl ?_ ?_|refine vT rfl rfl rfl rfl ?_|refine pD rfl ?_ ?_|refine dS rfl ?_ ?_|exact bG|refine aN ?_ ?_|refine mM ?_|refine dP rfl ?_ rfl ?_|refine qD rfl rfl rfl ?_|refine aA3 rfl ?_ ?_
   all_goals first|with_reducible rfl|(first|with_reducible rfl|rfl|(rw[Int.mul_comm 7 n];done)|exact aA D.i (by omega))
 rintro n s ⟨x,k,u,rfl,⟨hu,hc⟩,hp,rfl⟩
 refine sq (sq (rT [0,5,6,7,29] (s2 (cd rfl (fun c29=> ?_) fun c29=> ?_))))
 · have hk1:0<k:=by simpa using c29
   obtain⟨f,hf,hfree⟩:=uo hb hu (by omega)
   refine sk (sq (bk (sq (rT [0,5,6,7] (s1 (xp (oY _) (ai rfl ?_)))))))
   refine s1 (sq (rT [0,5,6,7,8] (s1 (ai (by decide) (s1 (ai (by omega) (s1 (sq (bk ?_)))))))))
   have ha0:=my (x:=x) hb
   have hul:=hu.1
   refine SW.loopW (n:=((f+b - (Int.tmod (wrap64 (Int.tdiv (cK x) 16)) b)) % b).toNat) (fun m s=> ∃at_:Int,m=((f+b - at_) % b).toNat∧(0≤at_∧at_<b)∧pN u b 6 at_=pN u b 6 (Int.tmod (wrap64 (Int.tdiv (cK x) 16)) b)∧s=[tI 0 b,tP 5 5,tI 6 (cK x),tI 7 (k:Nat),tI 8 (at_),oB 5 219 (cS (u))]) ?_ ?_
   · refine wk [tI 0 b,tP 5 5,tI 6 (cK x),tI 7 (k:Nat),tI 8 ((Int.tmod (wrap64 (Int.tdiv (cK x) 16)) b)),oB 5 219 (cS (u))] [] [] (⟨_,rfl,ha0,rfl,rfl⟩) ?_ rfl rfl
     repeat' first|exact trivial|(refine dy rfl ?_ ?_)|(refine sC rfl ?_ ?_)|refine qB rfl ?_|refine iG rfl ?_ ?_|refine lD rfl rfl ?_ rfl ?_|refine cJ rfl ?_ ?_|refine vT rfl rfl rfl rfl ?_|refine pD rfl ?_ ?_|refine dS rfl ?_ ?_|exact bG|refine aN ?_ ?_|refine mM ?_|refine dP rfl ?_ rfl ?_|refine qD rfl rfl rfl ?_|refine aA3 rfl ?_ ?_
     all_goals first|with_reducible rfl|(first|with_reducible rfl|rfl)
   rintro n s ⟨at_,rfl,hat,hga,rfl⟩
   refine sq (sq (rT [0,5,6,7,8,40] (s2 (ai (by show 0+at_.toNat*1<_;rw[kS];omega) (SW.wk (J:=fun s=>s=[tI 0 b,tP 5 5,tI 6 (cK x),tI 7 (k:Nat),tI 8 (at_),tB 40 (u.getD at_.toNat false),oB 5 219 (cS (u))]) ?_ ?_)))))
   · refine wk [tI 0 b,tP 5 5,tI 6 (cK x),tI 7 (k:Nat),tI 8 (at_),tB 40 (u.getD at_.toNat false),oB 5 219 (cS (u))] [] [] (rfl) ?_ rfl rfl
     repeat' first|exact trivial|(refine dy rfl ?_ ?_)|(refine sC rfl ?_ ?_)|refine qB rfl ?_|refine iG rfl ?_ ?_|refine lD rfl rfl ?_ rfl ?_|refine cJ rfl ?_ ?_|refine vT rfl rfl rfl rfl ?_|refine pD rfl ?_ ?_|refine dS rfl ?_ ?_|exact bG|refine aN ?_ ?_|refine mM ?_|refine dP rfl ?_ rfl ?_|refine qD rfl rfl rfl ?_|refine aA3 rfl ?_ ?_
     all_goals first|with_reducible rfl|(first|with_reducible rfl|(show(cS u).getD (0+at_.toNat*1) .nil=_;rw[show 0+at_.toNat*1=at_.toNat by omega];exact ur (by omega)))
   rintro s rfl
   refine cd rfl (fun c40=> ?_) fun c40=> ?_
   · refine sk (bk (rT [0,5,6,7,8] (s3 (ai (by omega) (s1 ?_)))))
     have hne:at_≠f:=by
      rintro rfl
      rw[hfree] at c40
      cases c40
     obtain⟨q1,q2⟩:=aCm hb hf hat hne
     have hgo:=aE1 hb hf hfree hat c40
     refine wk [tI 0 b,tP 5 5,tI 6 (cK x),tI 7 (k:Nat),tI 8 (Int.tmod (wrap64 (at_+1)) b),oB 5 219 (cS (u))] [] [] (⟨_,q1,_,rfl,q2,hgo▸hga,rfl⟩) ?_ rfl rfl
     repeat' first|exact trivial|(refine dy rfl ?_ ?_)|(refine sC rfl ?_ ?_)|refine qB rfl ?_|refine iG rfl ?_ ?_|refine lD rfl rfl ?_ rfl ?_|refine cJ rfl ?_ ?_|refine vT rfl rfl rfl rfl ?_|refine pD rfl ?_ ?_|refine dS rfl ?_ ?_|exact bG|refine aN ?_ ?_|refine mM ?_|refine dP rfl ?_ rfl ?_|refine qD rfl rfl rfl ?_|refine aA3 rfl ?_ ?_
     all_goals first|with_reducible rfl|(first|with_reducible rfl|rfl)
   have hz:at_=pN u b 6 (Int.tmod (wrap64 (Int.tdiv (cK x) 16)) b):=by rw[← hga,xT c40]
   have hpo:uA b x u=u.set at_.toNat true:=by rw[uA,← hz]
   have huk:=uq (x:=x) hb hu (by omega)
   rw[hpo] at huk
   refine xt (rT [0,5,6,7] (s2 (ai (by refine⟨rfl,?_⟩;rw[kS];show 0+at_.toNat*1+1≤_;omega) (gj.2 (rT [0,5,6,7] (s3 ?_))))))
   obtain⟨k,rfl⟩: ∃k2,k=k2+1:=⟨k - 1,by omega⟩
   have hpp:um b k (cK x) (u.set at_.toNat true)=rR b n:=by
    rw[← hpo];exact hp
   refine wk [tI 0 b,tP 5 5,tI 6 (cK x),tI 7 (k:Nat),oB 5 219 (cS (u.set at_.toNat true))] [] [] (⟨k*1,by omega,cK x,k,u.set at_.toNat true,rfl,⟨huk.1,by rw[huk.2];omega⟩,hpp,rfl⟩) ?_ rfl rfl
   repeat' first|exact trivial|(refine dy rfl ?_ ?_)|(refine sC rfl ?_ ?_)|refine qB rfl ?_|refine iG rfl ?_ ?_|refine lD rfl rfl ?_ rfl ?_|refine cJ rfl ?_ ?_|refine vT rfl rfl rfl rfl ?_|refine pD rfl ?_ ?_|refine dS rfl ?_ ?_|exact bG|refine aN ?_ ?_|refine mM ?_|refine dP rfl ?_ rfl ?_|refine qD rfl rfl rfl ?_|refine aA3 rfl ?_ ?_
   all_goals first|with_reducible rfl|(first|with_reducible rfl|exact aA D.i (by rw[aF (by omega)];omega)|(show cT (cS u) (0+at_.toNat*1) [.d (.b true)]=_;rw[show 0+at_.toNat*1=at_.toNat by omega];exact yr (by omega)))
 have hk1:k=0:=by simp at c29;omega
 subst hk1
 have hue:u=rR b n:=hp
 have hul:=hu.1
 refine xt (sq (rT [5,9] (s1 (sq (sq (rT [9,47,48] (ai (by show 0+6≤_;rw[kS];omega) (s1 (bk (SW.nilOwn 9 100 3 1 rfl rfl (SW.loopW (n:=6) (fun m s=> ∃i:Nat,m=6 - i∧i≤6∧s=[tO 9 100 (hD u (i)).length,tI 48 (i:Nat),tV 47 (.e (.agg (cS u))),oR 100 3 1 (bW (hD u (i)))]) ?_ ?_)))))))))))
 · refine wk [tO 9 100 (hD u (0)).length,tI 48 (0:Nat),tV 47 (.e (.agg (cS u))),oR 100 3 1 (bW (hD u (0)))] [] [] (⟨0,rfl,by omega,rfl⟩) ?_ rfl rfl
   repeat' first|exact trivial|(refine dy rfl ?_ ?_)|(refine sC rfl ?_ ?_)|refine qB rfl ?_|refine iG rfl ?_ ?_|refine lD rfl rfl ?_ rfl ?_|refine cJ rfl ?_ ?_|refine vT rfl rfl rfl rfl ?_|refine pD rfl ?_ ?_|refine dS rfl ?_ ?_|exact bG|refine aN ?_ ?_|refine mM ?_|refine dP rfl ?_ rfl ?_|refine qD rfl rfl rfl ?_|refine aA3 rfl ?_ ?_
   all_goals first|with_reducible rfl|(first|with_reducible rfl|rfl|(show((cS u).drop 0).take 6=cS u;rw[List.drop_zero,List.take_of_length_le (by rw[kS];omega)]))
 rintro n s ⟨i,rfl,hi,rfl⟩
 refine sq (rT [9,47,48,49] (s1 (sq (cd rfl (fun c49=> ?_) fun c49=> ?_))))
 · have hi2:i<6:=by simp at c49;omega
   refine sk (sq (bk (sq (rT [9,10,11,47,48] (s1 (aTr kX u (i:Nat) (u.getD i false) rfl rfl rfl rfl rfl rfl rfl (by rfl) (by rfl) (by omega) hul.symm (by rw[aVr]) (s2 (sq (rT [9,10,47,48,52] (s1 (cd rfl (fun c52=> ?_) fun c52=> ?_)))))))))))
   · refine rT [9,47,48] (s3 (ai (by refine⟨rfl,bN _,by simp,?_⟩;have:=sD u i;show(_+1)*8≤_;omega) (s1 (rT [9,47,48] (s2 ?_)))))
     first
     |(have hx:=zO c52
       refine wk [tO 9 100 (hD u ((i+1))).length,tI 48 ((i+1):Nat),tV 47 (.e (.agg (cS u))),oR 100 3 1 (bW (hD u ((i+1))))] [] [] (⟨6 - (i+1),by omega,i+1,rfl,by omega,rfl⟩) ?_ rfl rfl
       repeat' first|exact trivial|refine qB rfl ?_|refine iG rfl ?_ ?_|refine lD rfl rfl ?_ rfl ?_|refine cJ rfl ?_ ?_|refine vT rfl rfl rfl rfl ?_|refine pD rfl ?_ ?_|refine sC rfl ?_ ?_|exact bG|refine aN ?_ ?_|refine mM ?_|refine dP rfl ?_ rfl ?_|refine qD rfl rfl rfl ?_
       all_goals first|with_reducible rfl|(first|with_reducible rfl|exact aA D.i (by rw[aF (by omega)];omega)|omega|(simp;done)|(rw[hx,aVt];rfl)|(rw[hx];exact iM _ _)|(rw[hx];simp[bW,aVt];done)))
     |(have hx:=xU c52
       refine wk [tO 9 100 (hD u ((i+1))).length,tI 48 ((i+1):Nat),tV 47 (.e (.agg (cS u))),oR 100 3 1 (bW (hD u ((i+1))))] [] [] (⟨6 - (i+1),by omega,i+1,rfl,by omega,rfl⟩) ?_ rfl rfl
       repeat' first|exact trivial|refine qB rfl ?_|refine iG rfl ?_ ?_|refine lD rfl rfl ?_ rfl ?_|refine cJ rfl ?_ ?_|refine vT rfl rfl rfl rfl ?_|refine pD rfl ?_ ?_|refine sC rfl ?_ ?_|exact bG|refine aN ?_ ?_|refine mM ?_|refine dP rfl ?_ rfl ?_|refine qD rfl rfl rfl ?_
       all_goals first|with_reducible rfl|(first|with_reducible rfl|exact aA D.i (by rw[aF (by omega)];omega)|omega|(simp;done)|(rw[hx];done)))
   refine sk (rT [9,47,48] (s2 ?_))
   first
   |(have hx:=zO c52
     refine wk [tO 9 100 (hD u ((i+1))).length,tI 48 ((i+1):Nat),tV 47 (.e (.agg (cS u))),oR 100 3 1 (bW (hD u ((i+1))))] [] [] (⟨6 - (i+1),by omega,i+1,rfl,by omega,rfl⟩) ?_ rfl rfl
     repeat' first|exact trivial|refine qB rfl ?_|refine iG rfl ?_ ?_|refine lD rfl rfl ?_ rfl ?_|refine cJ rfl ?_ ?_|refine vT rfl rfl rfl rfl ?_|refine pD rfl ?_ ?_|refine sC rfl ?_ ?_|exact bG|refine aN ?_ ?_|refine mM ?_|refine dP rfl ?_ rfl ?_|refine qD rfl rfl rfl ?_
     all_goals first|with_reducible rfl|(first|with_reducible rfl|exact aA D.i (by rw[aF (by omega)];omega)|omega|(simp;done)|(rw[hx,aVt];rfl)|(rw[hx];exact iM _ _)|(rw[hx];simp[bW,aVt];done)))
   |(have hx:=xU c52
     refine wk [tO 9 100 (hD u ((i+1))).length,tI 48 ((i+1):Nat),tV 47 (.e (.agg (cS u))),oR 100 3 1 (bW (hD u ((i+1))))] [] [] (⟨6 - (i+1),by omega,i+1,rfl,by omega,rfl⟩) ?_ rfl rfl
     repeat' first|exact trivial|refine qB rfl ?_|refine iG rfl ?_ ?_|refine lD rfl rfl ?_ rfl ?_|refine cJ rfl ?_ ?_|refine vT rfl rfl rfl rfl ?_|refine pD rfl ?_ ?_|refine sC rfl ?_ ?_|exact bG|refine aN ?_ ?_|refine mM ?_|refine dP rfl ?_ rfl ?_|refine qD rfl rfl rfl ?_
     all_goals first|with_reducible rfl|(first|with_reducible rfl|exact aA D.i (by rw[aF (by omega)];omega)|omega|(simp;done)|(rw[hx];done)))
 have hi3:i=6:=by simp at c49;omega
 subst hi3
 refine xt (sq (rT [4] (s1 (eX (robj:=[(100,.row 3 1 (bW (hD u 6)))]) (rl:=[(0,59)]) (bor:=[100]) (aC4 (hD u 6) (by have:=sD u 6;omega)) rfl rfl rfl rfl ⟨dD rfl rfl rfl (bN _) rfl trivial,rfl⟩ rfl (.inr (aP4 _)) (cH ⟨rfl,trivial⟩) (fun j hj=>by(obtain rfl:j=0:=by simpa[fI,bJ,gB] using hj);rfl) (s1 (rt (dO _ [] [59] rfl (dD rfl rfl rfl ?_ (aA D.sl ?_) trivial) rfl rfl)))))))
 · exact bN _
 rw[dz hok hs,← hue,← gv,hul]
theorem aC6 (b n:Int):Sp 176 2 [tI 0 b,tI 1 n] [tD 0 (.sl (bW (cB b n)))]:=by
 refine sb Tryz.func176 rfl (sq (rT [0,1] (s1 (sq (rT [0,1,5] (s2 (sq (sq (rT [0,1,5,15] (s2 (xp (wF _ _) (ai rfl ?_))))))))))))
 refine s1 (cd rfl (fun c15=> ?_) fun c15=> ?_)
 · have hok: ¬oC b n=true:=by simpa using c15
   refine sq (rT [4] (s2 (rt (dO _ [] [11] rfl (dD rfl rfl rfl ?_ (aA D.sl ?_) trivial) rfl rfl))))
   · rfl
   rw[zP hok];rfl
 have hok:oC b n=true:=by simpa using c15
 obtain⟨hb,hn⟩:=rN hok
 have hmd:=oT hok
 refine sk (sq (sq (rT [0,1,5,19] (s3 (cd rfl (fun c19=> ?_) fun c19=> ?_)))))
 · have hs:n<b:=by simpa using c19
   refine sq (rT [4] (s5 (rt (dO _ [] [11] rfl (dD rfl rfl rfl ?_ (aA D.sl ?_) trivial) rfl rfl))))
   · rfl
   rw[wA hok hs];rfl
 have hs: ¬n<b:=by simpa using c19
 refine sk (sq (rT [0,1,5,6] (s1 (ai (by refine⟨rfl,by omega,?_⟩;show((1:Nat):Int)*_≤_;omega) (s1 (sq (rT [0,1,5,6,7] (s3 (xp (oZ _) (ai rfl ?_))))))))))
 refine s1 (sq (sq (rT [0,5,6,7,8] (s2 (xp (nm b n hok) (ai rfl ?_))))))
 refine s1 (bk (SW.loopW (n:=(hZ b n).toNat*1) (fun m s=> ∃(x:Int) (k:Nat) (u:List Bool),m=k*1∧(UOk b u∧(u.count true:Int)+k≤b)∧um b k x u=rR b n∧s=[tI 0 b,tO 5 11 (([]:List Int)).length,tO 6 25 b.toNat,tI 7 (x),tI 8 (k:Nat),oR 11 3 1 (bW ([])),oR 25 4 1 (gM ((u).take b.toNat))]) ?_ ?_))
 · refine wq (σ':=[tI 0 b,tO 5 11 (([]:List Int)).length,tO 6 25 b.toNat,tI 7 (cK (wrap64 (wrap64 (n*7)+1))),tI 8 ((hZ b n).toNat:Nat),oR 11 3 1 (bW ([])),oR 25 4 1 (gM ((aWb 6 false).take b.toNat))]) [] [] (⟨_,_,_,rfl,⟨(sT b).1,by rw[(sT b).2];omega⟩,rfl,rfl⟩) ?_
   repeat' apply ai
   all_goals first|exact qx|rfl|exact aA D.i (by omega)|(rw[List.take_replicate,Nat.min_eq_left (by omega)];exact repT _)|exact qz
 rintro n s ⟨x,k,u,rfl,⟨hu,hc⟩,hp,rfl⟩
 refine sq (sq (rT [0,5,6,7,8,34] (s2 (cd rfl (fun c34=> ?_) fun c34=> ?_))))
 · have hk1:0<k:=by simpa using c34
   obtain⟨f,hf,hfree⟩:=uo hb hu (by omega)
   refine sk (sq (bk (sq (rT [0,5,6,7,8] (s1 (xp (oZ _) (ai rfl ?_)))))))
   refine s1 (sq (rT [0,5,6,7,8,9] (s1 (ai (by decide) (s1 (ai (by omega) (s1 (sq (bk ?_)))))))))
   have ha0:=my (x:=x) hb
   have hul:=hu.1
   have htl: (u.take b.toNat).length=b.toNat:=by rw[aV0];omega
   refine SW.loopW (n:=((f+b - (Int.tmod (wrap64 (Int.tdiv (cK x) 16)) b)) % b).toNat) (fun m s=> ∃at_:Int,m=((f+b - at_) % b).toNat∧(0≤at_∧at_<b)∧pN u b 6 at_=pN u b 6 (Int.tmod (wrap64 (Int.tdiv (cK x) 16)) b)∧s=[tI 0 b,tO 5 11 (([]:List Int)).length,tO 6 25 b.toNat,tI 7 (cK x),tI 8 (k:Nat),tI 9 (at_),oR 11 3 1 (bW ([])),oR 25 4 1 (gM ((u).take b.toNat))]) ?_ ?_
   · refine wq (σ':=[tI 0 b,tO 5 11 (([]:List Int)).length,tO 6 25 b.toNat,tI 7 (cK x),tI 8 (k:Nat),tI 9 ((Int.tmod (wrap64 (Int.tdiv (cK x) 16)) b)),oR 11 3 1 (bW ([])),oR 25 4 1 (gM ((u).take b.toNat))]) [] [] (⟨_,rfl,ha0,rfl,rfl⟩) ?_
     repeat' apply ai
     all_goals first|exact qx|rfl|exact qz
   rintro n s ⟨at_,rfl,hat,hga,rfl⟩
   have hbo:=wP (l:=u.take b.toNat) (i:=at_.toNat) (by omega)
   rw[xQ (by omega)] at hbo
   refine sq (sq (rT [0,5,6,7,8,9,46] (s2 (ai (by exact⟨by rw[kB];exact htl,by omega,by omega⟩) (ai (by rw[hbo];exact⟨⟨by rw[kB];exact htl,by omega⟩,aVz _,rfl⟩) (cd rfl (fun c46=> ?_) fun c46=> ?_))))))
   · have c40:u.getD at_.toNat false=true:=by
      rw[hbo] at c46;exact c46
     refine sk (bk (rT [0,5,6,7,8,9] (s3 (ai (by omega) (s1 ?_)))))
     have hne:at_≠f:=by
      rintro rfl
      rw[hfree] at c40
      cases c40
     obtain⟨q1,q2⟩:=aCm hb hf hat hne
     have hgo:=aE1 hb hf hfree hat c40
     refine wq (σ':=[tI 0 b,tO 5 11 (([]:List Int)).length,tO 6 25 b.toNat,tI 7 (cK x),tI 8 (k:Nat),tI 9 (Int.tmod (wrap64 (at_+1)) b),oR 11 3 1 (bW ([])),oR 25 4 1 (gM ((u).take b.toNat))]) [] [] (⟨_,q1,_,rfl,q2,hgo▸hga,rfl⟩) ?_
     repeat' apply ai
     all_goals first|exact qx|rfl|exact qz
   have c40:u.getD at_.toNat false=false:=by
    rw[hbo] at c46;exact c46
   have hz:at_=pN u b 6 (Int.tmod (wrap64 (Int.tdiv (cK x) 16)) b):=by rw[← hga,xT c40]
   have hpo:uA b x u=u.set at_.toNat true:=by rw[uA,← hz]
   have huk:=uq (x:=x) hb hu (by omega)
   rw[hpo] at huk
   refine xt (rT [0,5,6,7,8] (s2 (ai (by exact⟨by rw[kB];exact htl,by omega,by omega⟩) (ai (by rw[hbo];exact⟨by rw[kB];exact htl,by omega,rfl,aVz _⟩) (rT [0,5,6,7,8] (s3 ?_))))))
   obtain⟨k,rfl⟩: ∃k2,k=k2+1:=⟨k - 1,by omega⟩
   have hpp:um b k (cK x) (u.set at_.toNat true)=rR b n:=by
    rw[← hpo];exact hp
   refine wq [] [] (⟨k*1,by omega,cK x,k,u.set at_.toNat true,rfl,⟨huk.1,by rw[huk.2];omega⟩,hpp,rfl⟩) ?_
   repeat' apply ai
   all_goals first|exact qx|exact aA D.i (by rw[aF (by omega)];omega)|(rw[List.take_set];exact aJr (by omega))|exact qz
 have hk1:k=0:=by simp at c34;omega
 subst hk1
 have hue:u=rR b n:=hp
 have hul:=hu.1
 have htl: (u.take b.toNat).length=b.toNat:=by rw[aV0];omega
 refine xt (sq (sq (rT [0,5,6,10] (s1 (bk (SW.loopW (n:=b.toNat) (fun m s=> ∃i:Nat,m=b.toNat - i∧(i:Int)≤b∧s=[tI 0 b,tO 5 11 (hD u (i)).length,tO 6 25 b.toNat,tI 10 (i:Nat),oR 11 3 1 (bW (hD u (i))),oR 25 4 1 (gM (u.take b.toNat))]) ?_ ?_))))))
 · refine wq [] [] (⟨0,rfl,by omega,rfl⟩) ?_
   repeat' apply ai
   all_goals first|exact qx|rfl|exact qz
 rintro n s ⟨i,rfl,hi,rfl⟩
 refine sq (sq (rT [0,5,6,10,56] (s3 (cd rfl (fun c56=> ?_) fun c56=> ?_))))
 · have hi2: (i:Int)<b:=by simpa using c56
   have hbo:=wP (l:=u.take b.toNat) (i:=i) (by omega)
   rw[xQ (by omega)] at hbo
   refine sk (sq (bk (sq (rT [0,5,6,10,62] (s2 (ai (by exact⟨by rw[kB];exact htl,by omega,by omega⟩) (ai (by rw[aVr];rw[hbo];exact⟨⟨by rw[kB];exact htl,by omega⟩,aVz _,rfl⟩) (cd rfl (fun c62=> ?_) fun c62=> ?_))))))))
   · have c52:u.getD i false=true:=by
      rw[aVr,hbo] at c62;exact c62
     refine rT [0,5,6,10] (s3 (ai (by refine⟨rfl,bN _,by simp,?_⟩;have:=sD u i;show(_+1)*8≤_;omega) (s1 (rT [0,5,6,10] (s3 ?_)))))
     first
     |(have hx:=zO c52
       refine wq [] [] (⟨b.toNat - (i+1),by omega,i+1,rfl,by omega,rfl⟩) ?_
       repeat' apply ai
       all_goals first|exact qx|exact aA D.i (by rw[aF (by omega)];omega)|omega|(simp;done)|(rw[hx,aVt];rfl)|(rw[hx];exact iM _ _)|(rw[hx];simp[bW,aVt];done)|exact qz)
     |(have hx:=xU c52
       refine wq [] [] (⟨b.toNat - (i+1),by omega,i+1,rfl,by omega,rfl⟩) ?_
       repeat' apply ai
       all_goals first|exact qx|exact aA D.i (by rw[aF (by omega)];omega)|omega|(simp;done)|(rw[hx];done)|exact qz)
   have c52:u.getD i false=false:=by
    rw[aVr,hbo] at c62;exact c62
   refine sk (rT [0,5,6,10] (s3 ?_))
   first
   |(have hx:=zO c52
     refine wq [] [] (⟨b.toNat - (i+1),by omega,i+1,rfl,by omega,rfl⟩) ?_
     repeat' apply ai
     all_goals first|exact qx|exact aA D.i (by rw[aF (by omega)];omega)|omega|(simp;done)|(rw[hx,aVt];rfl)|(rw[hx];exact iM _ _)|(rw[hx];simp[bW,aVt];done)|exact qz)
   |(have hx:=xU c52
     refine wq [] [] (⟨b.toNat - (i+1),by omega,i+1,rfl,by omega,rfl⟩) ?_
     repeat' apply ai
     all_goals first|exact qx|exact aA D.i (by rw[aF (by omega)];omega)|omega|(simp;done)|(rw[hx];done)|exact qz)
 have hi3:i=b.toNat:=by simp at c56;omega
 subst hi3
 refine xt (sq (rT [4] (s2 (rt (dO _ [] [11] rfl (dD rfl rfl rfl ?_ (aA D.sl ?_) trivial) rfl rfl)))))
 · exact bN _
 rw[dz hok hs,← hue,← gv,pj (i:=b.toNat) (fun j hj=>hu.2 j (by omega)) (by omega)]
theorem aC7 (a c:List UInt8) (ha:a.length=4) (hc:c.length=4):Sp 178 2 [tD 0 (.s a),tD 1 (.s c)] [tD 0 (.s (aEz a c))]:=by
 refine sb Tryz.func178 rfl (sq (rT [0,1] (s1 (sq (rT [0,1,5] (s2 (sq (sq (rT [0,1,5,6] (s1 (bk (SW.loopW (n:=4) (fun m s=> ∃i:Nat,m=4 - i∧i≤4∧s=[tD 0 (.s a),tD 1 (.s c),tO 5 7 (vF a c (i)).length,tI 6 (i:Nat),oR 7 5 1 (dW (vF a c (i)))]) ?_ ?_))))))))))))
 · refine wq [] [] (⟨0,rfl,by omega,rfl⟩) ?_
   repeat' apply ai
   all_goals first|exact qx|rfl|exact qz
 rintro n s ⟨i,rfl,hi,rfl⟩
 refine sq (sq (rT [0,1,5,6,9] (s2 (cd rfl (fun c9=> ?_) fun c9=> ?_))))
 · have hi2:i<4:=by simp at c9;omega
   refine sk (sq (bk (rD [0,1,5,6] (s3 (ai (by omega) (s2 (ai (by omega) (s2 (ai (by refine⟨rfl,eK _,by simp,?_⟩;rw[lJ];show(_+1)*1≤_;omega) (s1 (ai (by kernel_rfl) (rT [0,1,5,6] (s3 ?_)))))))))))))
   have hx:=uv a c i
   refine wq [] [] (⟨4 - (i+1),by omega,i+1,rfl,by omega,rfl⟩) ?_
   repeat' apply ai
   all_goals first|exact qx|(rw[hx,aVt];rfl)|(rw[hx,aVr];exact aJt _ _ _)|(simp[eK,lJ];done)|exact aA D.i (by rw[aF (by omega)];omega)|omega|(simp;done)|exact qz
 have hi2:i=4:=by simp at c9;omega
 subst hi2
 refine xt (sq (rT [4] (s1 (ai (by exact⟨eK _,(aA dW (kM _)).symm⟩) (s1 (rt (aU rfl (aA D.s ?_))))))))
 exact kM _
theorem aC8 (a c:List UInt8) (ha:a.length=4) (hc:c.length=4):Sp 181 2 [tD 0 (.s a),tD 1 (.s c)] [tD 0 (.s (aEz a c))]:=by
 refine sb Tryz.func181 rfl (sq (rT [0,1] (s1 (sq (rT [1,5] (s1 (ai (by omega) (s1 (sq (sq (rT [1,5,10,11] (s1 (ai (by exact eK _) (s1 (bk (SW.loopW (n:=4) (fun m s=> ∃i:Nat,m=4 - i∧i≤4∧s=[tD 1 (.s c),tO 5 8 4,tI 10 (4:Nat),tI 11 (i:Nat),oR 8 5 1 (dW (vF a c (i)++a.drop (i)))]) ?_ ?_))))))))))))))))
 · refine wq [] [] (⟨0,rfl,by omega,rfl⟩) ?_
   repeat' apply ai
   all_goals first|exact qx|rfl|(rw[ha];done)|(exact aA D.i (by omega))|omega|exact qz
 rintro n s ⟨i,rfl,hi,rfl⟩
 refine sq (rT [1,5,10,11,12] (s1 (sq (cd rfl (fun c12=> ?_) fun c12=> ?_))))
 · have hi2:i<4:=by simp at c12;omega
   have hlx: (vF a c (i)++a.drop (i)).length=4:=by rw[aVt,lJ,aV4];omega
   have hgx:=te (l:=(vF a c (i)++a.drop (i))) (i:=i) (by omega)
   rw[aPw (by omega)] at hgx
   refine sk (sq (bk (sq (rT [1,5,6,10,11] (s2 (rD [1,5,10,11] (s2 (ai (by exact⟨by rw[eK];exact hlx,by omega,by omega⟩) (ai (by rw[aVr,hgx];exact⟨⟨by rw[eK];exact hlx,by omega⟩,aVz _,rfl⟩) (s2 (ai (by omega) (s1 (ai (by exact⟨by rw[eK];exact hlx,by omega,by omega⟩) (ai (by rw[aVr,hgx];exact⟨by rw[eK];exact hlx,by omega,rfl,aVz _⟩) (ai (by kernel_rfl) (rT [1,5,10,11] (s2 (wq [] [] (⟨4 - (i+1),by omega,i+1,rfl,by omega,rfl⟩) ?_))))))))))))))))))
   repeat' apply ai
   all_goals first|exact qx|(rw[aVr,hgx];exact aPx (by omega))|exact aA D.i (by rw[aF (by omega)];omega)|omega|(simp;done)|exact qz
 have hi2:i=4:=by simp at c12;omega
 subst hi2
 refine xt (sq (rT [4] (s1 (ai (by exact⟨by rw[eK,aVt,lJ,aV4];omega,(aA dW (kM _)).symm⟩) (s1 (rt (aU rfl (aA D.s ?_))))))))
 rw[kM,List.drop_of_length_le (by omega),List.append_nil];rfl
theorem tJ (a b:Int):Sp 126 2 [tI 0 a,tI 1 b] [tI 0 (oH a b)]:=by
 refine sb Tryz.func126 rfl (sq (rT [0,1] (s1 (sq (bk (sq (rT [0,1,5] (s1 (xp (eB _) (ai rfl ?_))))))))))
 refine s2 (y1 (xc (fun h=>(eB _)) (ai rfl (ai rk ?_))))
 refine y1 (ai pk (s1 (y3 (ai pk (s1 (cd rfl (fun c5=> ?_) fun c5=> ?_))))))
 · refine sq (rT [4] (s1 (rt (aU rfl ?_))))
   simp only[oH,wrap64,dY,gT,gb] at*
   grind
 refine sq (rT [0,19] (s4 (cd rfl (fun c19=> ?_) fun c19=> ?_)))
 · refine sq (rT [4] (s3 (rt (aU rfl ?_))))
   simp only[oH,wrap64,dY,gT,gb] at*
   grind
 refine sk (sq (rT [4] (s3 (rt (aU rfl ?_)))))
 simp only[oH,wrap64,dY,gT,gb] at*
 grind
theorem az (a b:Int):Sp 124 2 [tI 0 a,tI 1 b] [tI 0 (oH a b)]:=by
 refine sb Tryz.func124 rfl (sq (rT [0,1] (s1 (sq (bk (sq (rT [0,1,5] (s1 (xp (dT _) (ai rfl ?_))))))))))
 refine s2 (y1 (xc (fun h=>(dT _)) (ai rfl (ai rk ?_))))
 refine y1 (ai pk (s1 (y3 (ai pk (s1 (cd rfl (fun c5=> ?_) fun c5=> ?_))))))
 · refine sq (rT [4] (s1 (rt (aU rfl ?_))))
   simp only[oH,wrap64,dY,gT,gb] at*
   grind
 refine sq (rT [0,19] (s4 (cd rfl (fun c19=> ?_) fun c19=> ?_)))
 · refine sq (rT [4] (s3 (rt (aU rfl ?_))))
   simp only[oH,wrap64,dY,gT,gb] at*
   grind
 refine sk (sq (rT [4] (s3 (rt (aU rfl ?_)))))
 simp only[oH,wrap64,dY,gT,gb] at*
 grind
theorem nn (k:aT) (hl:k.log.length≤140737488355328):Sp 27 1 [tV 0 k.V] [tV 0 ((bV k).V)]:=by
 refine sb Tryz.func27 rfl (sq (rT [1,2] (s2 (sq (sq (rT [1,2,7] (s1 (xp (tG k hl) (ai rfl ?_)))))))))
 refine s1 (cd rfl (fun c7=> ?_) fun c7=> ?_)
 · have hr:bV k= .zero:=aCz (by simpa using c7)
   refine sq (rT [2] (s2 (rt (dO _ [] [] rfl ?_ rfl rfl))))
   rw[hr]
   refine qs ?_
   repeat' first|exact qx|apply ai
   all_goals rfl
 have hok:bL k=true:=by simpa using c7
 have hr:bV k=_:=oL hok
 have hlg:=(fW hok).2.1
 refine sk (sq (rT [2,3] (s5 (xp (nB k.id k.log (by omega)) (ai rfl ?_)))))
 refine s6 (sq (rT [2] (s2 (rt (bI rfl rfl ?_)))))
 rw[hr]
 rfl
theorem vN (f:bH):Sp 42 1 [tV 0 f.V] [tV 0 f.V]:=by
 refine sb Tryz.func42 rfl (sq (rT [1,2] (s2 (sq (rT [1,2,3] (s1 (sq (rT [1,2,3] (s4 (sq (rT [1,2,3] (s4 (sq (rT [1,2,3] (s4 (sq (rT [1,2,3] (s4 (sq (rT [1,2,3] (s4 (sq (rT [1,2,3] (s4 (sq (rT [1,2,3] (s4 (sq (rT [1,2,3] (s4 (sq (rT [1,2,3] (s4 (sq (rT [2,3] (s4 (sq (rT [2] (s2 (rt (bI rfl rfl ?_)))))))))))))))))))))))))))))))))))))))))
 rfl
theorem wo (a b:bH):Sp 102 2 [tV 0 a.V,tV 1 b.V] [tB 0 (decide (a=b))]:=by
 refine sb Tryz.func102 rfl (sq (rT [2,3] (s3 (sq (sq (rT [2,3,9] (s5 (cd rfl (fun c9=> ?_) fun c9=> ?_))))))))
 · refine sq (rT [4] (s1 (rt (aU rfl (aA D.b ?_)))))
   cases a;cases b;simp_all
 refine sk (sq (sq (rT [2,3,14] (s5 (cd rfl (fun c14=> ?_) fun c14=> ?_)))))
 · refine sq (rT [4] (s1 (rt (aU rfl (aA D.b ?_)))))
   cases a;cases b;simp_all
 refine sk (sq (sq (rT [2,3,19] (s5 (cd rfl (fun c19=> ?_) fun c19=> ?_)))))
 · refine sq (rT [4] (s1 (rt (aU rfl (aA D.b ?_)))))
   cases a;cases b;simp_all
 refine sk (sq (sq (rT [2,3,24] (s5 (cd rfl (fun c24=> ?_) fun c24=> ?_)))))
 · refine sq (rT [4] (s1 (rt (aU rfl (aA D.b ?_)))))
   cases a;cases b;simp_all
 refine sk (sq (sq (rT [2,3,29] (s5 (cd rfl (fun c29=> ?_) fun c29=> ?_)))))
 · refine sq (rT [4] (s1 (rt (aU rfl (aA D.b ?_)))))
   cases a;cases b;simp_all
 refine sk (sq (sq (rT [2,3,34] (s5 (cd rfl (fun c34=> ?_) fun c34=> ?_)))))
 · refine sq (rT [4] (s1 (rt (aU rfl (aA D.b ?_)))))
   cases a;cases b;simp_all
 refine sk (sq (sq (rT [2,3,39] (s5 (cd rfl (fun c39=> ?_) fun c39=> ?_)))))
 · refine sq (rT [4] (s1 (rt (aU rfl (aA D.b ?_)))))
   cases a;cases b;simp_all
 refine sk (sq (sq (rT [2,3,44] (s5 (cd rfl (fun c44=> ?_) fun c44=> ?_)))))
 · refine sq (rT [4] (s1 (rt (aU rfl (aA D.b ?_)))))
   cases a;cases b;simp_all
 refine sk (sq (sq (rT [2,3,49] (s5 (cd rfl (fun c49=> ?_) fun c49=> ?_)))))
 · refine sq (rT [4] (s1 (rt (aU rfl (aA D.b ?_)))))
   cases a;cases b;simp_all
 refine sk (sq (sq (rT [54] (s5 (cd rfl (fun c54=> ?_) fun c54=> ?_)))))
 · refine sq (rT [4] (s1 (rt (aU rfl (aA D.b ?_)))))
   cases a;cases b;simp_all
 refine sk (sq (rT [4] (s1 (rt (aU rfl (aA D.b ?_))))))
 cases a;cases b;simp_all
theorem lb (rec:List UInt8):Sp 146 1 [tD 0 (.s rec)] [tB 0 (iK rec)]:=by
 refine sb Tryz.func146 rfl (sq (rT [0] (s1 (sq (rT [2] (s2 (xp (dM _ _ _) (ai rfl ?_))))))))
 refine s1 (rt (aU rfl ?_))
 rfl
theorem ba (rec:List UInt8):Sp 143 1 [tD 0 (.s rec)] [tB 0 (iK rec)]:=by
 refine sb Tryz.func143 rfl (sq (rT [0] (s1 (sq (rT [2] (s2 (xp (dU _ _ _) (ai rfl ?_))))))))
 refine s1 (rt (aU rfl ?_))
 rfl
theorem xB (rec:List UInt8) (hrec:rec.length≤900000):Sp 144 1 [tD 0 (.s rec)] [tD 0 (.s (dC rec))]:=by
 have hdl:=bP (k:=5) (n:=rec.length) (by simp;omega)
 refine sb Tryz.func144 rfl (sq (rT [0] (s1 (sq (rT [2] (s2 (xp (uF rec.length (by omega)) (ai rfl ?_))))))))
 refine ai (by show _≤9223372036854775807;(try simp only[aVt,aVw,aVx]);omega) (s1 (ai (by show _≤9223372036854775807;(try simp only[aVt,aVw,aVx]);omega) (ai (by show _≤9223372036854775807;(try simp only[aVt,aVw,aVx]);omega) (s1 (rt (aU rfl ?_))))))
 rfl
theorem xC (rec:List UInt8) (hrec:rec.length≤900000):Sp 147 1 [tD 0 (.s rec)] [tD 0 (.s (dC rec))]:=by
 have hdl:=bP (k:=5) (n:=rec.length) (by simp;omega)
 refine sb Tryz.func147 rfl (sq (rT [0] (s1 (sq (rT [2] (s2 (xp (cn rec.length (by omega)) (ai rfl ?_))))))))
 refine ai (by show _≤9223372036854775807;(try simp only[aVt,aVw,aVx]);omega) (s1 (ai (by show _≤9223372036854775807;(try simp only[aVt,aVw,aVx]);omega) (ai (by show _≤9223372036854775807;(try simp only[aVt,aVw,aVx]);omega) (s1 (rt (aU rfl ?_))))))
 rfl
theorem pA (l:List UInt8) (f:Int) (rec:List UInt8) (hl:l.length≤140737488355328) (hrec:rec.length≤900000):Sp 164 2 [tV 0 (.e (.agg [.d (.s l),.d (.i f)])),tD 1 (.s rec)] [tV 0 (.tup [.agg [.d (.s (bR l f rec).1.1),.d (.i (bR l f rec).1.2)],.c (.d (.b (bR l f rec).2))])]:=by
 refine sb Tryz.func164 rfl (sq (rT [1,2,4] (s3 (sq (sq (rT [1,2,4,8] (s1 (xp (qY l f hl) (ai rfl ?_)))))))))
 refine s1 (cd rfl (fun c8=> ?_) fun c8=> ?_)
 · have hr:bR l f rec=(([],0),false):=ke (by simpa using c8)
   refine sq (rT [4,5] (s3 (rt (bI rfl rfl ?_))))
   rw[hr]
   rfl
 have hok:dN l f=true:=by simpa using c8
 have hl2:=(kH hok).1
 have hst:=sS hrec
 refine sk (sq (sq (rD [1,2,4,22] (s1 (xp (lb rec) (ai rfl ?_))))))
 refine s2 (y4 (xc (fun h=>(xC rec hrec)) (ai rfl (ai rk ?_))))
 refine y3 (ai pk (ai (by kernel_rfl) (cd rfl (fun c22=> ?_) fun c22=> ?_)))
 · have hr:bR l f rec=((l,f),false):=wB hok (fun h9=>by have:=(kh c22 hl2 (by omega)).1 h9;cases this)
   refine sq (rT [4,5] (s3 (rt (bI rfl rfl ?_))))
   rw[hr]
   rfl
 have hr:bR l f rec=((l++dC rec,f),true):=qR hok ((kh c22 hl2 (by omega)).2 rfl)
 refine sk (sq (rD [4,5] (s3 (xp (xC rec hrec) (ai rfl ?_)))))
 refine ai (by show _≤9223372036854775807;(try simp only[aVt,aVw,aVx]);omega) (s5 (ai (by kernel_rfl) (rt (bI rfl rfl ?_))))
 rw[hr]
 rfl
theorem bb (l:List UInt8) (f:Int) (rec:List UInt8) (hl:l.length≤140737488355328) (hrec:rec.length≤900000):Sp 150 2 [tV 0 (.e (.agg [.d (.s l),.d (.i f)])),tD 1 (.s rec)] [tV 0 (.tup [.agg [.d (.s (bR l f rec).1.1),.d (.i (bR l f rec).1.2)],.c (.d (.b (bR l f rec).2))])]:=by
 refine sb Tryz.func150 rfl (sq (rT [1,2,4] (s3 (sq (sq (rT [1,2,4,8] (s1 (xp (qZ l f hl) (ai rfl ?_)))))))))
 refine s1 (cd rfl (fun c8=> ?_) fun c8=> ?_)
 · have hr:bR l f rec=(([],0),false):=ke (by simpa using c8)
   refine sq (rT [4,5] (s3 (rt (bI rfl rfl ?_))))
   rw[hr]
   rfl
 have hok:dN l f=true:=by simpa using c8
 have hl2:=(kH hok).1
 have hst:=sS hrec
 refine sk (sq (sq (rD [1,2,4,22] (s1 (xp (ba rec) (ai rfl ?_))))))
 refine s2 (y4 (xc (fun h=>(xB rec hrec)) (ai rfl (ai rk ?_))))
 refine y3 (ai pk (ai (by kernel_rfl) (cd rfl (fun c22=> ?_) fun c22=> ?_)))
 · have hr:bR l f rec=((l,f),false):=wB hok (fun h9=>by have:=(kh c22 hl2 (by omega)).1 h9;cases this)
   refine sq (rT [4,5] (s3 (rt (bI rfl rfl ?_))))
   rw[hr]
   rfl
 have hr:bR l f rec=((l++dC rec,f),true):=qR hok ((kh c22 hl2 (by omega)).2 rfl)
 refine sk (sq (rD [4,5] (s3 (xp (xB rec hrec) (ai rfl ?_)))))
 refine ai (by show _≤9223372036854775807;(try simp only[aVt,aVw,aVx]);omega) (s5 (ai (by kernel_rfl) (rt (bI rfl rfl ?_))))
 rw[hr]
 rfl
theorem np (l:List UInt8) (f:Int) (recs:List (List UInt8)) (hl:l.length≤140737488355328) (hn:recs.length≤900000) (hrec: ∀r∈recs,r.length≤900000):Sp 84 2 [tV 0 (.e (.agg [.d (.s l),.d (.i f)])),tD 1 (.sl (aY recs))] [tV 0 (.tup [.agg [.d (.s (eL l f recs).1.1),.d (.i (eL l f recs).1.2)],.c (.d (.b (eL l f recs).2))])]:=by
 refine sb Tryz.func84 rfl (sq (rT [1,2,4] (s3 (sq (sq (rT [1,2,4,10] (s1 (xp (qZ l f hl) (ai rfl ?_)))))))))
 refine s1 (cd rfl (fun c10=> ?_) fun c10=> ?_)
 · have hr:eL l f recs=(([],0),false):=ez (by simpa using c10)
   refine sq (rT [4,5] (s3 (rt (bI rfl rfl ?_))))
   rw[hr]
   rfl
 have hok:dN l f=true:=by simpa using c10
 refine sk (sq (rT [1,2,4,6] (s1 (sq (sq (rT [1,2,4,6,7] (s1 (bk (SW.loopW (n:=recs.length) (fun m q=> ∃i:Nat,m=recs.length - i∧i≤recs.length∧(∀k,k<i→iK (recs.getD k [])=true)∧q=[tP 2 2,tP 4 4,tD 1 (.sl (aY recs)),tD 6 (.s (cO (recs.take (i)))),tI 7 (i:Nat),oB 2 28 [.d (.s l),.d (.i f)],oB 4 28 [.d (.s []),.d (.i 0)]]) ?_ ?_)))))))))
 · refine wq (σ':=[tP 2 2,tP 4 4,tD 1 (.sl (aY recs)),tD 6 (.s (cO (recs.take (0)))),tI 7 (0:Nat),oB 2 28 [.d (.s l),.d (.i f)],oB 4 28 [.d (.s []),.d (.i 0)]]) [] [] (⟨0,rfl,aVv _,fun k h=>absurd h (by omega),rfl⟩) ?_
   repeat' apply ai
   all_goals first|exact qx|rfl|exact qz
 rintro n s ⟨i,rfl,hi,hk,rfl⟩
 refine sq (sq (rT [1,2,4,6,7,15] (s4 (cd rfl (fun c15=> ?_) fun c15=> ?_))))
 · have hi2:i<recs.length:=by simpa[aJ] using c15
   have hg:=eN (l:=recs) hi2
   have hmem: (recs.getD i [])∈recs:=cM hi2
   have hrq:=hrec _ hmem
   have hpt:=kf hi2
   have hple:=uy recs i
   have hps:=wU hrec
   have hsl:=sS hrq
   refine sk (sq (bk (sq (sq (rT [1,2,4,6,7,23] (s2 (ai (by rw[aVr,hg];exact⟨⟨by omega,by rw[aJ];omega⟩,rfl⟩) (ai (by rw[aVr,hg];exact⟨aVs rfl,rfl⟩) (xp (ba (recs.getD i [])) (ai (by rw[aVr,hg];rfl) ?_))))))))))
   refine s1 (cd rfl (fun c23=> ?_) fun c23=> ?_)
   · have hs:iK (recs.getD i [])=false:=by
      simpa using c23
     have hr:eL l f recs=((l,f),false):=uC hok (fun h9=>aE3 hi2 hs h9.1)
     refine sq (rT [4,5] (s3 (rt (bI rfl rfl ?_))))
     rw[hr]
     rfl
   refine sk (rT [1,2,4,6,7] (s3 (ai (by rw[aVr,hg];exact⟨⟨by omega,by rw[aJ];omega⟩,rfl⟩) (ai (by rw[aVr,hg];exact⟨aVs rfl,rfl⟩) (xp (xB (recs.getD i []) hrq) (ai (by rw[aVr,hg];rfl) ?_))))))
   refine ai (by show _≤9223372036854775807;(try simp only[aVt,aVw,aVx]);omega) (s1 (rT [1,2,4,6,7] (s3 ?_)))
   have hs:iK (recs.getD i [])=true:=by
    simpa using c23
   refine wq [] [] (⟨recs.length - (i+1),by omega,i+1,rfl,by omega,fun k h=>by by_cases e:k=i;exact e▸hs;exact hk k (by omega),rfl⟩) ?_
   repeat' apply ai
   all_goals first|exact qx|exact aA D.i (by rw[aF (by omega)];omega)|(rw[hpt];done)|(rw[hpt,aVr,hg];rfl)|omega|exact qz
 have hi3:i=recs.length:=by simp[aJ] at c15;omega
 subst hi3
 have hall:=aA7 hk
 rw[aV3]
 refine xt (sq (sq (rT [2,4,6,34] (s3 (cd rfl (fun c34=> ?_) fun c34=> ?_)))))
 · have hr:eL l f recs=((l,f),false):=uC hok (fun h9=>by have h8:=of_decide_eq_true c34;omega)
   refine sq (rT [4,5] (s3 (rt (bI rfl rfl ?_))))
   rw[hr]
   rfl
 have hr:=wT hok ⟨hall,by have h8:=of_decide_eq_false c34;omega⟩
 refine sk (sq (rT [4,5] (s6 (rt (bI rfl rfl ?_)))))
 rw[hr]
 rfl
theorem yB (l:List UInt8) (f:Int) (recs:List (List UInt8)) (hl:l.length≤140737488355328) (hn:recs.length≤900000) (hrec: ∀r∈recs,r.length≤900000):Sp 86 2 [tV 0 (.e (.agg [.d (.s l),.d (.i f)])),tD 1 (.sl (aY recs))] [tV 0 (.tup [.agg [.d (.s (eL l f recs).1.1),.d (.i (eL l f recs).1.2)],.c (.d (.b (eL l f recs).2))])]:=by
 refine sb Tryz.func86 rfl (sq (rT [1,2,4] (s3 (sq (sq (rT [1,2,4,11] (s1 (xp (qY l f hl) (ai rfl ?_)))))))))
 refine s1 (cd rfl (fun c11=> ?_) fun c11=> ?_)
 · have hr:eL l f recs=(([],0),false):=ez (by simpa using c11)
   refine sq (rT [4,5] (s3 (rt (bI rfl rfl ?_))))
   rw[hr]
   rfl
 have hok:dN l f=true:=by simpa using c11
 refine sk (sq (rT [1,2,4,6] (s1 (sq (sq (rT [2,4,6,13,14,15] (s3 (bk (SW.loopW (n:=recs.length) (fun m q=> ∃i:Nat,m=recs.length - i∧i≤recs.length∧(∀k,k<i→iK (recs.getD k [])=true)∧q=[tP 2 2,tP 4 4,tD 6 (.s (cO (recs.take (i)))),tD 13 (.sl (aY recs)),tI 14 (recs.length:Nat),tI 15 (i:Nat),oB 2 28 [.d (.s l),.d (.i f)],oB 4 28 [.d (.s []),.d (.i 0)]]) ?_ ?_)))))))))
 · refine wq (σ':=[tP 2 2,tP 4 4,tD 6 (.s (cO (recs.take (0)))),tD 13 (.sl (aY recs)),tI 14 (recs.length:Nat),tI 15 (0:Nat),oB 2 28 [.d (.s l),.d (.i f)],oB 4 28 [.d (.s []),.d (.i 0)]]) [] [] (⟨0,rfl,aVv _,fun k h=>absurd h (by omega),rfl⟩) ?_
   repeat' apply ai
   all_goals first|exact qx|rfl|(rw[aJ];done)|exact qz
 rintro n s ⟨i,rfl,hi,hk,rfl⟩
 refine sq (rT [2,4,6,13,14,15,16] (s1 (sq (cd rfl (fun c16=> ?_) fun c16=> ?_))))
 · have hi2:i<recs.length:=by simp at c16;omega
   have hg:=eN (l:=recs) hi2
   have hmem: (recs.getD i [])∈recs:=cM hi2
   have hrq:=hrec _ hmem
   have hpt:=kf hi2
   have hple:=uy recs i
   have hps:=wU hrec
   have hsl:=sS hrq
   refine sk (sq (bk (sq (rT [2,4,6,8,13,14,15] (ai (by rw[aVr,hg];exact⟨⟨by omega,by rw[aJ];omega⟩,rfl⟩) (ai (by rw[aVr,hg];exact⟨aVs rfl,rfl⟩) (s1 (sq (sq (wa [tP 2 2,tP 4 4,tD 6 (.s (cO (recs.take i))),tD 8 (.s (recs.getD i [])),tD 13 (.sl (aY recs)),tI 14 (recs.length:Nat),tI 15 (i:Nat),oB 2 28 [.d (.s l),.d (.i f)],oB 4 28 [.d (.s []),.d (.i 0)]] [] [] ?_ ?_))))))))))
   · repeat' apply ai
     all_goals first|exact qx|(rw[aVr,hg];rfl)|exact qz
   refine rT [2,4,6,8,13,14,15,26] (s1 (xp (lb (recs.getD i [])) (ai rfl ?_)))
   refine s2 (y3 (ai pk (cd rfl (fun c26=> ?_) fun c26=> ?_)))
   · have hr:eL l f recs=((l,f),false):=uC hok (fun h9=>by
      rcases aKl c26 with h8|h8
      · exact aE3 hi2 h8 h9.1
      · omega)
     refine sq (rT [4,5] (s3 (rt (bI rfl rfl ?_))))
     rw[hr]
     rfl
   refine sk (rT [2,4,6,13,14,15] (s2 (xp (xC (recs.getD i []) hrq) (ai rfl ?_))))
   refine ai (by show _≤9223372036854775807;(try simp only[aVt,aVw,aVx]);omega) (s1 (rT [2,4,6,13,14,15] (s2 ?_)))
   have hs:iK (recs.getD i [])=true:=(aM6 c26).1
   refine wq [] [] (⟨recs.length - (i+1),by omega,i+1,rfl,by omega,fun k h=>by by_cases e:k=i;exact e▸hs;exact hk k (by omega),rfl⟩) ?_
   repeat' apply ai
   all_goals first|exact qx|exact aA D.i (by rw[aF (by omega)];omega)|(rw[hpt];done)|(rw[hpt,aVr,hg];rfl)|omega|exact qz
 have hi3:i=recs.length:=by simp[aJ] at c16;omega
 subst hi3
 have hall:=aA7 hk
 rw[aV3]
 refine xt (sq (sq (rT [2,4,6,35] (s3 (cd rfl (fun c35=> ?_) fun c35=> ?_)))))
 · have hr:eL l f recs=((l,f),false):=uC hok (fun h9=>by have h8:=of_decide_eq_true c35;omega)
   refine sq (rT [4,5] (s3 (rt (bI rfl rfl ?_))))
   rw[hr]
   rfl
 have hr:=wT hok ⟨hall,by have h8:=of_decide_eq_false c35;omega⟩
 refine sk (sq (rT [4,5] (s6 (rt (bI rfl rfl ?_)))))
 rw[hr]
 rfl
theorem qv (a b c:Int) (h: (0≤a∧a≤1000000)∧(0≤b∧b≤1000000)∧(0≤c∧c≤1000000)):Sp 95 3 [tI 0 a,tI 1 b,tI 2 c] [tD 0 (.s (jA a.toNat++[32]++jA b.toNat++[32]++jA c.toNat))]:=by
 have q1:=bP (k:=6) (n:=a.toNat) (by simp;omega)
 have q2:=bP (k:=6) (n:=b.toNat) (by simp;omega)
 have q3:=bP (k:=6) (n:=c.toNat) (by simp;omega)
 refine sb Tryz.func95 rfl (sq (rT [0,1,2] (s1 (sq (rT [6] (s1 (xp (kU a h.1) (ai rfl ?_))))))))
 refine ai (by show _≤9223372036854775807;(try simp only[aVt,aVw,aVx]);omega) (s1 (xp (kU b h.2.1) (ai rfl ?_)))
 refine ai (by show _≤9223372036854775807;(try simp only[aVt,aVw,aVx]);omega) (ai (by show _≤9223372036854775807;(try simp only[aVt,aVw,aVx]);omega) (s1 (xp (kU c h.2.2) (ai rfl ?_))))
 refine ai (by show _≤9223372036854775807;(try simp only[aVt,aVw,aVx]);omega) (s1 (rt (aU rfl ?_)))
 rfl
theorem yC (w:List UInt8) (a b c:Int) (h: (0≤a∧a≤1000000)∧(0≤b∧b≤1000000)∧(0≤c∧c≤1000000)) (hw:w.length≤900000):Sp 97 4 [tD 0 (.s w),tI 1 a,tI 2 b,tI 3 c] [tD 0 (.s (jE w ⟨a,b,c⟩))]:=by
 have q1:=bP (k:=6) (n:=a.toNat) (by simp;omega)
 have q2:=bP (k:=6) (n:=b.toNat) (by simp;omega)
 have q3:=bP (k:=6) (n:=c.toNat) (by simp;omega)
 refine sb Tryz.func97 rfl (sq (rT [0,1,2,3] (s1 (sq (rT [8] (s1 (ai (by show _≤9223372036854775807;(try simp only[aVt,aVw,aVx]);omega) (s1 (xp (uH a h.1) (ai rfl ?_))))))))))
 refine ai (by show _≤9223372036854775807;(try simp only[aVt,aVw,aVx]);omega) (ai (by show _≤9223372036854775807;(try simp only[aVt,aVw,aVx]);omega) (s1 (xp (uH b h.2.1) (ai rfl ?_))))
 refine ai (by show _≤9223372036854775807;(try simp only[aVt,aVw,aVx]);omega) (ai (by show _≤9223372036854775807;(try simp only[aVt,aVw,aVx]);omega) (s1 (xp (uH c h.2.2) (ai rfl ?_))))
 refine ai (by show _≤9223372036854775807;(try simp only[aVt,aVw,aVx]);omega) (s1 (rt (aU rfl ?_)))
 rfl
theorem wt (k:aT) (hb:k.halves.length≤100000∧ ∀x∈k.halves,x.got.length≤100000):Sp 72 1 [tV 0 k.V] [tV 0 (.e (.agg [.d (.i k.id),.d (.b k.up),.d (.s k.log),.d (.i k.forced),.own 0 k.halves.length])),oR 0 138 6 (aP k.halves)]:=by
 refine sb Tryz.func72 rfl (sq (rT [1,2] (s2 (sq (rT [1,2,3] (s2 (sq (sq (rT [1,2,3,4] (s1 (bk (SW.loopW (n:=k.halves.length) (fun m q=> ∃i:Nat,m=k.halves.length - i∧i≤k.halves.length∧q=[tP 1 1,tP 2 2,tO 3 6 (k.halves.take (i)).length,tI 4 (i:Nat),oB 1 31 [.d (.i (k).id),.d (.b (k).up),.d (.s (k).log),.d (.i (k).forced),.d (.sl (aP (k).halves))],oB 2 31 [.d (.i 0),.d (.b false),.d (.s []),.d (.i 0),.nil],oR 6 138 6 (aP (k.halves.take (i)))]) ?_ ?_))))))))))))
 · refine wq (σ':=[tP 1 1,tP 2 2,tO 3 6 (k.halves.take (0)).length,tI 4 (0:Nat),oB 1 31 [.d (.i (k).id),.d (.b (k).up),.d (.s (k).log),.d (.i (k).forced),.d (.sl (aP (k).halves))],oB 2 31 [.d (.i 0),.d (.b false),.d (.s []),.d (.i 0),.nil],oR 6 138 6 (aP (k.halves.take (0)))]) [] [] (⟨0,rfl,aVv _,rfl⟩) ?_
   repeat' apply ai
   all_goals first|exact qx|rfl|exact qz
 rintro n s ⟨i,rfl,hi,rfl⟩
 refine sq (sq (rT [1,2,3,4,11] (s5 (cd rfl (fun c11=> ?_) fun c11=> ?_))))
 · have hi2:i<k.halves.length:=by simpa[aE] using c11
   have hg:=dG (l:=k.halves) hi2
   have hmem:k.halves.getD i .zero∈k.halves:=cM hi2
   refine sk (sq (bk (sq (rT [1,2,3,4,5] (s3 (ai (by rw[aVr,hg];exact⟨⟨by omega,by rw[aE];omega⟩,rfl⟩) (ai (by rw[aVr,hg];exact⟨aVs rfl,rfl⟩) (s2 (sq (wa [tP 1 1,tP 2 2,tO 3 6 (k.halves.take i).length,tI 4 (i:Nat),tP 5 5,oB 1 31 [.d (.i (k).id),.d (.b (k).up),.d (.s (k).log),.d (.i (k).forced),.d (.sl (aP (k).halves))],oB 2 31 [.d (.i 0),.d (.b false),.d (.s []),.d (.i 0),.nil],oB 5 138 [.d (.i (k.halves.getD i .zero).frm),.d (.i (k.halves.getD i .zero).num),.d (.i (k.halves.getD i .zero).to),.d (.i (k.halves.getD i .zero).til),.d (.i (k.halves.getD i .zero).size),.d (.sl (aR (k.halves.getD i .zero).got))],oR 6 138 6 (aP (k.halves.take i))] [] [] ?_ ?_))))))))))
   · repeat' apply ai
     all_goals first|exact qx|(rw[aVr,hg];rfl)|exact qz
   refine rT [1,2,3,4,5] (ai (by simp) (s2 (ai (by refine⟨trivial,rfl,?_,?_⟩<;>first|exact qO _|(simp only[aK,aVx,Nat.zero_add];have:=hb.2 _ hmem;show _*24≤_;omega)) (s2 (wa [tP 1 1,tP 2 2,tO 3 6 (k.halves.take i).length,tI 4 (i:Nat),tP 5 5,oB 1 31 [.d (.i (k).id),.d (.b (k).up),.d (.s (k).log),.d (.i (k).forced),.d (.sl (aP (k).halves))],oB 2 31 [.d (.i 0),.d (.b false),.d (.s []),.d (.i 0),.nil],oB 5 138 [.d (.i (k.halves.getD i .zero).frm),.d (.i (k.halves.getD i .zero).num),.d (.i (k.halves.getD i .zero).to),.d (.i (k.halves.getD i .zero).til),.d (.i (k.halves.getD i .zero).size),.d (.sl (aR (k.halves.getD i .zero).got))],oR 6 138 6 (aP (k.halves.take i))] [] [19] ?_ ?_)))))
   · repeat' apply ai
     all_goals first|exact qx|(simp[aK];done)|rfl|exact qz
   refine rT [1,2,3,4] (s2 (ai (by exact⟨by simp,aVs rfl⟩) (ai (by exact⟨rfl,aE _,by intro r hr;rw[aWa.1 hr];rfl,by simp only[aVt,aVw,aVx,aE,aV0];show _*64≤_;omega⟩) (s1 (rT [1,2,3,4] (s3 ?_))))))
   have hts:=dH (z:=bB.zero) hi2
   refine wq [] [] (⟨k.halves.length - (i+1),by omega,i+1,rfl,by omega,rfl⟩) ?_
   repeat' apply ai
   all_goals first|exact qx|exact aA D.i (by rw[aF (by omega)];omega)|(rw[hts,aVt];rfl)|(rw[hts];simp only[aP,List.map_append,List.map_cons,List.map_nil];rfl)|(rw[aE];done)|(simp[aE];done)|(simp[aE,aV0];omega)|exact qz
 have hi3:i=k.halves.length:=by simp[aE] at c11;omega
 subst hi3
 refine xt (sq (rT [1,2] (s3 (sq (rT [2] (s2 (rt ?_)))))))
 rw[aV3]
 exact dO _ [(0,6)] [] rfl (dS rfl (aN rfl (aN rfl (aN rfl (aN rfl (dP rfl rfl rfl bG))))) (cJ rfl rfl trivial)) rfl rfl
theorem wu (k:aT) (hb:k.halves.length≤100000∧ ∀x∈k.halves,x.got.length≤100000):Ab.Spec Tryz.prog 72 1 [(.t 0,.v k.V)] [(.t 0,.v k.V)]:=
 Spec.told (rl:=[]) (bor:=[0]) (wt k hb) (dS rfl (aN rfl (aN rfl (aN rfl (aN rfl (nI rfl rfl (aE _) rfl bG))))) trivial) rfl rfl
theorem qw (k:aX) (hk:KB k):Sp 85 1 [tV 0 k.V] [tD 0 (.sl (aY (eA k)))]:=by
 refine sb Tryz.func85 rfl (sq (rT [1] (s2 (sq (rT [1,3] (s2 (sq (sq (rT [1,3,11] (s1 (xp (wW k hk.1 hk.2.1 hk.2.2) (ai rfl ?_))))))))))))
 refine s1 (cd rfl (fun c11=> ?_) fun c11=> ?_)
 · have hno: ¬cP k=true:=by simpa using c11
   refine sq (rT [2] (s2 (rt (dO _ [] [8] rfl (dD rfl rfl rfl ?_ (aA D.sl ?_) trivial) rfl rfl))))
   · rfl
   rw[cg hno];rfl
 have hok:cP k=true:=by simpa using c11
 have h6:=eR hok
 obtain⟨⟨_,ht,hn,_,_,_⟩,_⟩:=(cG k).1 hok
 have q1:=bP (k:=6) (n:=k.time.toNat) (by simp;omega)
 have q2:=bP (k:=6) (n:=k.next.toNat) (by simp;omega)
 have hnl:=vh k
 refine sk (SW.midW (fun q=>q=[tP 1 1,tO 3 8 (vG k).length,oB 1 44 [.d (.i k.id),.d (.i k.time),.d (.i k.next),.d (.sl (aH k.held)),.d (.sl (aM k.marks)),.d (.sl (aH k.inbox))],oR 8 9 1 (aY (vG k))]) ?_ ?_)
 · refine sq (rT [1,3,15] (s3 (cd rfl (fun c15=> ?_) fun c15=> ?_)))
   · have hq:=aA8 (of_decide_eq_true c15)
     refine rT [1,3] (s3 (xp (kU k.time (by omega)) (ai rfl ?_)))
     refine ai (by show _≤9223372036854775807;(try simp only[aVt,aVw,aVx]);omega) (s1 (ai (by exact⟨rfl,rfl,by simp,by show(0+1)*16≤_;omega⟩) (s1 (wq [] [] (rfl) ?_))))
     repeat' apply ai
     all_goals first|exact qx|exact aA D.i (by rw[aF (by omega)];omega)|(rw[hq];done)|(rw[hq];rfl)|(rw[hq,aVt];rfl)|(rw[hq,aVt];done)|(rw[hq];simp[aJ];done)|(rw[hq];exact eU _ _)|(rw[aJ];done)|(simp[aJ];done)|exact qz
   have hq:=aE4 (of_decide_eq_false c15)
   refine sk (wq [] [] (rfl) ?_)
   repeat' apply ai
   all_goals first|exact qx|exact aA D.i (by rw[aF (by omega)];omega)|(rw[hq];done)|(rw[hq];rfl)|(rw[hq,aVt];rfl)|(rw[hq,aVt];done)|(rw[hq];simp[aJ];done)|(rw[hq];exact eU _ _)|(rw[aJ];done)|(simp[aJ];done)|exact qz
 rintro s rfl
 refine SW.midW (fun q=>q=[tP 1 1,tO 3 8 (xW k).length,oB 1 44 [.d (.i k.id),.d (.i k.time),.d (.i k.next),.d (.sl (aH k.held)),.d (.sl (aM k.marks)),.d (.sl (aH k.inbox))],oR 8 9 1 (aY (xW k))]) ?_ ?_
 · refine sq (rT [1,3,25] (s3 (cd rfl (fun c25=> ?_) fun c25=> ?_)))
   · have hq:=aA9 (of_decide_eq_true c25)
     have hnl2: (vG k).length≤1:=by unfold vG;split<;>simp
     refine rT [1,3] (s3 (xp (kU k.next (by omega)) (ai rfl ?_)))
     refine ai (by show _≤9223372036854775807;(try simp only[aVt,aVw,aVx]);omega) (s1 (ai (by refine⟨rfl,aJ _,by simp,?_⟩;skip;show(_+1)*16≤_;omega) (s1 (wq [] [] (rfl) ?_))))
     repeat' apply ai
     all_goals first|exact qx|exact aA D.i (by rw[aF (by omega)];omega)|(rw[hq];done)|(rw[hq];rfl)|(rw[hq,aVt];rfl)|(rw[hq,aVt];done)|(rw[hq];simp[aJ];done)|(rw[hq];exact eU _ _)|(rw[aJ];done)|(simp[aJ];done)|exact qz
   have hq:=aE5 (of_decide_eq_false c25)
   refine sk (wq [] [] (rfl) ?_)
   repeat' apply ai
   all_goals first|exact qx|exact aA D.i (by rw[aF (by omega)];omega)|(rw[hq];done)|(rw[hq];rfl)|(rw[hq,aVt];rfl)|(rw[hq,aVt];done)|(rw[hq];simp[aJ];done)|(rw[hq];exact eU _ _)|(rw[aJ];done)|(simp[aJ];done)|exact qz
 rintro s rfl
 refine sq (sq (rT [1,3,4] (s1 (bk (SW.loopW (n:=k.marks.length) (fun m q=> ∃i:Nat,m=k.marks.length - i∧i≤k.marks.length∧q=[tP 1 1,tO 3 8 (nY k (i)).length,tI 4 (i:Nat),oB 1 44 [.d (.i k.id),.d (.i k.time),.d (.i k.next),.d (.sl (aH k.held)),.d (.sl (aM k.marks)),.d (.sl (aH k.inbox))],oR 8 9 1 (aY (nY k (i)))]) ?_ ?_)))))
 · refine wq (σ':=[tP 1 1,tO 3 8 (nY k (0)).length,tI 4 (0:Nat),oB 1 44 [.d (.i k.id),.d (.i k.time),.d (.i k.next),.d (.sl (aH k.held)),.d (.sl (aM k.marks)),.d (.sl (aH k.inbox))],oR 8 9 1 (aY (nY k (0)))]) [] [] (⟨0,rfl,aVv _,rfl⟩) ?_
   repeat' apply ai
   all_goals first|exact qx|rfl|(rw[uz];done)|(rw[aI];done)|(rw[aG];done)|exact qz
 rintro n s ⟨i,rfl,hi,rfl⟩
 refine sq (sq (rT [1,3,4,37] (s5 (cd rfl (fun c37=> ?_) fun c37=> ?_))))
 · have hi2:i<k.marks.length:=by simp[aI] at c37;omega
   have hg:=bQ (l:=k.marks) hi2
   have hms:=vk hok hi2
   have hml:=vi k i
   have w1:=bP (k:=6) (n:=(k.marks.getD i .zero).frm.toNat) (by show _<10000000;omega)
   have w2:=bP (k:=6) (n:=(k.marks.getD i .zero).num.toNat) (by show _<10000000;omega)
   have w3:=bP (k:=6) (n:=(k.marks.getD i .zero).til.toNat) (by show _<10000000;omega)
   refine sk (sq (bk (sq (rT [1,3,4,5] (s3 (ai (by rw[aVr,hg];exact⟨⟨by omega,by rw[aI];omega⟩,rfl⟩) (ai (by rw[aVr,hg];exact⟨aVs rfl,rfl⟩) (s2 (wa [tP 1 1,tO 3 8 (nY k i).length,tI 4 (i:Nat),tP 5 5,oB 1 44 [.d (.i k.id),.d (.i k.time),.d (.i k.next),.d (.sl (aH k.held)),.d (.sl (aM k.marks)),.d (.sl (aH k.inbox))],oB 5 162 [.d (.i ((k.marks.getD i .zero)).frm),.d (.i ((k.marks.getD i .zero)).num),.d (.i ((k.marks.getD i .zero)).til)],oR 8 9 1 (aY (nY k i))] [] [] ?_ ?_)))))))))
   · repeat' apply ai
     all_goals first|exact qx|(rw[aVr,hg];rfl)|exact qz
   refine rD [1,3,4] (s3 (xp (kU (k.marks.getD i .zero).frm (by omega)) (ai rfl ?_)))
   refine ai (by show _≤9223372036854775807;(try simp only[aVt,aVw,aVx]);omega) (ai (by show _≤9223372036854775807;(try simp only[aVt,aVw,aVx]);omega) (s2 (xp (kU (k.marks.getD i .zero).num (by omega)) (ai rfl ?_))))
   refine ai (by show _≤9223372036854775807;(try simp only[aVt,aVw,aVx]);omega) (ai (by show _≤9223372036854775807;(try simp only[aVt,aVw,aVx]);omega) (s2 (xp (kU (k.marks.getD i .zero).til (by omega)) (ai rfl ?_))))
   refine ai (by show _≤9223372036854775807;(try simp only[aVt,aVw,aVx]);omega) (s1 (ai (by refine⟨rfl,aJ _,by simp,?_⟩;skip;show(_+1)*16≤_;omega) (s1 (ai (by kernel_rfl) (rT [1,3,4] (s3 ?_))))))
   have hq:=ve hi2
   refine wq [] [] (⟨k.marks.length - (i+1),by omega,i+1,rfl,by omega,rfl⟩) ?_
   repeat' apply ai
   all_goals first|exact qx|exact aA D.i (by rw[aF (by omega)];omega)|(rw[hq];done)|(rw[hq];rfl)|(rw[hq,aVt];rfl)|(rw[hq,aVt];done)|(rw[hq];simp[aJ];done)|(rw[hq];exact eU _ _)|(rw[aJ];done)|(simp[aJ];done)|exact qz
 have hi3:i=k.marks.length:=by simp[aI] at c37;omega
 subst hi3
 clear hi
 refine xt (sq (sq (rT [1,3,6] (s1 (bk (SW.loopW (n:=k.held.length) (fun m q=> ∃i:Nat,m=k.held.length - i∧i≤k.held.length∧q=[tP 1 1,tO 3 8 (pO k (i)).length,tI 6 (i:Nat),oB 1 44 [.d (.i k.id),.d (.i k.time),.d (.i k.next),.d (.sl (aH k.held)),.d (.sl (aM k.marks)),.d (.sl (aH k.inbox))],oR 8 9 1 (aY (pO k (i)))]) ?_ ?_))))))
 · refine wq (σ':=[tP 1 1,tO 3 8 (pO k (0)).length,tI 6 (0:Nat),oB 1 44 [.d (.i k.id),.d (.i k.time),.d (.i k.next),.d (.sl (aH k.held)),.d (.sl (aM k.marks)),.d (.sl (aH k.inbox))],oR 8 9 1 (aY (pO k (0)))]) [] [] (⟨0,rfl,aVv _,rfl⟩) ?_
   repeat' apply ai
   all_goals first|exact qx|rfl|(rw[vb];done)|(rw[aI];done)|(rw[aG];done)|exact qz
 rintro n s ⟨i,rfl,hi,rfl⟩
 refine sq (sq (rT [1,3,6,66] (s5 (cd rfl (fun c66=> ?_) fun c66=> ?_))))
 · have hi2:i<k.held.length:=by simp[aG] at c66;omega
   have hg:=aV (l:=k.held) hi2
   have hmem: (k.held.getD i .zero)∈k.held:=cM hi2
   have hnt:=hk.2.1 _ hmem
   have hwl:=pG (k.held.getD i .zero)
   have hml:=vj k i
   refine sk (sq (bk (rT [1,3,6] (s4 (ai (by rw[aVr,hg];exact⟨⟨by omega,by rw[aG];omega⟩,rfl⟩) (ai (by rw[aVr,hg];exact⟨aVs rfl,rfl⟩) (xp (nT (k.held.getD i .zero) hnt) (ai (by rw[aVr,hg];rfl) ?_))))))))
   refine ai (by show _≤9223372036854775807;(try simp only[aVt,aVw,aVx]);omega) (s1 (ai (by refine⟨rfl,aJ _,by simp,?_⟩;skip;show(_+1)*16≤_;omega) (s1 (rT [1,3,6] (s3 ?_)))))
   have hq:=vf hi2
   refine wq [] [] (⟨k.held.length - (i+1),by omega,i+1,rfl,by omega,rfl⟩) ?_
   repeat' apply ai
   all_goals first|exact qx|exact aA D.i (by rw[aF (by omega)];omega)|(rw[hq];done)|(rw[hq];rfl)|(rw[hq,aVt];rfl)|(rw[hq,aVt];done)|(rw[hq];simp[aJ];done)|(rw[hq];exact eU _ _)|(rw[aJ];done)|(simp[aJ];done)|exact qz
 have hi3:i=k.held.length:=by simp[aG] at c66;omega
 subst hi3
 clear hi
 refine xt (sq (sq (rT [1,3,7] (s1 (bk (SW.loopW (n:=k.inbox.length) (fun m q=> ∃i:Nat,m=k.inbox.length - i∧i≤k.inbox.length∧q=[tP 1 1,tO 3 8 (nZ k (i)).length,tI 7 (i:Nat),oB 1 44 [.d (.i k.id),.d (.i k.time),.d (.i k.next),.d (.sl (aH k.held)),.d (.sl (aM k.marks)),.d (.sl (aH k.inbox))],oR 8 9 1 (aY (nZ k (i)))]) ?_ ?_))))))
 · refine wq (σ':=[tP 1 1,tO 3 8 (nZ k (0)).length,tI 7 (0:Nat),oB 1 44 [.d (.i k.id),.d (.i k.time),.d (.i k.next),.d (.sl (aH k.held)),.d (.sl (aM k.marks)),.d (.sl (aH k.inbox))],oR 8 9 1 (aY (nZ k (0)))]) [] [] (⟨0,rfl,aVv _,rfl⟩) ?_
   repeat' apply ai
   all_goals first|exact qx|rfl|(rw[vd];done)|(rw[aI];done)|(rw[aG];done)|exact qz
 rintro n s ⟨i,rfl,hi,rfl⟩
 refine sq (sq (rT [1,3,7,83] (s5 (cd rfl (fun c83=> ?_) fun c83=> ?_))))
 · have hi2:i<k.inbox.length:=by simp[aG] at c83;omega
   have hg:=aV (l:=k.inbox) hi2
   have hmem: (k.inbox.getD i .zero)∈k.inbox:=cM hi2
   have hnt:=hk.2.2 _ hmem
   have hwl:=pG (k.inbox.getD i .zero)
   have hml:=ki k i
   refine sk (sq (bk (rT [1,3,7] (s4 (ai (by rw[aVr,hg];exact⟨⟨by omega,by rw[aG];omega⟩,rfl⟩) (ai (by rw[aVr,hg];exact⟨aVs rfl,rfl⟩) (xp (nT (k.inbox.getD i .zero) hnt) (ai (by rw[aVr,hg];rfl) ?_))))))))
   refine ai (by show _≤9223372036854775807;(try simp only[aVt,aVw,aVx]);omega) (s1 (ai (by refine⟨rfl,aJ _,by simp,?_⟩;skip;show(_+1)*16≤_;omega) (s1 (rT [1,3,7] (s3 ?_)))))
   have hq:=vg hi2
   refine wq [] [] (⟨k.inbox.length - (i+1),by omega,i+1,rfl,by omega,rfl⟩) ?_
   repeat' apply ai
   all_goals first|exact qx|exact aA D.i (by rw[aF (by omega)];omega)|(rw[hq];done)|(rw[hq];rfl)|(rw[hq,aVt];rfl)|(rw[hq,aVt];done)|(rw[hq];simp[aJ];done)|(rw[hq];exact eU _ _)|(rw[aJ];done)|(simp[aJ];done)|exact qz
 have hi3:i=k.inbox.length:=by simp[aG] at c83;omega
 subst hi3
 clear hi
 refine xt (sq (rT [2] (s2 (rt (dO _ [] [8] rfl (dD rfl rfl rfl ?_ (aA D.sl ?_) trivial) rfl rfl)))))
 · exact aJ _
 rw[zQ hok]
theorem bc (k:aX) (hk:KB k):Sp 87 1 [tV 0 k.V] [tD 0 (.sl (aY (eA k)))]:=by
 refine sb Tryz.func87 rfl (sq (rT [1] (s2 (sq (sq (rT [1,12] (s1 (xp (oN k hk.2.1 hk.2.2) (ai rfl ?_)))))))))
 refine s1 (cd rfl (fun c12=> ?_) fun c12=> ?_)
 · have hno: ¬cP k=true:=by simpa using c12
   refine sq (rT [2] (s1 (rt (dO _ [] [] rfl (bw rfl (aA D.sl ?_) trivial) rfl rfl))))
   rw[cg hno];rfl
 have hok:cP k=true:=by simpa using c12
 have h6:=eR hok
 obtain⟨⟨_,ht,hn,_,_,_⟩,_⟩:=(cG k).1 hok
 have q1:=bP (k:=6) (n:=k.time.toNat) (by simp;omega)
 have q2:=bP (k:=6) (n:=k.next.toNat) (by simp;omega)
 have hnl:=vh k
 refine sk (sq (rT [1,3] (s1 (SW.midW (fun q=>q=[tP 1 1,tO 3 100 (vG k).length,oB 1 44 [.d (.i k.id),.d (.i k.time),.d (.i k.next),.d (.sl (aH k.held)),.d (.sl (aM k.marks)),.d (.sl (aH k.inbox))],oR 100 9 1 (aY (vG k))]) ?_ ?_))))
 · refine sq (SW.nilOwn 3 100 9 1 rfl rfl (rT [1,3,15] (s3 (cd rfl (fun c15=> ?_) fun c15=> ?_))))
   · have hq:=aA8 (of_decide_eq_true c15)
     refine rT [1,3] (s3 (xp (uH k.time (by omega)) (ai rfl ?_)))
     refine ai (by show _≤9223372036854775807;(try simp only[aVt,aVw,aVx]);omega) (s1 (ai (by exact⟨rfl,rfl,by simp,by show(0+1)*16≤_;omega⟩) (s1 (wq [] [] (rfl) ?_))))
     repeat' apply ai
     all_goals first|exact qx|exact aA D.i (by rw[aF (by omega)];omega)|(rw[hq];done)|(rw[hq];rfl)|(rw[hq,aVt];rfl)|(rw[hq,aVt];done)|(rw[hq];simp[aJ];done)|(rw[hq];exact eU _ _)|(rw[aJ];done)|(simp[aJ];done)|exact qz
   have hq:=aE4 (of_decide_eq_false c15)
   refine sk (wq [] [] (rfl) ?_)
   repeat' apply ai
   all_goals first|exact qx|exact aA D.i (by rw[aF (by omega)];omega)|(rw[hq];done)|(rw[hq];rfl)|(rw[hq,aVt];rfl)|(rw[hq,aVt];done)|(rw[hq];simp[aJ];done)|(rw[hq];exact eU _ _)|(rw[aJ];done)|(simp[aJ];done)|exact qz
 rintro s rfl
 refine SW.midW (fun q=>q=[tP 1 1,tO 3 100 (xW k).length,oB 1 44 [.d (.i k.id),.d (.i k.time),.d (.i k.next),.d (.sl (aH k.held)),.d (.sl (aM k.marks)),.d (.sl (aH k.inbox))],oR 100 9 1 (aY (xW k))]) ?_ ?_
 · refine sq (rT [1,3,25] (s3 (cd rfl (fun c25=> ?_) fun c25=> ?_)))
   · have hq:=aA9 (of_decide_eq_true c25)
     have hnl2: (vG k).length≤1:=by unfold vG;split<;>simp
     refine rT [1,3] (s3 (xp (uH k.next (by omega)) (ai rfl ?_)))
     refine ai (by show _≤9223372036854775807;(try simp only[aVt,aVw,aVx]);omega) (s1 (ai (by refine⟨rfl,aJ _,by simp,?_⟩;skip;show(_+1)*16≤_;omega) (s1 (wq [] [] (rfl) ?_))))
     repeat' apply ai
     all_goals first|exact qx|exact aA D.i (by rw[aF (by omega)];omega)|(rw[hq];done)|(rw[hq];rfl)|(rw[hq,aVt];rfl)|(rw[hq,aVt];done)|(rw[hq];simp[aJ];done)|(rw[hq];exact eU _ _)|(rw[aJ];done)|(simp[aJ];done)|exact qz
   have hq:=aE5 (of_decide_eq_false c25)
   refine sk (wq [] [] (rfl) ?_)
   repeat' apply ai
   all_goals first|exact qx|exact aA D.i (by rw[aF (by omega)];omega)|(rw[hq];done)|(rw[hq];rfl)|(rw[hq,aVt];rfl)|(rw[hq,aVt];done)|(rw[hq];simp[aJ];done)|(rw[hq];exact eU _ _)|(rw[aJ];done)|(simp[aJ];done)|exact qz
 rintro s rfl
 refine sq (sq (rT [1,3,34,35,36] (s4 (bk (SW.loopW (n:=k.marks.length) (fun m q=> ∃i:Nat,m=k.marks.length - i∧i≤k.marks.length∧q=[tP 1 1,tO 3 100 (nY k (i)).length,tD 34 (.sl (aM k.marks)),tI 35 (k.marks.length:Nat),tI 36 (i:Nat),oB 1 44 [.d (.i k.id),.d (.i k.time),.d (.i k.next),.d (.sl (aH k.held)),.d (.sl (aM k.marks)),.d (.sl (aH k.inbox))],oR 100 9 1 (aY (nY k (i)))]) ?_ ?_)))))
 · refine wq (σ':=[tP 1 1,tO 3 100 (nY k (0)).length,tD 34 (.sl (aM k.marks)),tI 35 (k.marks.length:Nat),tI 36 (0:Nat),oB 1 44 [.d (.i k.id),.d (.i k.time),.d (.i k.next),.d (.sl (aH k.held)),.d (.sl (aM k.marks)),.d (.sl (aH k.inbox))],oR 100 9 1 (aY (nY k (0)))]) [] [] (⟨0,rfl,aVv _,rfl⟩) ?_
   repeat' apply ai
   all_goals first|exact qx|rfl|(rw[uz];done)|(rw[aI];done)|(rw[aG];done)|exact qz
 rintro n s ⟨i,rfl,hi,rfl⟩
 refine sq (rT [1,3,34,35,36,37] (s1 (sq (cd rfl (fun c37=> ?_) fun c37=> ?_))))
 · have hi2:i<k.marks.length:=by simp[aI] at c37;omega
   have hg:=bQ (l:=k.marks) hi2
   have hms:=vk hok hi2
   have hml:=vi k i
   have w1:=bP (k:=6) (n:=(k.marks.getD i .zero).frm.toNat) (by show _<10000000;omega)
   have w2:=bP (k:=6) (n:=(k.marks.getD i .zero).num.toNat) (by show _<10000000;omega)
   have w3:=bP (k:=6) (n:=(k.marks.getD i .zero).til.toNat) (by show _<10000000;omega)
   refine sk (sq (bk (sq (rT [1,3,5,34,35,36] (ai (by rw[aVr,hg];exact⟨⟨by omega,by rw[aI];omega⟩,rfl⟩) (ai (by rw[aVr,hg];exact⟨aVs rfl,rfl⟩) (s2 (wa [tP 1 1,tO 3 100 (nY k (i)).length,tD 34 (.sl (aM k.marks)),tI 35 (k.marks.length:Nat),tI 36 (i:Nat),tP 5 5,oB 1 44 [.d (.i k.id),.d (.i k.time),.d (.i k.next),.d (.sl (aH k.held)),.d (.sl (aM k.marks)),.d (.sl (aH k.inbox))],oB 5 162 [.d (.i ((k.marks.getD i .zero)).frm),.d (.i ((k.marks.getD i .zero)).num),.d (.i ((k.marks.getD i .zero)).til)],oR 100 9 1 (aY (nY k (i)))] [] [] ?_ ?_))))))))
   · repeat' apply ai
     all_goals first|exact qx|(rw[aVr,hg];rfl)|exact qz
   refine rT [1,3,34,35,36] (s7 (xp (yC gK (k.marks.getD i .zero).frm (k.marks.getD i .zero).num (k.marks.getD i .zero).til (by omega) (by decide)) (ai rfl ?_)))
   refine s1 (ai (by refine⟨rfl,aJ _,by simp,?_⟩;skip;show(_+1)*16≤_;omega) (s1 (rT [1,3,34,35,36] (s2 ?_))))
   have hq:=ve hi2
   refine wq [] [] (⟨k.marks.length - (i+1),by omega,i+1,rfl,by omega,rfl⟩) ?_
   repeat' apply ai
   all_goals first|exact qx|exact aA D.i (by rw[aF (by omega)];omega)|(rw[hq];done)|(rw[hq];rfl)|(rw[hq,aVt];rfl)|(rw[hq,aVt];done)|(rw[hq];simp[aJ];done)|(rw[hq];exact eU _ _)|(rw[aJ];done)|(simp[aJ];done)|exact qz
 have hi3:i=k.marks.length:=by simp[aI] at c37;omega
 subst hi3
 clear hi
 refine xt (sq (sq (rT [1,3,52,53,54] (s4 (bk (SW.loopW (n:=k.held.length) (fun m q=> ∃i:Nat,m=k.held.length - i∧i≤k.held.length∧q=[tP 1 1,tO 3 100 (pO k (i)).length,tD 52 (.sl (aH k.held)),tI 53 (k.held.length:Nat),tI 54 (i:Nat),oB 1 44 [.d (.i k.id),.d (.i k.time),.d (.i k.next),.d (.sl (aH k.held)),.d (.sl (aM k.marks)),.d (.sl (aH k.inbox))],oR 100 9 1 (aY (pO k (i)))]) ?_ ?_))))))
 · refine wq (σ':=[tP 1 1,tO 3 100 (pO k (0)).length,tD 52 (.sl (aH k.held)),tI 53 (k.held.length:Nat),tI 54 (0:Nat),oB 1 44 [.d (.i k.id),.d (.i k.time),.d (.i k.next),.d (.sl (aH k.held)),.d (.sl (aM k.marks)),.d (.sl (aH k.inbox))],oR 100 9 1 (aY (pO k (0)))]) [] [] (⟨0,rfl,aVv _,rfl⟩) ?_
   repeat' apply ai
   all_goals first|exact qx|rfl|(rw[vb];done)|(rw[aI];done)|(rw[aG];done)|exact qz
 rintro n s ⟨i,rfl,hi,rfl⟩
 refine sq (rT [1,3,52,53,54,55] (s1 (sq (cd rfl (fun c55=> ?_) fun c55=> ?_))))
 · have hi2:i<k.held.length:=by simp[aG] at c55;omega
   have hg:=aV (l:=k.held) hi2
   have hmem: (k.held.getD i .zero)∈k.held:=cM hi2
   have hnt:=hk.2.1 _ hmem
   have hwl:=pG (k.held.getD i .zero)
   have hml:=vj k i
   refine sk (sq (bk (sq (rT [1,3,7,52,53,54] (ai (by rw[aVr,hg];exact⟨⟨by omega,by rw[aG];omega⟩,rfl⟩) (ai (by rw[aVr,hg];exact⟨aVs rfl,rfl⟩) (s2 (wa [tP 1 1,tO 3 100 (pO k (i)).length,tD 52 (.sl (aH k.held)),tI 53 (k.held.length:Nat),tI 54 (i:Nat),tP 7 7,oB 1 44 [.d (.i k.id),.d (.i k.time),.d (.i k.next),.d (.sl (aH k.held)),.d (.sl (aM k.marks)),.d (.sl (aH k.inbox))],oB 7 52 [.d (.i ((k.held.getD i .zero)).frm),.d (.i ((k.held.getD i .zero)).num),.d (.i ((k.held.getD i .zero)).to),.d (.i ((k.held.getD i .zero)).til),.d (.s ((k.held.getD i .zero)).text)],oR 100 9 1 (aY (pO k (i)))] [] [] ?_ ?_))))))))
   · repeat' apply ai
     all_goals first|exact qx|(rw[aVr,hg];rfl)|exact qz
   refine rT [1,3,52,53,54] (s2 (xp (nS (k.held.getD i .zero) hnt) (ai rfl ?_)))
   refine ai (by show _≤9223372036854775807;(try simp only[aVt,aVw,aVx]);omega) (s1 (ai (by refine⟨rfl,aJ _,by simp,?_⟩;skip;show(_+1)*16≤_;omega) (s1 (rT [1,3,52,53,54] (s2 ?_)))))
   have hq:=vf hi2
   refine wq [] [] (⟨k.held.length - (i+1),by omega,i+1,rfl,by omega,rfl⟩) ?_
   repeat' apply ai
   all_goals first|exact qx|exact aA D.i (by rw[aF (by omega)];omega)|(rw[hq];done)|(rw[hq];rfl)|(rw[hq,aVt];rfl)|(rw[hq,aVt];done)|(rw[hq];simp[aJ];done)|(rw[hq];exact eU _ _)|(rw[aJ];done)|(simp[aJ];done)|exact qz
 have hi3:i=k.held.length:=by simp[aG] at c55;omega
 subst hi3
 clear hi
 refine xt (sq (sq (rT [3,66,67,68] (s4 (bk (SW.loopW (n:=k.inbox.length) (fun m q=> ∃i:Nat,m=k.inbox.length - i∧i≤k.inbox.length∧q=[tO 3 100 (nZ k (i)).length,tD 66 (.sl (aH k.inbox)),tI 67 (k.inbox.length:Nat),tI 68 (i:Nat),oB 1 44 [.d (.i k.id),.d (.i k.time),.d (.i k.next),.d (.sl (aH k.held)),.d (.sl (aM k.marks)),.d (.sl (aH k.inbox))],oR 100 9 1 (aY (nZ k (i)))]) ?_ ?_))))))
 · refine wq (σ':=[tO 3 100 (nZ k (0)).length,tD 66 (.sl (aH k.inbox)),tI 67 (k.inbox.length:Nat),tI 68 (0:Nat),oB 1 44 [.d (.i k.id),.d (.i k.time),.d (.i k.next),.d (.sl (aH k.held)),.d (.sl (aM k.marks)),.d (.sl (aH k.inbox))],oR 100 9 1 (aY (nZ k (0)))]) [] [] (⟨0,rfl,aVv _,rfl⟩) ?_
   repeat' apply ai
   all_goals first|exact qx|rfl|(rw[vd];done)|(rw[aI];done)|(rw[aG];done)|exact qz
 rintro n s ⟨i,rfl,hi,rfl⟩
 refine sq (rT [3,66,67,68,69] (s1 (sq (cd rfl (fun c69=> ?_) fun c69=> ?_))))
 · have hi2:i<k.inbox.length:=by simp[aG] at c69;omega
   have hg:=aV (l:=k.inbox) hi2
   have hmem: (k.inbox.getD i .zero)∈k.inbox:=cM hi2
   have hnt:=hk.2.2 _ hmem
   have hwl:=pG (k.inbox.getD i .zero)
   have hml:=ki k i
   refine sk (sq (bk (sq (rT [3,9,66,67,68] (ai (by rw[aVr,hg];exact⟨⟨by omega,by rw[aG];omega⟩,rfl⟩) (ai (by rw[aVr,hg];exact⟨aVs rfl,rfl⟩) (s2 (wa [tO 3 100 (nZ k (i)).length,tD 66 (.sl (aH k.inbox)),tI 67 (k.inbox.length:Nat),tI 68 (i:Nat),tP 9 9,oB 1 44 [.d (.i k.id),.d (.i k.time),.d (.i k.next),.d (.sl (aH k.held)),.d (.sl (aM k.marks)),.d (.sl (aH k.inbox))],oB 9 52 [.d (.i ((k.inbox.getD i .zero)).frm),.d (.i ((k.inbox.getD i .zero)).num),.d (.i ((k.inbox.getD i .zero)).to),.d (.i ((k.inbox.getD i .zero)).til),.d (.s ((k.inbox.getD i .zero)).text)],oR 100 9 1 (aY (nZ k (i)))] [] [] ?_ ?_))))))))
   · repeat' apply ai
     all_goals first|exact qx|(rw[aVr,hg];rfl)|exact qz
   refine rT [3,66,67,68] (s2 (xp (nS (k.inbox.getD i .zero) hnt) (ai rfl ?_)))
   refine ai (by show _≤9223372036854775807;(try simp only[aVt,aVw,aVx]);omega) (s1 (ai (by refine⟨rfl,aJ _,by simp,?_⟩;skip;show(_+1)*16≤_;omega) (s1 (rT [3,66,67,68] (s2 ?_)))))
   have hq:=vg hi2
   refine wq [] [] (⟨k.inbox.length - (i+1),by omega,i+1,rfl,by omega,rfl⟩) ?_
   repeat' apply ai
   all_goals first|exact qx|exact aA D.i (by rw[aF (by omega)];omega)|(rw[hq];done)|(rw[hq];rfl)|(rw[hq,aVt];rfl)|(rw[hq,aVt];done)|(rw[hq];simp[aJ];done)|(rw[hq];exact eU _ _)|(rw[aJ];done)|(simp[aJ];done)|exact qz
 have hi3:i=k.inbox.length:=by simp[aG] at c69;omega
 subst hi3
 clear hi
 have hil:=ki k k.inbox.length
 refine xt (sq (rT [2] (s1 (eX (robj:=[(100,.row 9 1 (aY (nZ k k.inbox.length)))]) (rl:=[(0,80)]) (bor:=[100]) (zZ (nZ k k.inbox.length) (by omega)) rfl rfl rfl rfl ⟨dD rfl rfl rfl (aJ _) rfl trivial,rfl⟩ rfl (.inr (rv _)) (cH ⟨rfl,trivial⟩) (fun j hj=>by(obtain rfl:j=0:=by simpa[fI,bJ,gB] using hj);rfl) (s1 (rt (dO _ [] [80] rfl (dD rfl rfl rfl ?_ (aA D.sl ?_) trivial) rfl rfl)))))))
 · exact aJ _
 rw[zQ hok]
theorem aFd (k:aT) (rec:List UInt8) (hok:bL k=true) (hrec:rec.length≤900000):Sp 101 2 [tV 0 k.V,tD 1 (.s rec)] [tV 0 (.tup [.agg [.d (.i ((gS k rec).1).id),.d (.b ((gS k rec).1).up),.d (.s ((gS k rec).1).log),.d (.i ((gS k rec).1).forced),.d (.sl (aP ((gS k rec).1).halves))],.c (.d (.b (gS k rec).2))])]:=by
 have hlg:=fW hok
 have hkb:=vH hok
 have hrs:=qS (k:=(bM k).1)
 have hsk:dN k.log k.forced=true:=(fV hlg.1).2.1
 refine sb Tryz.func101 rfl (sq (rT [1,2,4] (s3 (sq (rT [1,2,4,6] (s5 (xp (nB k.id k.log (by omega)) (ai rfl ?_))))))))
 refine s6 (sq (sq (rT [1,2,4,6,9] (s2 (xp (wY (bM k).1 rec hkb hrec) (ai rfl ?_))))))
 refine s6 (sq (rT [1,2,4,6,30] (s2 (cd rfl (fun c30=> ?_) fun c30=> ?_))))
 · have h1: ¬(bX (bM k).1 rec).2=true:=pP c30
   refine sq (rT [4,5] (s3 (rt ?_)))
   have hr:=ro h1
   refine bI rfl rfl ?_
   rw[hr]
   rfl
 have h1: (bX (bM k).1 rec).2=true:=iS c30
 refine sk (sq (rT [1,2,4,6,10,11] (s3 (xp (pA k.log k.forced rec (by omega) hrec) (ai rfl ?_)))))
 refine s6 (sq (sq (rT [1,2,4,6,10,11,40] (s2 (cd rfl (fun c40=> ?_) fun c40=> ?_)))))
 · have h2: ¬(bR k.log k.forced rec).2=true:=pP c40
   refine sq (rD [1,2,4,10,12,13] (s3 (xp (bc (bM k).1 hkb) (ai rfl ?_))))
   refine xp (yB k.log k.forced (eA (bM k).1) (by omega) (by omega) (fun r hr=>by have:=hrs.2 r hr;omega)) (ai rfl ?_)
   refine s6 (ai (by kernel_rfl) (sq (sq (rT [1,2,4,10,12,50] (s2 (cd rfl (fun c50=> ?_) fun c50=> ?_))))))
   · have h3: ¬(cV k).2=true:=pP c50
     refine sq (rT [4,5] (s3 (rt ?_)))
     have hr:=ci h1 h2 h3
     refine bI rfl rfl ?_
     rw[hr]
     rfl
   have h3: (cV k).2=true:=iS c50
   refine sk (rT [2,4,10,11] (s2 (xp (pA (cV k).1.1 (cV k).1.2 rec (zR (by omega)) hrec) (ai rfl ?_))))
   refine s5 (sq (sq (rT [2,4,10,59] (s2 (cd rfl (fun c59=> ?_) fun c59=> ?_)))))
   · refine sq (rT [4,5] (s3 (rt ?_)))
     first
     |exact absurd (c40.symm.trans c59) (by decide)
     |(have hr:=xX h1 h2 h3 (pP c59)
       refine bI rfl rfl ?_
       rw[hr]
       rfl)
   refine sk (sq (rT [2,4] (s3 (sq (rT [4,5] (s3 (rt ?_)))))))
   first
   |(have hr:=xY h1 h2 h3 (iS c59)
     refine bI rfl rfl ?_
     rw[hr]
     rfl)
   |(have hr:=lX h1 h2
     refine bI rfl rfl ?_
     rw[hr]
     rfl)
 have h2: (bR k.log k.forced rec).2=true:=iS c40
 refine sk (sq (sq (rT [2,4,10,59] (s2 (cd rfl (fun c59=> ?_) fun c59=> ?_)))))
 · refine sq (rT [4,5] (s3 (rt ?_)))
   first
   |exact absurd (c40.symm.trans c59) (by decide)
   |(have hr:=xX h1 h2 h3 (pP c59)
     refine bI rfl rfl ?_
     rw[hr]
     rfl)
 refine sk (sq (rT [2,4] (s3 (sq (rT [4,5] (s3 (rt ?_)))))))
 first
 |(have hr:=xY h1 h2 h3 (iS c59)
   refine bI rfl rfl ?_
   rw[hr]
   rfl)
 |(have hr:=lX h1 h2
   refine bI rfl rfl ?_
   rw[hr]
   rfl)
theorem fk (k:aT) (hl:k.log.length≤140737488355328):Sp 75 1 [tV 0 k.V] [tV 0 ((jT k).V)]:=by
 refine sb Tryz.func75 rfl (sq (rT [1,2] (s2 (sq (rT [1,2] (s2 (xp (ky k.log k.forced hl) (ai rfl ?_))))))))
 refine s2 (sq (rT [2] (s2 (rt (bI rfl rfl ?_)))))
 rfl
theorem bd (k:aT) (rec:List UInt8) (fc:Bool) (hok:bL k=true) (hrec:rec.length≤900000):Sp 88 3 [tV 0 k.V,tD 1 (.s rec),tB 2 fc] [tV 0 (.tup [.agg [.d (.i ((eI k rec fc).1).id),.d (.b ((eI k rec fc).1).up),.d (.s ((eI k rec fc).1).log),.d (.i ((eI k rec fc).1).forced),.d (.sl (aP ((eI k rec fc).1).halves))],.c (.d (.b (eI k rec fc).2))])]:=by
 have hlg:=fW hok
 have hkb:=vH hok
 have hrs:=qS (k:=(bM k).1)
 have hsk:dN k.log k.forced=true:=(fV hlg.1).2.1
 have hpl:=zR (k:=k) (by omega)
 refine sb Tryz.func88 rfl (sq (rT [1,2,3,6] (s3 (sq (rT [1,2,3,6,8] (s1 (xp (xA k (by omega)) (ai rfl ?_))))))))
 refine s6 (sq (rT [1,2,3,6,8,11] (s2 (xp (fh (bM k).1 rec hkb hrec) (ai rfl ?_)))))
 refine s6 (sq (sq (rT [1,2,3,6,8,26] (s2 (cd rfl (fun c26=> ?_) fun c26=> ?_)))))
 · have h1: ¬(bX (bM k).1 rec).2=true:=by rw[← mw];exact pP c26
   refine sq (rT [6,7] (s3 (rt ?_)))
   have hr:eI k rec fc=(k,false):=by rw[eI,ro h1];rfl
   refine bI rfl rfl ?_
   rw[hr]
   rfl
 have h1: (bX (bM k).1 rec).2=true:=by rw[← mw];exact iS c26
 refine sk (sq (rT [1,2,3,6,8,12,13] (s3 (xp (bb k.log k.forced rec (by omega) hrec) (ai rfl ?_)))))
 refine s6 (sq (sq (rT [1,2,3,6,8,12,13,36] (s2 (cd rfl (fun c36=> ?_) fun c36=> ?_)))))
 · have h2: ¬(bR k.log k.forced rec).2=true:=pP c36
   refine sq (rD [1,2,3,6,12] (s3 (xp (qw (bM k).1 hkb) (ai rfl ?_))))
   refine xp (np k.log k.forced (eA (bM k).1) (by omega) (by omega) (fun r hr=>by have:=hrs.2 r hr;omega)) (ai rfl ?_)
   refine s4 (ai (by kernel_rfl) (rT [2,3,6,12,13] (s2 (xp (bb (cV k).1.1 (cV k).1.2 rec hpl hrec) (ai rfl ?_)))))
   refine s5 (sq (sq (rT [2,3,6,12,52] (s2 (cd rfl (fun c52=> ?_) fun c52=> ?_)))))
   · refine sq (rT [6,7] (s3 (rt ?_)))
     first
     |exact absurd (c36.symm.trans c52) (by decide)
     |(have hr:=(show eI k rec fc=(k,false) by rw[eI,vl hsk h1 h2 (pP c52)];rfl)
       refine bI rfl rfl ?_
       rw[hr]
       rfl)
   refine sk (sq (sq (rT [3,6,12,54] (s1 (cd rfl (fun c54=> ?_) fun c54=> ?_)))))
   · obtain rfl:=c54
     refine rT [3,6,12] (s1 ?_)
     first
     |refine jc (kF (bR (cV k).1.1 (cV k).1.2 rec).1.1 (bR (cV k).1.1 (cV k).1.2 rec).1.2 (nR hpl)) rfl rfl rfl rfl rfl rfl rfl rfl ?_
     |refine jc (kF (bR k.log k.forced rec).1.1 (bR k.log k.forced rec).1.2 (nR (by omega))) rfl rfl rfl rfl rfl rfl rfl rfl ?_
     refine s1 (sq (rT [3,6] (s3 (sq (rT [6,7] (s3 (rt ?_)))))))
     have hlr:gS k rec=(jF k (bR (cV k).1.1 (cV k).1.2 rec).1,true)∨gS k rec=(jF k (bR k.log k.forced rec).1,true):=by
      first
      |exact .inl (mY hsk h1 h2 (iS c52))
      |exact .inr (lX h1 h2)
     first
     |(have hr:=mY hsk h1 h2 (iS c52)
       refine bI rfl rfl ?_
       rw[eI,hr]
       rfl)
     |(have hr:=lX h1 h2
       refine bI rfl rfl ?_
       rw[eI,hr]
       rfl)
   obtain rfl:=c54
   refine sk (sq (rT [3,6] (s3 (sq (rT [6,7] (s3 (rt ?_)))))))
   have hlr:gS k rec=(jF k (bR (cV k).1.1 (cV k).1.2 rec).1,true)∨gS k rec=(jF k (bR k.log k.forced rec).1,true):=by
    first
    |exact .inl (mY hsk h1 h2 (iS c52))
    |exact .inr (lX h1 h2)
   first
   |(have hr:=mY hsk h1 h2 (iS c52)
     refine bI rfl rfl ?_
     rw[eI,hr]
     rfl)
   |(have hr:=lX h1 h2
     refine bI rfl rfl ?_
     rw[eI,hr]
     rfl)
 have h2: (bR k.log k.forced rec).2=true:=iS c36
 refine sk (sq (sq (rT [2,3,6,12,52] (s2 (cd rfl (fun c52=> ?_) fun c52=> ?_)))))
 · refine sq (rT [6,7] (s3 (rt ?_)))
   first
   |exact absurd (c36.symm.trans c52) (by decide)
   |(have hr:=(show eI k rec fc=(k,false) by rw[eI,vl hsk h1 h2 (pP c52)];rfl)
     refine bI rfl rfl ?_
     rw[hr]
     rfl)
 refine sk (sq (sq (rT [3,6,12,54] (s1 (cd rfl (fun c54=> ?_) fun c54=> ?_)))))
 · obtain rfl:=c54
   refine rT [3,6,12] (s1 ?_)
   first
   |refine jc (kF (bR (cV k).1.1 (cV k).1.2 rec).1.1 (bR (cV k).1.1 (cV k).1.2 rec).1.2 (nR hpl)) rfl rfl rfl rfl rfl rfl rfl rfl ?_
   |refine jc (kF (bR k.log k.forced rec).1.1 (bR k.log k.forced rec).1.2 (nR (by omega))) rfl rfl rfl rfl rfl rfl rfl rfl ?_
   refine s1 (sq (rT [3,6] (s3 (sq (rT [6,7] (s3 (rt ?_)))))))
   have hlr:gS k rec=(jF k (bR (cV k).1.1 (cV k).1.2 rec).1,true)∨gS k rec=(jF k (bR k.log k.forced rec).1,true):=by
    first
    |exact .inl (mY hsk h1 h2 (iS c52))
    |exact .inr (lX h1 h2)
   first
   |(have hr:=mY hsk h1 h2 (iS c52)
     refine bI rfl rfl ?_
     rw[eI,hr]
     rfl)
   |(have hr:=lX h1 h2
     refine bI rfl rfl ?_
     rw[eI,hr]
     rfl)
 obtain rfl:=c54
 refine sk (sq (rT [3,6] (s3 (sq (rT [6,7] (s3 (rt ?_)))))))
 have hlr:gS k rec=(jF k (bR (cV k).1.1 (cV k).1.2 rec).1,true)∨gS k rec=(jF k (bR k.log k.forced rec).1,true):=by
  first
  |exact .inl (mY hsk h1 h2 (iS c52))
  |exact .inr (lX h1 h2)
 first
 |(have hr:=mY hsk h1 h2 (iS c52)
   refine bI rfl rfl ?_
   rw[eI,hr]
   rfl)
 |(have hr:=lX h1 h2
   refine bI rfl rfl ?_
   rw[eI,hr]
   rfl)
theorem zh (b:Int) (m:cU) (kn:List (List UInt8)) (hk:xZ b kn) (hm:m.data.length=4):Sp 241 3 [tI 0 b,tV 1 m.V,tD 2 (.sl (aY kn))] [tV 0 (.tup [.c (.own 0 (fL kn (cB b m.num)).length),.c (.d (.s (mN kn m.data (cB b m.num))))]),oR 0 3 1 (bW (fL kn (cB b m.num)))]:=by
 refine sb Tryz.func241 rfl (sq (rT [0,2,4] (s3 (sq (rT [0,2,4,8] (s2 (sq (rT [0,2,4,8,9] (s3 (sq (rT [2,8,9,10] (s3 (xp (aC6 b m.num) (ai rfl ?_))))))))))))))
 refine s1 (sq (sq (rT [2,8,9,10,11] (s1 (bk (SW.loopW (n:=(cB b m.num).length) (fun q s=> ∃i:Nat,q=(cB b m.num).length - i∧i≤(cB b m.num).length∧s=[tD 2 (.sl (aY kn)),tO 8 12 (fL kn ((cB b m.num).take i)).length,tD 9 (.s (mN kn m.data ((cB b m.num).take i))),tD 10 (.sl (bW (cB b m.num))),tI 11 (i:Nat),oR 12 3 1 (bW (fL kn ((cB b m.num).take i)))]) ?_ ?_))))))
 · refine wq (σ':=[tD 2 (.sl (aY kn)),tO 8 12 (fL kn ((cB b m.num).take 0)).length,tD 9 (.s (mN kn m.data ((cB b m.num).take 0))),tD 10 (.sl (bW (cB b m.num))),tI 11 (0:Nat),oR 12 3 1 (bW (fL kn ((cB b m.num).take 0)))]) [] [] (⟨0,rfl,aVv _,rfl⟩) ?_
   repeat' apply ai
   all_goals first|exact qx|rfl|exact qz
 rintro n s ⟨i,rfl,hi,rfl⟩
 refine sq (sq (rT [2,8,9,10,11,22] (s4 (cd rfl (fun c22=> ?_) fun c22=> ?_))))
 · have hi2:i< (cB b m.num).length:=by simp[bN] at c22;omega
   have hml:=kc b m.num
   have hts:=dH (z:=(0:Int)) hi2
   have hio:=gW (l:=(cB b m.num)) (i:=i) hi2
   have hjr:=sU ((cB b m.num).getD i 0) (cM hi2)
   have hkl:=hk.1
   have hj3: ((cB b m.num).getD i 0)< (kn.length:Int):=by omega
   have hv:=aVi (l:=kn) hjr.1 hj3
   have hat:=hk.at (j:=((cB b m.num).getD i 0).toNat) (by omega)
   refine sk (sq (bk (sq (rT [2,8,9,10,11,32] (s3 (ai (by rw[aVr,hio];exact⟨⟨by omega,by rw[bN];omega⟩,rfl⟩) (ai (by rw[aVr,hio];exact⟨aVs rfl,rfl⟩) (ai (by rw[aVr,hio];exact ixS hjr.1 hj3) (ai (by rw[aVr,hio];exact ldS hjr.1 hj3) (s1 (cd rfl (fun c32=> ?_) fun c32=> ?_)))))))))))
   · have hu:unk kn ((cB b m.num).getD i 0)=true:=by
      have h9:=c32
      rw[aVr,hio] at h9
      have h9: (yk (((aY kn).getD ((cB b m.num).getD i 0).toNat []).getD 0 (.i 0))==[])=true:=h9
      rw[hv] at h9
      unfold unk;rw[beq_iff_eq.1 h9];rfl
     have hL:=cj (ks:=(cB b m.num).take i) hu
     have hX:=aBb (x:=m.data) (ks:=(cB b m.num).take i) hu
     refine rT [2,8,9,10,11] (s3 (ai (by rw[aVr,hio];exact⟨⟨by omega,by rw[bN];omega⟩,rfl⟩) (ai (by rw[aVr,hio];exact⟨aVs rfl,rfl⟩) (s1 (ai (by refine⟨rfl,bN _,by simp,?_⟩;have h9: (fL kn ((cB b m.num).take i)).length≤6:=Nat.le_trans (List.length_filter_le _ _) (by rw[aV0];omega);show(_+1)*8≤_;omega) (s1 (rT [2,8,9,10,11] (s3 (wq [] [] (⟨(cB b m.num).length - (i+1),by omega,i+1,rfl,by omega,rfl⟩) ?_)))))))))
     repeat' apply ai
     all_goals first|exact qx|exact aA D.i (by rw[aF (by omega)];omega)|(rw[hts,hL,aVt];rfl)|(rw[hts,hL,aVr,hio];exact iM _ _)|(rw[hts,hL];done)|(rw[hts,hX];done)|(rw[hts,hL,aVt];done)|(simp[bN];done)|(rw[hts,hL];simp[bN];done)|exact qz
   have hne: ¬(kn.getD ((cB b m.num).getD i 0).toNat [])=[]:=by
    have h9:=c32
    rw[aVr,hio] at h9
    have h9: (yk (((aY kn).getD ((cB b m.num).getD i 0).toNat []).getD 0 (.i 0))==[])=false:=h9
    rw[hv] at h9
    exact beq_eq_false_iff_ne.1 h9
   have hu:unk kn ((cB b m.num).getD i 0)=false:=by unfold unk;simpa using hne
   have h4: (kn.getD ((cB b m.num).getD i 0).toNat []).length=4:=by rcases hat with h9|h9;exact absurd (List.eq_nil_of_length_eq_zero h9) hne;exact h9
   have hL:=fa (ks:=(cB b m.num).take i) hu
   have hX:=aE8 (x:=m.data) (ks:=(cB b m.num).take i) hu
   refine rT [2,8,9,10,11] (s4 (ai (by rw[aVr,hio];exact⟨⟨by omega,by rw[bN];omega⟩,rfl⟩) (ai (by rw[aVr,hio];exact⟨aVs rfl,rfl⟩) (ai (by rw[aVr,hio];exact ixS hjr.1 hj3) (ai (by rw[aVr,hio];exact ldS hjr.1 hj3) (xp (aC7 (mN kn m.data ((cB b m.num).take i)) (kn.getD ((cB b m.num).getD i 0).toNat []) (uD hm) h4) (ai (by rw[aVr,hio];exact(aA (fun z=>dJ 0 [Dv (.s (mN kn m.data ((cB b m.num).take i))),Dv (.s z)]) hv).symm) ?_)))))))
   refine s1 (rT [2,8,9,10,11] (s3 (wq [] [] (⟨(cB b m.num).length - (i+1),by omega,i+1,rfl,by omega,rfl⟩) ?_)))
   repeat' apply ai
   all_goals first|exact qx|exact aA D.i (by rw[aF (by omega)];omega)|(rw[hts,hL,aVt];rfl)|(rw[hts,hL,aVr,hio];exact iM _ _)|(rw[hts,hL];done)|(rw[hts,hX];done)|(rw[hts,hL,aVt];done)|(simp[bN];done)|(rw[hts,hL];simp[bN];done)|exact qz
 have hi3:i=(cB b m.num).length:=by simp[bN] at c22;omega
 subst hi3
 refine xt (sq (rT [6,7] (s4 (rt ?_))))
 rw[aV3]
 exact dO _ [(0,12)] [] rfl ⟨⟨_,rfl,⟨rfl,rfl,_,_,_,rfl⟩,rfl,trivial⟩,cJ rfl rfl trivial⟩ rfl rfl
theorem aP5 (kn:List (List UInt8)) (ks:List Int) (x:List UInt8):gU [tV 0 (.tup [.c (.own 0 (fL kn ks).length),.c (.d (.s (mN kn x ks)))]),oR 0 3 1 (bW (fL kn ks))]:=by
 intro p hp
 simp at hp
 rcases hp with rfl|rfl
 · first|trivial|(simp[gU];done)|(intro c hc;simp at hc;rcases hc with rfl|rfl<;>trivial)|exact⟨trivial,trivial,trivial⟩
 intro r hr d hd
 obtain⟨y,_,rfl⟩:=aV5.1 hr
 simp at hd;subst hd;trivial
theorem wv (b:Int) (l:List cU) (hl:l.length≤1000000):Sp 199 2 [tI 0 b,tD 1 (.sl (aR l))] [tD 0 (.sl (aY (bS b l)))]:=by
 refine sb Tryz.func199 rfl (sq (rT [0,1] (s1 (sq (sq (rT [0,1,12] (s1 (xp (dU _ _ _) (ai rfl ?_)))))))))
 refine s1 (cd rfl (fun c12=> ?_) fun c12=> ?_)
 · have hno: ¬gT b 1 6=true:=by simpa using c12
   refine sq (rT [4] (s2 (rt (dO _ [] [13] rfl (dD rfl rfl rfl ?_ (aA D.sl ?_) trivial) rfl rfl))))
   · rfl
   rw[vo hno];rfl
 have hin:gT b 1 6=true:=by simpa using c12
 have hb:1≤b∧b≤6:=by simpa[gT] using hin
 have hst:=xZ.start (b:=b) (by omega)
 refine sk (sq (rT [0,1,5] (s1 (ai (by refine⟨rfl,by omega,?_⟩;show((16:Nat):Int)*_≤_;omega) (s1 (sq (rT [0,1,5,6] (s1 (sq (bk (SW.loopW (n:=sV (aWb b.toNat ([]:List UInt8))+1) (fun q s=> ∃(kn:List (List UInt8)) (ag:Bool),q=(if ag then sV kn+1 else 0)∧xZ b kn∧(ag=true→qT b l 7 kn=bS b l)∧(ag=false→kn=bS b l)∧s=[tI 0 b,tD 1 (.sl (aR l)),tO 5 15 b.toNat,tB 6 (ag),oR 15 9 1 (aY (kn))]) ?_ ?_)))))))))))
 · refine wq (σ':=[tI 0 b,tD 1 (.sl (aR l)),tO 5 15 b.toNat,tB 6 (true),oR 15 9 1 (aY (aWb b.toNat []))]) [] [] (⟨_,true,rfl,hst,fun _=>(aC hin).symm,fun h=>(by cases h),rfl⟩) ?_
   repeat' apply ai
   all_goals first|exact qx|rfl|(simp[aY];done)|exact qz
 rintro n s ⟨kn,ag,rfl,hk,hp1,hp2,rfl⟩
 refine sq (sq (rT [0,1,5,16] (s1 (cd rfl (fun c16=> ?_) fun c16=> ?_))))
 · have hag:ag=true:=c16
   have hgo:=hp1 hag
   refine sk (bk (sq (rT [0,1,5,6] (s1 (sq (rT [0,1,5,6,7] (s1 (bk (SW.loopW (n:=l.length) (fun q s=> ∃i:Nat,q=l.length - i∧i≤l.length∧s=[tI 0 b,tD 1 (.sl (aR l)),tO 5 15 b.toNat,tB 6 (bD b (l.take i) (kn,false)).2,tI 7 (i:Nat),oR 15 9 1 (aY ((bD b (l.take i) (kn,false)).1))]) ?_ ?_)))))))))
   · refine wq (σ':=[tI 0 b,tD 1 (.sl (aR l)),tO 5 15 b.toNat,tB 6 (bD b (l.take 0) (kn,false)).2,tI 7 (0:Nat),oR 15 9 1 (aY ((bD b (l.take 0) (kn,false)).1))]) [] [] (⟨0,rfl,aVv _,rfl⟩) ?_
     repeat' apply ai
     all_goals first|exact qx|rfl|exact qz
   rintro n s ⟨i,rfl,hi,rfl⟩
   refine sq (sq (rT [0,1,5,6,7,20] (s4 (cd rfl (fun c20=> ?_) fun c20=> ?_))))
   · have hi2:i<l.length:=by simp[aK] at c20;omega
     have hg:=eP (l:=l) hi2
     have hki:=(mZ (l:=l.take i) (s:=(kn,false)) hk).1
     have hsn:=zS (b:=b) (m:=(l.getD i .zero)) (l:=l.take i) (s:=(kn,false))
     rw[← dH (z:=cU.zero) hi2] at hsn
     have hkl:=hki.1
     refine sk (sq (bk (sq (sq (rT [0,1,5,6,7,29] (s3 (ai (by rw[aVr,hg];exact⟨⟨by omega,by rw[aK];omega⟩,rfl⟩) (ai (by rw[aVr,hg];exact⟨aVs rfl,rfl⟩) (xp (cr b (l.getD i .zero)) (ai (by rw[aVr,hg];rfl) ?_))))))))))
     refine s1 (cd rfl (fun c29=> ?_) fun c29=> ?_)
     · have hmx:oV b (l.getD i .zero)=false:=aBd c29
       have hpo:fX b (bD b (l.take i) (kn,false)).1 (l.getD i .zero)=((bD b (l.take i) (kn,false)).1,false):=by unfold fX;rw[hmx];rfl
       rw[hpo] at hsn
       refine xt (rT [0,1,5,6,7] (s3 (wq [] [] (⟨l.length - (i+1),by omega,i+1,rfl,by omega,rfl⟩) ?_)))
       repeat' apply ai
       all_goals first|exact qx|exact aA D.i (by rw[aF (by omega)];omega)|(rw[hsn];done)|(rw[hsn,Bool.or_false];done)|(rw[hsn,Bool.or_true];done)|(rw[hsn];rw[show(0:Int).toNat=0 from rfl,hL0];exact eb (j:=((fL (bD b (l.take i) (kn,false)).1 (cB b (l.getD i .zero).num)).getD 0 0).toNat) (by omega))|exact qz
     have hmx:oV b (l.getD i .zero)=true:=aBd c29
     have hm4: (l.getD i .zero).data.length=4:=pu hmx
     refine sk (sq (rT [0,1,5,6,7,8,9] (s3 (ai (by rw[aVr,hg];exact⟨⟨by omega,by rw[aK];omega⟩,rfl⟩) (ai (by rw[aVr,hg];exact⟨aVs rfl,rfl⟩) (s1 (eX (robj:=[(15,.row 9 1 (aY (bD b (l.take i) (kn,false)).1))]) (rl:=[(0,37)]) (bor:=[15]) (zh b (l.getD i .zero) (bD b (l.take i) (kn,false)).1 hki hm4) rfl rfl rfl rfl (by refine⟨iG rfl rfl (dS rfl ?_ (dD rfl rfl rfl (by rw[aJ];omega) rfl trivial)),rfl⟩;rw[aVr,hg];exact aN rfl (aN rfl trivial)) rfl (.inr (aP5 _ _ _)) (cH ⟨rfl,trivial⟩) (fun j hj=>by(obtain rfl:j=0:=by simpa[fI,bJ,gB] using hj);rfl) ?_)))))))
     refine s5 (sq (rT [0,1,5,6,7,8,9,42] (s1 (ai (by exact bN _) (s1 (cd rfl (fun c42=> ?_) fun c42=> ?_))))))
     · have hlen: (fL (bD b (l.take i) (kn,false)).1 (cB b (l.getD i .zero).num)).length=1:=aM8 c42
       have hL0:=gW (l:=(fL (bD b (l.take i) (kn,false)).1 (cB b (l.getD i .zero).num))) (i:=0) (by omega)
       have hpo:fX b (bD b (l.take i) (kn,false)).1 (l.getD i .zero)=((bD b (l.take i) (kn,false)).1.set ((fL (bD b (l.take i) (kn,false)).1 (cB b (l.getD i .zero).num)).getD 0 0).toNat (mN (bD b (l.take i) (kn,false)).1 (l.getD i .zero).data (cB b (l.getD i .zero).num)),true):=by unfold fX;rw[hmx,hlen];rfl
       rw[hpo] at hsn
       have hlr:=sU _ (nc (cM (z:=(0:Int)) (l:=(fL (bD b (l.take i) (kn,false)).1 (cB b (l.getD i .zero).num))) (i:=0) (by omega))).1
       have hsg:=eN (l:=(bD b (l.take i) (kn,false)).1) (i:=((fL (bD b (l.take i) (kn,false)).1 (cB b (l.getD i .zero).num)).getD 0 0).toNat) (by omega)
       refine sq (rT [0,1,5,7] (s2 (ai (by exact⟨by rw[bN],by omega,by omega⟩) (ai (by rw[show(0:Int).toNat=0 from rfl,hL0];exact⟨⟨by rw[bN],by omega⟩,aVz _,rfl⟩) (s1 (ai (by rw[show(0:Int).toNat=0 from rfl,hL0];exact⟨by rw[aJ];omega,hlr.1,by have h9: (fL (bD b (l.take i) (kn,false)).1 (cB b (l.getD i .zero).num)).getD 0 0<b:=hlr.2;show(fL (bD b (l.take i) (kn,false)).1 (cB b (l.getD i .zero).num)).getD 0 0< ((b.toNat:Nat):Int);omega⟩) (ai (by rw[show(0:Int).toNat=0 from rfl,hL0];refine⟨by rw[aJ];omega,?_⟩;show((fL (bD b (l.take i) (kn,false)).1 (cB b (l.getD i .zero).num)).getD 0 0).toNat<_∧_∧0+_≤((aY (bD b (l.take i) (kn,false)).1).getD ((fL (bD b (l.take i) (kn,false)).1 (cB b (l.getD i .zero).num)).getD 0 0).toNat []).length;rw[hsg];exact⟨by omega,rfl,aVz _⟩) (rT [0,1,5,6,7] (s1 (rT [0,1,5,6,7] (s3 (wq [] [] (⟨l.length - (i+1),by omega,i+1,rfl,by omega,rfl⟩) ?_))))))))))))
       repeat' apply ai
       all_goals first|exact qx|exact aA D.i (by rw[aF (by omega)];omega)|(rw[hsn];done)|(rw[hsn,Bool.or_false];done)|(rw[hsn,Bool.or_true];done)|(rw[hsn];rw[show(0:Int).toNat=0 from rfl,hL0];exact eb (j:=((fL (bD b (l.take i) (kn,false)).1 (cB b (l.getD i .zero).num)).getD 0 0).toNat) (by omega))|exact qz
     have hlen: ¬(fL (bD b (l.take i) (kn,false)).1 (cB b (l.getD i .zero).num)).length=1:=vm c42
     have hpo:fX b (bD b (l.take i) (kn,false)).1 (l.getD i .zero)=((bD b (l.take i) (kn,false)).1,false):=by unfold fX;rw[hmx,beq_eq_false_iff_ne.2 hlen];rfl
     rw[hpo] at hsn
     refine sk (rT [0,1,5,6,7] (s3 (wq [] [] (⟨l.length - (i+1),by omega,i+1,rfl,by omega,rfl⟩) ?_)))
     repeat' apply ai
     all_goals first|exact qx|exact aA D.i (by rw[aF (by omega)];omega)|(rw[hsn];done)|(rw[hsn,Bool.or_false];done)|(rw[hsn,Bool.or_true];done)|(rw[hsn];rw[show(0:Int).toNat=0 from rfl,hL0];exact eb (j:=((fL (bD b (l.take i) (kn,false)).1 (cB b (l.getD i .zero).num)).getD 0 0).toNat) (by omega))|exact qz
   have hi3:i=l.length:=by simp[aK] at c20;omega
   subst hi3
   clear hi
   refine xt ?_
   rw[aV3]
   cases hrr: (bD b l (kn,false)).2 with
   |true=>
    obtain⟨g1,g2,g3⟩:=aIv hb.2 hk hrr
    refine wk [tI 0 b,tD 1 (.sl (aR l)),tO 5 15 b.toNat,tB 6 (true),oR 15 9 1 (aY ((bD b l (kn,false)).1))] [] [] (⟨_,by rw[hag];simpa using g2,_,true,rfl,g3,fun _=>by rw[← g1];exact hgo,fun h=>(by cases h),rfl⟩) ?_ rfl rfl
    repeat' first|exact trivial|refine qB rfl ?_|refine iG rfl ?_ ?_|refine lD rfl rfl ?_ rfl ?_|refine cJ rfl ?_ ?_|refine vT rfl rfl rfl rfl ?_|refine pD rfl ?_ ?_|refine dS rfl ?_ ?_|exact bG|refine aN ?_ ?_|refine mM ?_|refine dP rfl ?_ rfl ?_|refine qD rfl rfl rfl ?_
    all_goals first|with_reducible rfl|(first|with_reducible rfl|(rw[hrr];done))
   |false=>
    have ge:=aE9 hrr
    refine wk [tI 0 b,tD 1 (.sl (aR l)),tO 5 15 b.toNat,tB 6 (false),oR 15 9 1 (aY ((bD b l (kn,false)).1))] [] [] (⟨_,by rw[hag];simp,_,false,rfl,(mZ (l:=l) (s:=(kn,false)) hk).1,fun h=>(by cases h),fun _=>by rw[← ge];exact hgo,rfl⟩) ?_ rfl rfl
    repeat' first|exact trivial|refine qB rfl ?_|refine iG rfl ?_ ?_|refine lD rfl rfl ?_ rfl ?_|refine cJ rfl ?_ ?_|refine vT rfl rfl rfl rfl ?_|refine pD rfl ?_ ?_|refine dS rfl ?_ ?_|exact bG|refine aN ?_ ?_|refine mM ?_|refine dP rfl ?_ rfl ?_|refine qD rfl rfl rfl ?_
    all_goals first|with_reducible rfl|(first|with_reducible rfl|(rw[hrr];done))
 have hag:ag=false:=c16
 have hfin:=hp2 hag
 refine xt (sq (rT [4] (s2 (rt (dO _ [] [15] rfl (dD rfl rfl rfl ?_ (aA D.sl ?_) trivial) rfl rfl)))))
 · rw[aJ];have:=hk.1;omega
 rw[hfin]
theorem ww (size:Int) (l:List cU) (hl:l.length≤1000000):Sp 159 2 [tI 0 size,tD 1 (.sl (aR l))] [tV 0 (.tup [.c (.d (.s (cF size l).1)),.c (.d (.b (cF size l).2))])]:=by
 refine sb Tryz.func159 rfl (sq (rT [0,1] (s2 (sq (sq (rT [0,1,12] (s1 (xp (dU _ _ _) (ai rfl ?_)))))))))
 refine s1 (cd rfl (fun c12=> ?_) fun c12=> ?_)
 · have hno: ¬gT size 1 24=true:=by simpa using c12
   refine sq (rT [4,5] (s2 (rt ?_)))
   have hr:=pw (l:=l) hno
   refine bI rfl rfl ?_
   rw[hr]<;>rfl
 have hin:gT size 1 24=true:=by simpa using c12
 have hs2:1≤size∧size≤24:=by simpa[gT] using hin
 have hko:=vn (b:=(size+3) / 4) (l:=l) (by omega)
 have hk1:=hko.1
 have hle:=fun i=>vp hko.2 (i:=i)
 refine sk (sq (rT [0,6] (s1 (xp (tF size (by omega)) (ai rfl ?_)))))
 refine s1 (xp (wv ((size+3) / 4) l hl) (ai rfl ?_))
 refine s1 (sq (rT [0,6,7] (s1 (sq (sq (rT [0,6,7,8] (s1 (bk (SW.loopW (n:=(bS ((size+3) / 4) l).length) (fun q s=> ∃i:Nat,q=(bS ((size+3) / 4) l).length - i∧i≤(bS ((size+3) / 4) l).length∧(∀j,j<i→((bS ((size+3) / 4) l).getD j []).length≠0)∧s=[tI 0 size,tD 6 (.sl (aY (bS ((size+3) / 4) l))),tD 7 (.s (sW (bS ((size+3) / 4) l) (i))),tI 8 (i:Nat)]) ?_ ?_)))))))))
 · refine wq (σ':=[tI 0 size,tD 6 (.sl (aY (bS ((size+3) / 4) l))),tD 7 (.s (sW (bS ((size+3) / 4) l) (0))),tI 8 (0:Nat)]) [] [] (⟨0,rfl,aVv _,fun j h=>absurd h (by omega),rfl⟩) ?_
   repeat' apply ai
   all_goals first|exact qx|rfl|exact qz
 rintro n s ⟨i,rfl,hi,hk,rfl⟩
 refine sq (sq (rT [0,6,7,8,20] (s4 (cd rfl (fun c20=> ?_) fun c20=> ?_))))
 · have hi2:i< (bS ((size+3) / 4) l).length:=by simp[aJ] at c20;omega
   have hg:=eN (l:=(bS ((size+3) / 4) l)) hi2
   have hsu:=zT hi2
   have hli:=hle i
   have h4:=hko.at hi2
   refine sk (sq (bk (sq (sq (rT [0,6,7,8,27] (s2 (ai (by rw[aVr,hg];exact⟨⟨by omega,by rw[aJ];omega⟩,rfl⟩) (ai (by rw[aVr,hg];exact⟨aVs rfl,rfl⟩) (s1 (cd rfl (fun c27=> ?_) fun c27=> ?_))))))))))
   · have he: (bS ((size+3) / 4) l).getD i []=[]:=by
      have h9:=c27
      rw[aVr,hg] at h9
      exact beq_iff_eq.1 h9
     refine sq (rT [4,5] (s2 (rt ?_)))
     have hr:=ko hin (fb hi2 he)
     refine bI rfl rfl ?_
     rw[hr]<;>rfl
   have hs: ((bS ((size+3) / 4) l).getD i []).length≠0:=by
    have h9:=c27
    rw[aVr,hg] at h9
    intro e
    rw[List.eq_nil_of_length_eq_zero e] at h9
    exact absurd h9 (by decide)
   refine sk (rT [0,6,7,8] (s3 (ai (by rw[aVr,hg];exact⟨⟨by omega,by rw[aJ];omega⟩,rfl⟩) (ai (by rw[aVr,hg];exact⟨aVs rfl,rfl⟩) (ai (by rw[aVr,hg];show _+((bS ((size+3) / 4) l).getD i []).length≤9223372036854775807;omega) (s1 (rT [0,6,7,8] (s3 (wq [] [] (⟨(bS ((size+3) / 4) l).length - (i+1),by omega,i+1,rfl,by omega,fun j h=>by by_cases e:j=i;exact e▸hs;exact hk j (by omega),rfl⟩) ?_)))))))))
   repeat' apply ai
   all_goals first|exact qx|exact aA D.i (by rw[aF (by omega)];omega)|(rw[hsu,aVr,hg];rfl)|exact qz
 have hi3:i=(bS ((size+3) / 4) l).length:=by simp[aJ] at c20;omega
 subst hi3
 have hae:=kl hk
 have hal:=vt hko.2 (aVz _) hk
 rw[ec] at hal
 clear hi hk
 refine xt (sq (sq (rT [0,7,9] (s2 (bk (SW.loopW (n:=(jU (bS ((size+3) / 4) l)).length - size.toNat) (fun q s=> ∃i:Nat,q=(jU (bS ((size+3) / 4) l)).length - i∧(size.toNat≤i∧i≤(jU (bS ((size+3) / 4) l)).length)∧(∀j,size.toNat≤j→j<i→(jU (bS ((size+3) / 4) l)).getD j 0=0)∧s=[tI 0 size,tD 7 (.s (jU (bS ((size+3) / 4) l))),tI 9 (i:Nat)]) ?_ ?_))))))
 · have hss:size.toNat≤(jU (bS ((size+3) / 4) l)).length:=by omega
   refine wq [] [] (⟨size.toNat,rfl,by omega,fun j h1 h2=>absurd h1 (by omega),rfl⟩) ?_
   repeat' apply ai
   all_goals first|exact qx|exact aA D.i (by omega)|(rw[ec];done)|exact qz
 rintro n s ⟨i,rfl,hi,hk,rfl⟩
 refine sq (sq (rT [0,7,9,38] (s4 (cd rfl (fun c38=> ?_) fun c38=> ?_))))
 · have hi2:i< (jU (bS ((size+3) / 4) l)).length:=by simp at c38;omega
   refine sk (sq (bk (sq (rT [0,7,9,44] (s2 (ai (by omega) (s1 (cd rfl (fun c44=> ?_) fun c44=> ?_))))))))
   · have hnz: (jU (bS ((size+3) / 4) l)).getD i 0≠0:=by
      intro e
      have h9:=c44
      rw[aVr,e] at h9
      exact absurd h9 (by decide)
     refine sq (rT [4,5] (s2 (rt ?_)))
     have hr:=kp hin hae (km hi.1 hi2 hnz)
     refine bI rfl rfl ?_
     rw[hr]<;>rfl
   have hs: (jU (bS ((size+3) / 4) l)).getD i 0=0:=by
    have h9:=c44
    rw[aVr] at h9
    have h11: (((jU (bS ((size+3) / 4) l)).getD i 0).toNat:Int)=0:=by simpa only[bne_eq_false_iff_eq] using h9
    apply UInt8.toNat_inj.1
    have h6: (0:UInt8).toNat=0:=rfl
    omega
   refine sk (rT [0,7,9] (s3 (wq [] [] (⟨(jU (bS ((size+3) / 4) l)).length - (i+1),by omega,i+1,rfl,by omega,fun j h1 h2=>by by_cases e:j=i;exact e▸hs;exact hk j h1 (by omega),rfl⟩) ?_)))
   repeat' apply ai
   all_goals first|exact qx|exact aA D.i (by rw[aF (by omega)];omega)|exact qz
 have hi3:i=(jU (bS ((size+3) / 4) l)).length:=by simp at c38;omega
 have hz:=pv (n:=size.toNat) (fun j h1 h2=>hk j h1 (by omega))
 refine xt (sq (rT [4,5] (s2 (ai (by simp[bnd,gD,iE];omega) (s2 (rt ?_))))))
 have hr:=px hin hae hz
 refine bI rfl rfl ?_
 rw[hr]<;>rfl
theorem wx (b:Int) (l:List cU) (hl:l.length≤1000000):Sp 128 2 [tI 0 b,tD 1 (.sl (aR l))] [tD 0 (.sl (aY (bS b l)))]:=by
 refine sb Tryz.func128 rfl (sq (rT [0,1] (s1 (sq (sq (rT [0,1,16] (s1 (xp (dM _ _ _) (ai rfl ?_)))))))))
 refine s1 (cd rfl (fun c16=> ?_) fun c16=> ?_)
 · have hno: ¬gT b 1 6=true:=by simpa using c16
   refine sq (rT [4] (s1 (rt (dO _ [] [] rfl (bw rfl (aA D.sl ?_) trivial) rfl rfl))))
   rw[vo hno];rfl
 have hin:gT b 1 6=true:=by simpa using c16
 have hb:1≤b∧b≤6:=by simpa[gT] using hin
 have hst:=xZ.start (b:=b) (by omega)
 refine sk (sq (rT [0,1,5] (s1 (ai (by refine⟨rfl,by omega,?_⟩;show((16:Nat):Int)*_≤_;omega) (s1 (sq (sq (rT [0,1,5,6] (s1 (bk (SW.loopW (n:=sV (aWb b.toNat ([]:List UInt8))+1) (fun q s=> ∃(kn:List (List UInt8)) (ag:Bool),q=(if ag then sV kn+1 else 0)∧xZ b kn∧(ag=true→qT b l 7 kn=bS b l)∧(ag=false→kn=bS b l)∧s=[tI 0 b,tD 1 (.sl (aR l)),tO 5 18 b.toNat,tB 6 (ag),oR 18 9 1 (aY (kn))]) ?_ ?_)))))))))))
 · refine wq (σ':=[tI 0 b,tD 1 (.sl (aR l)),tO 5 18 b.toNat,tB 6 (true),oR 18 9 1 (aY (aWb b.toNat []))]) [] [] (⟨_,true,rfl,hst,fun _=>(aC hin).symm,fun h=>(by cases h),rfl⟩) ?_
   repeat' apply ai
   all_goals first|exact qx|rfl|(simp[aY];done)|exact qz
 rintro n s ⟨kn,ag,rfl,hk,hp1,hp2,rfl⟩
 refine sq (sq (rT [0,1,5,19] (s1 (cd rfl (fun c19=> ?_) fun c19=> ?_))))
 · have hag:ag=true:=c19
   have hgo:=hp1 hag
   refine sk (bk (sq (rT [0,1,5,6] (s1 (sq (rT [0,1,5,6,20,21,22] (s3 (bk (SW.loopW (n:=l.length) (fun q s=> ∃i:Nat,q=l.length - i∧i≤l.length∧s=[tI 0 b,tD 1 (.sl (aR l)),tO 5 18 b.toNat,tB 6 (bD b (l.take i) (kn,false)).2,tD 20 (.sl (aR l)),tI 21 (l.length:Nat),tI 22 (i:Nat),oR 18 9 1 (aY ((bD b (l.take i) (kn,false)).1))]) ?_ ?_)))))))))
   · refine wq (σ':=[tI 0 b,tD 1 (.sl (aR l)),tO 5 18 b.toNat,tB 6 (bD b (l.take 0) (kn,false)).2,tD 20 (.sl (aR l)),tI 21 (l.length:Nat),tI 22 (0:Nat),oR 18 9 1 (aY ((bD b (l.take 0) (kn,false)).1))]) [] [] (⟨0,rfl,aVv _,rfl⟩) ?_
     repeat' apply ai
     all_goals first|exact qx|rfl|(rw[aK];done)|exact qz
   rintro n s ⟨i,rfl,hi,rfl⟩
   refine sq (rT [0,1,5,6,20,21,22,23] (s1 (sq (cd rfl (fun c23=> ?_) fun c23=> ?_))))
   · have hi2:i<l.length:=by simp at c23;omega
     have hg:=eP (l:=l) hi2
     have hki:=(mZ (l:=l.take i) (s:=(kn,false)) hk).1
     have hsn:=zS (b:=b) (m:=(l.getD i .zero)) (l:=l.take i) (s:=(kn,false))
     rw[← dH (z:=cU.zero) hi2] at hsn
     have hkl:=hki.1
     refine sk (sq (bk (sq (rT [0,1,5,6,8,20,21,22] (ai (by rw[aVr,hg];exact⟨⟨by omega,by rw[aK];omega⟩,rfl⟩) (ai (by rw[aVr,hg];exact⟨aVs rfl,rfl⟩) (s2 (sq (sq (wa [tI 0 b,tD 1 (.sl (aR l)),tO 5 18 b.toNat,tB 6 (bD b (l.take i) (kn,false)).2,tD 20 (.sl (aR l)),tI 21 (l.length:Nat),tI 22 (i:Nat),tP 8 8,oB 8 86 [.d (.i (l.getD i .zero).num),.d (.s (l.getD i .zero).data)],oR 18 9 1 (aY ((bD b (l.take i) (kn,false)).1))] [] [] ?_ ?_))))))))))
     · repeat' apply ai
       all_goals first|exact qx|(rw[aVr,hg];rfl)|exact qz
     refine rT [0,1,5,6,8,20,21,22,35] (s2 (xp (dM _ _ _) (ai rfl ?_)))
     refine s2 (y4 (ai pk (cd rfl (fun c35=> ?_) fun c35=> ?_)))
     · have hmx:oV b (l.getD i .zero)=false:=aBe hb c35
       have hpo:fX b (bD b (l.take i) (kn,false)).1 (l.getD i .zero)=((bD b (l.take i) (kn,false)).1,false):=by unfold fX;rw[hmx];rfl
       rw[hpo] at hsn
       refine xt (rT [0,1,5,6,20,21,22] (s2 (wq [] [] (⟨l.length - (i+1),by omega,i+1,rfl,by omega,rfl⟩) ?_)))
       repeat' apply ai
       all_goals first|exact qx|exact aA D.i (by rw[aF (by omega)];omega)|(rw[hsn];done)|(rw[hsn,Bool.or_false];done)|(rw[hsn,Bool.or_true];done)|(rw[hsn,aV3,hlast];exact eb (by omega))|exact qz
     have hmx:oV b (l.getD i .zero)=true:=aBe hb c35
     have hm4: (l.getD i .zero).data.length=4:=pu hmx
     refine sk (sq (rT [0,1,5,6,8,9,10,11,20,21,22] (s5 (sq (sq (rT [0,1,5,6,9,10,11,20,21,22,41,42,43] (s3 (xp (aC5 b (l.getD i .zero).num) (ai rfl ?_)))))))))
     refine s2 (bk (SW.loopW (n:=(cB b (l.getD i .zero).num).length) (fun q s=> ∃j:Nat,q=(cB b (l.getD i .zero).num).length - j∧j≤(cB b (l.getD i .zero).num).length∧s=[tI 0 b,tD 1 (.sl (aR l)),tO 5 18 b.toNat,tB 6 (bD b (l.take i) (kn,false)).2,tD 9 (.s (mN (bD b (l.take i) (kn,false)).1 (l.getD i .zero).data ((cB b (l.getD i .zero).num).take j))),tI 10 ((fL (bD b (l.take i) (kn,false)).1 ((cB b (l.getD i .zero).num).take j)).getLastD (-1)),tI 11 ((fL (bD b (l.take i) (kn,false)).1 ((cB b (l.getD i .zero).num).take j)).length:Nat),tD 20 (.sl (aR l)),tI 21 (l.length:Nat),tI 22 (i:Nat),tD 41 (.sl (bW (cB b (l.getD i .zero).num))),tI 42 ((cB b (l.getD i .zero).num).length:Nat),tI 43 (j:Nat),oB 8 86 [.d (.i (l.getD i .zero).num),.d (.s (l.getD i .zero).data)],oR 18 9 1 (aY ((bD b (l.take i) (kn,false)).1))]) ?_ ?_))
     · refine wq (σ':=[tI 0 b,tD 1 (.sl (aR l)),tO 5 18 b.toNat,tB 6 (bD b (l.take i) (kn,false)).2,tD 9 (.s (mN (bD b (l.take i) (kn,false)).1 (l.getD i .zero).data ((cB b (l.getD i .zero).num).take 0))),tI 10 ((fL (bD b (l.take i) (kn,false)).1 ((cB b (l.getD i .zero).num).take 0)).getLastD (-1)),tI 11 ((fL (bD b (l.take i) (kn,false)).1 ((cB b (l.getD i .zero).num).take 0)).length:Nat),tD 20 (.sl (aR l)),tI 21 (l.length:Nat),tI 22 (i:Nat),tD 41 (.sl (bW (cB b (l.getD i .zero).num))),tI 42 ((cB b (l.getD i .zero).num).length:Nat),tI 43 (0:Nat),oB 8 86 [.d (.i (l.getD i .zero).num),.d (.s (l.getD i .zero).data)],oR 18 9 1 (aY ((bD b (l.take i) (kn,false)).1))]) [] [] (⟨0,rfl,aVv _,rfl⟩) ?_
       repeat' apply ai
       all_goals first|exact qx|rfl|(rw[bN];done)|exact qz
     rintro n s ⟨j,rfl,hj,rfl⟩
     refine sq (rT [0,1,5,6,9,10,11,20,21,22,41,42,43,44] (s1 (sq (cd rfl (fun c44=> ?_) fun c44=> ?_))))
     · have hj2:j< (cB b (l.getD i .zero).num).length:=by have h9:=of_decide_eq_true c44;omega
       have hml:=kc b (l.getD i .zero).num
       have hts:=dH (z:=(0:Int)) hj2
       have hio:=gW (l:=(cB b (l.getD i .zero).num)) (i:=j) hj2
       have hjr:=sU ((cB b (l.getD i .zero).num).getD j 0) (cM hj2)
       have hj3: ((cB b (l.getD i .zero).num).getD j 0)< ((bD b (l.take i) (kn,false)).1.length:Int):=by omega
       have hsr:=eN (l:=(bD b (l.take i) (kn,false)).1) (i:=((cB b (l.getD i .zero).num).getD j 0).toNat) (by omega)
       have hat:=hki.at (j:=((cB b (l.getD i .zero).num).getD j 0).toNat) (by omega)
       have hlj: (fL (bD b (l.take i) (kn,false)).1 ((cB b (l.getD i .zero).num).take j)).length≤6:=Nat.le_trans (List.length_filter_le _ _) (by rw[aV0];omega)
       refine sk (sq (bk (sq (rT [0,1,5,6,9,10,11,13,20,21,22,41,42,43] (ai (by rw[aVr,hio];exact⟨⟨by omega,by rw[bN];omega⟩,rfl⟩) (ai (by rw[aVr,hio];exact⟨aVs rfl,rfl⟩) (s1 (sq (wa [tI 0 b,tD 1 (.sl (aR l)),tO 5 18 b.toNat,tB 6 (bD b (l.take i) (kn,false)).2,tD 9 (.s (mN (bD b (l.take i) (kn,false)).1 (l.getD i .zero).data ((cB b (l.getD i .zero).num).take j))),tI 10 ((fL (bD b (l.take i) (kn,false)).1 ((cB b (l.getD i .zero).num).take j)).getLastD (-1)),tI 11 ((fL (bD b (l.take i) (kn,false)).1 ((cB b (l.getD i .zero).num).take j)).length:Nat),tI 13 ((cB b (l.getD i .zero).num).getD j 0),tD 20 (.sl (aR l)),tI 21 (l.length:Nat),tI 22 (i:Nat),tD 41 (.sl (bW (cB b (l.getD i .zero).num))),tI 42 ((cB b (l.getD i .zero).num).length:Nat),tI 43 (j:Nat),oB 8 86 [.d (.i (l.getD i .zero).num),.d (.s (l.getD i .zero).data)],oR 18 9 1 (aY ((bD b (l.take i) (kn,false)).1))] [] [] ?_ ?_)))))))))
       · repeat' apply ai
         all_goals first|exact qx|(rw[aVr,hio];rfl)|exact qz
       refine rT [0,1,5,6,9,10,11,13,20,21,22,41,42,43,51] (s2 (ai (by exact⟨by rw[aJ];omega,hjr.1,by omega⟩) (ai (by rw[hsr];exact⟨⟨by rw[aJ];omega,by omega⟩,aVz _,rfl⟩) (s1 (cd rfl (fun c51=> ?_) fun c51=> ?_)))))
       · have hu:unk (bD b (l.take i) (kn,false)).1 ((cB b (l.getD i .zero).num).getD j 0)=true:=by
          have h9:=c51
          rw[hsr] at h9
          have h9: (((bD b (l.take i) (kn,false)).1.getD ((cB b (l.getD i .zero).num).getD j 0).toNat [])==[])=true:=h9
          unfold unk;rw[beq_iff_eq.1 h9];rfl
         have hL:=cj (ks:=(cB b (l.getD i .zero).num).take j) hu
         have hX:=aBb (x:=(l.getD i .zero).data) (ks:=(cB b (l.getD i .zero).num).take j) hu
         refine sq (rT [0,1,5,6,9,10,11,20,21,22,41,42,43] (s2 (rT [0,1,5,6,9,10,11,20,21,22,41,42,43] (s3 (rT [0,1,5,6,9,10,11,20,21,22,41,42,43] (s2 (wq [] [] (⟨(cB b (l.getD i .zero).num).length - (j+1),by omega,j+1,rfl,by omega,rfl⟩) ?_)))))))
         repeat' apply ai
         all_goals first|exact qx|exact aA D.i (by rw[aF (by omega)];omega)|(rw[hts,hX];done)|(rw[hts,hL];done)|(rw[hts,hL,aBc];done)|(rw[hts,hL,aVt,aF (by omega)];rfl)|(rw[hts,hX,hsr];rfl)|exact qz
       have hne: ¬((bD b (l.take i) (kn,false)).1.getD ((cB b (l.getD i .zero).num).getD j 0).toNat [])=[]:=by
        have h9:=c51
        rw[hsr] at h9
        have h9: (((bD b (l.take i) (kn,false)).1.getD ((cB b (l.getD i .zero).num).getD j 0).toNat [])==[])=false:=h9
        exact beq_eq_false_iff_ne.1 h9
       have hu:unk (bD b (l.take i) (kn,false)).1 ((cB b (l.getD i .zero).num).getD j 0)=false:=by unfold unk;simpa using hne
       have h4: ((bD b (l.take i) (kn,false)).1.getD ((cB b (l.getD i .zero).num).getD j 0).toNat []).length=4:=by rcases hat with h9|h9;exact absurd (List.eq_nil_of_length_eq_zero h9) hne;exact h9
       have hL:=fa (ks:=(cB b (l.getD i .zero).num).take j) hu
       have hX:=aE8 (x:=(l.getD i .zero).data) (ks:=(cB b (l.getD i .zero).num).take j) hu
       refine rT [0,1,5,6,9,10,11,20,21,22,41,42,43] (s3 (ai (by exact⟨by rw[aJ];omega,hjr.1,by omega⟩) (ai (by rw[hsr];exact⟨⟨by rw[aJ];omega,by omega⟩,aVz _,rfl⟩) (xp (aC8 (mN (bD b (l.take i) (kn,false)).1 (l.getD i .zero).data ((cB b (l.getD i .zero).num).take j)) ((bD b (l.take i) (kn,false)).1.getD ((cB b (l.getD i .zero).num).getD j 0).toNat []) (uD hm4) h4) (ai (by rw[hsr];rfl) ?_)))))
       refine s1 (rT [0,1,5,6,9,10,11,20,21,22,41,42,43] (s2 (wq [] [] (⟨(cB b (l.getD i .zero).num).length - (j+1),by omega,j+1,rfl,by omega,rfl⟩) ?_)))
       repeat' apply ai
       all_goals first|exact qx|exact aA D.i (by rw[aF (by omega)];omega)|(rw[hts,hX];done)|(rw[hts,hL];done)|(rw[hts,hL,aBc];done)|(rw[hts,hL,aVt,aF (by omega)];rfl)|(rw[hts,hX,hsr];rfl)|exact qz
     have hj4:j=(cB b (l.getD i .zero).num).length:=by have h9:=of_decide_eq_false c44;omega
     subst hj4
     clear hj
     refine xt (sq (rT [0,1,5,6,9,10,20,21,22,63] (s2 (cd rfl (fun c63=> ?_) fun c63=> ?_))))
     · have hlen: (fL (bD b (l.take i) (kn,false)).1 (cB b (l.getD i .zero).num)).length=1:=by have h9:=aM8 c63;rw[aV3] at h9;exact h9
       have hlast: (fL (bD b (l.take i) (kn,false)).1 (cB b (l.getD i .zero).num)).getLastD (-1)=(fL (bD b (l.take i) (kn,false)).1 (cB b (l.getD i .zero).num)).getD 0 0:=aM7 hlen
       have hpo:fX b (bD b (l.take i) (kn,false)).1 (l.getD i .zero)=((bD b (l.take i) (kn,false)).1.set ((fL (bD b (l.take i) (kn,false)).1 (cB b (l.getD i .zero).num)).getD 0 0).toNat (mN (bD b (l.take i) (kn,false)).1 (l.getD i .zero).data (cB b (l.getD i .zero).num)),true):=by unfold fX;rw[hmx,hlen];rfl
       rw[hpo] at hsn
       have hlr:=sU _ (nc (cM (z:=(0:Int)) (l:=(fL (bD b (l.take i) (kn,false)).1 (cB b (l.getD i .zero).num))) (i:=0) (by omega))).1
       have hsg:=eN (l:=(bD b (l.take i) (kn,false)).1) (i:=((fL (bD b (l.take i) (kn,false)).1 (cB b (l.getD i .zero).num)).getD 0 0).toNat) (by omega)
       refine sq (rT [0,1,5,20,21,22] (s3 (ai (by rw[aV3,hlast];exact⟨by rw[aJ];omega,hlr.1,by have:=hlr.2;omega⟩) (ai (by rw[aV3,hlast,hsg];exact⟨by rw[aJ];omega,by have:=hlr.2;omega,rfl,aVz _⟩) (rT [0,1,5,6,20,21,22] (s1 (rT [0,1,5,6,20,21,22] (s2 (wq [] [] (⟨l.length - (i+1),by omega,i+1,rfl,by omega,rfl⟩) ?_)))))))))
       repeat' apply ai
       all_goals first|exact qx|exact aA D.i (by rw[aF (by omega)];omega)|(rw[hsn];done)|(rw[hsn,Bool.or_false];done)|(rw[hsn,Bool.or_true];done)|(rw[hsn,aV3,hlast];exact eb (by omega))|exact qz
     have hlen: ¬(fL (bD b (l.take i) (kn,false)).1 (cB b (l.getD i .zero).num)).length=1:=by have h9:=vm c63;rw[aV3] at h9;exact h9
     have hpo:fX b (bD b (l.take i) (kn,false)).1 (l.getD i .zero)=((bD b (l.take i) (kn,false)).1,false):=by unfold fX;rw[hmx,beq_eq_false_iff_ne.2 hlen];rfl
     rw[hpo] at hsn
     refine sk (rT [0,1,5,6,20,21,22] (s2 (wq [] [] (⟨l.length - (i+1),by omega,i+1,rfl,by omega,rfl⟩) ?_)))
     repeat' apply ai
     all_goals first|exact qx|exact aA D.i (by rw[aF (by omega)];omega)|(rw[hsn];done)|(rw[hsn,Bool.or_false];done)|(rw[hsn,Bool.or_true];done)|(rw[hsn,aV3,hlast];exact eb (by omega))|exact qz
   have hi3:i=l.length:=by simp at c23;omega
   subst hi3
   clear hi
   refine xt ?_
   rw[aV3]
   cases hrr: (bD b l (kn,false)).2 with
   |true=>
    obtain⟨g1,g2,g3⟩:=aIv hb.2 hk hrr
    refine wk [tI 0 b,tD 1 (.sl (aR l)),tO 5 18 b.toNat,tB 6 (true),oR 18 9 1 (aY ((bD b l (kn,false)).1))] [] [] (⟨_,by rw[hag];simpa using g2,_,true,rfl,g3,fun _=>by rw[← g1];exact hgo,fun h=>(by cases h),rfl⟩) ?_ rfl rfl
    repeat' first|exact trivial|refine qB rfl ?_|refine iG rfl ?_ ?_|refine lD rfl rfl ?_ rfl ?_|refine cJ rfl ?_ ?_|refine vT rfl rfl rfl rfl ?_|refine pD rfl ?_ ?_|refine dS rfl ?_ ?_|exact bG|refine aN ?_ ?_|refine mM ?_|refine dP rfl ?_ rfl ?_|refine qD rfl rfl rfl ?_
    all_goals first|with_reducible rfl|(first|with_reducible rfl|(rw[hrr];done))
   |false=>
    have ge:=aE9 hrr
    refine wk [tI 0 b,tD 1 (.sl (aR l)),tO 5 18 b.toNat,tB 6 (false),oR 18 9 1 (aY ((bD b l (kn,false)).1))] [] [] (⟨_,by rw[hag];simp,_,false,rfl,(mZ (l:=l) (s:=(kn,false)) hk).1,fun h=>(by cases h),fun _=>by rw[← ge];exact hgo,rfl⟩) ?_ rfl rfl
    repeat' first|exact trivial|refine qB rfl ?_|refine iG rfl ?_ ?_|refine lD rfl rfl ?_ rfl ?_|refine cJ rfl ?_ ?_|refine vT rfl rfl rfl rfl ?_|refine pD rfl ?_ ?_|refine dS rfl ?_ ?_|exact bG|refine aN ?_ ?_|refine mM ?_|refine dP rfl ?_ rfl ?_|refine qD rfl rfl rfl ?_
    all_goals first|with_reducible rfl|(first|with_reducible rfl|(rw[hrr];done))
 have hag:ag=false:=c19
 have hfin:=hp2 hag
 refine xt (sq (rT [4] (s2 (rt (dO _ [] [18] rfl (dD rfl rfl rfl ?_ (aA D.sl ?_) trivial) rfl rfl)))))
 · rw[aJ];have:=hk.1;omega
 rw[hfin]
theorem wy (size:Int) (l:List cU) (hl:l.length≤1000000):Sp 58 2 [tI 0 size,tD 1 (.sl (aR l))] [tV 0 (.tup [.c (.d (.s (cF size l).1)),.c (.d (.b (cF size l).2))])]:=by
 refine sb Tryz.func58 rfl (sq (rT [0,1] (s2 (sq (sq (rT [0,1,12] (s1 (xp (dM _ _ _) (ai rfl ?_)))))))))
 refine s1 (cd rfl (fun c12=> ?_) fun c12=> ?_)
 · have hno: ¬gT size 1 24=true:=by simpa using c12
   refine sq (rT [4,5] (s2 (rt ?_)))
   have hr:=pw (l:=l) hno
   refine bI rfl rfl ?_
   rw[hr]<;>rfl
 have hin:gT size 1 24=true:=by simpa using c12
 have hs2:1≤size∧size≤24:=by simpa[gT] using hin
 have hko:=vn (b:=(size+3) / 4) (l:=l) (by omega)
 have hk1:=hko.1
 have hle:=fun i=>vp hko.2 (i:=i)
 have hbk:Int.tdiv (wrap64 (wrap64 (size+4) - 1)) 4=(size+3) / 4:=by rw[aF (n:=size+4) (by omega),aF (by omega),Int.tdiv_eq_ediv_of_nonneg (by omega),show size+4 - 1=size+3 by omega]
 have hbk2:wrap64 (Int.tdiv (wrap64 (wrap64 (size+4) - 1)) 4)=(size+3) / 4:=by rw[hbk];exact aF (by omega)
 refine sk (sq (rT [0,1,6] (s1 (sq (sq (rT [0,6,18,19,20] (s3 (ai (by decide) (s1 (xp (wx ((size+3) / 4) l hl) (ai (by first|(rw[hbk2];rfl)|(rw[hbk];rfl)) ?_)))))))))))
 refine s2 (bk (SW.loopW (n:=(bS ((size+3) / 4) l).length) (fun q s=> ∃i:Nat,q=(bS ((size+3) / 4) l).length - i∧i≤(bS ((size+3) / 4) l).length∧(∀j,j<i→((bS ((size+3) / 4) l).getD j []).length≠0)∧s=[tI 0 size,tD 6 (.s (sW (bS ((size+3) / 4) l) (i))),tD 18 (.sl (aY (bS ((size+3) / 4) l))),tI 19 ((bS ((size+3) / 4) l).length:Nat),tI 20 (i:Nat)]) ?_ ?_))
 · refine wq (σ':=[tI 0 size,tD 6 (.s (sW (bS ((size+3) / 4) l) (0))),tD 18 (.sl (aY (bS ((size+3) / 4) l))),tI 19 ((bS ((size+3) / 4) l).length:Nat),tI 20 (0:Nat)]) [] [] (⟨0,rfl,aVv _,fun j h=>absurd h (by omega),rfl⟩) ?_
   repeat' apply ai
   all_goals first|exact qx|rfl|(rw[aJ];done)|exact qz
 rintro n s ⟨i,rfl,hi,hk,rfl⟩
 refine sq (rT [0,6,18,19,20,21] (s1 (sq (cd rfl (fun c21=> ?_) fun c21=> ?_))))
 · have hi2:i< (bS ((size+3) / 4) l).length:=by have h9:=of_decide_eq_true c21;omega
   have hg:=eN (l:=(bS ((size+3) / 4) l)) hi2
   have hsu:=zT hi2
   have hli:=hle i
   have h4:=hko.at hi2
   refine sk (sq (bk (sq (rT [0,6,8,18,19,20] (ai (by rw[aVr,hg];exact⟨⟨by omega,by rw[aJ];omega⟩,rfl⟩) (ai (by rw[aVr,hg];exact⟨aVs rfl,rfl⟩) (s1 (sq (sq (wa [tI 0 size,tD 6 (.s (sW (bS ((size+3) / 4) l) (i))),tD 8 (.s ((bS ((size+3) / 4) l).getD i [])),tD 18 (.sl (aY (bS ((size+3) / 4) l))),tI 19 ((bS ((size+3) / 4) l).length:Nat),tI 20 (i:Nat)] [] [] ?_ ?_))))))))))
   · repeat' apply ai
     all_goals first|exact qx|(rw[aVr,hg];rfl)|exact qz
   refine rT [0,6,8,18,19,20,25] (s2 (cd rfl (fun c25=> ?_) fun c25=> ?_))
   · have he: (bS ((size+3) / 4) l).getD i []=[]:=beq_iff_eq.1 c25
     refine sq (rT [4,5] (s2 (rt ?_)))
     have hr:=ko hin (fb hi2 he)
     refine bI rfl rfl ?_
     rw[hr]<;>rfl
   have hs: ((bS ((size+3) / 4) l).getD i []).length≠0:=by
    have h9:=c25
    intro e
    rw[List.eq_nil_of_length_eq_zero e] at h9
    exact absurd h9 (by decide)
   refine sk (rT [0,6,18,19,20] (s2 (ai (by show _+((bS ((size+3) / 4) l).getD i []).length≤9223372036854775807;omega) (s1 (rT [0,6,18,19,20] (s2 (wq [] [] (⟨(bS ((size+3) / 4) l).length - (i+1),by omega,i+1,rfl,by omega,fun j h=>by by_cases e:j=i;exact e▸hs;exact hk j (by omega),rfl⟩) ?_)))))))
   repeat' apply ai
   all_goals first|exact qx|exact aA D.i (by rw[aF (by omega)];omega)|(rw[hsu];done)|exact qz
 have hi3:i=(bS ((size+3) / 4) l).length:=by have h9:=of_decide_eq_false c21;omega
 subst hi3
 have hae:=kl hk
 have hal:=vt hko.2 (aVz _) hk
 rw[ec] at hal
 clear hi hk
 refine xt (sq (sq (rT [0,6,9] (s2 (bk (SW.loopW (n:=(jU (bS ((size+3) / 4) l)).length - size.toNat) (fun q s=> ∃i:Nat,q=(jU (bS ((size+3) / 4) l)).length - i∧(size.toNat≤i∧i≤(jU (bS ((size+3) / 4) l)).length)∧(∀j,size.toNat≤j→j<i→(jU (bS ((size+3) / 4) l)).getD j 0=0)∧s=[tI 0 size,tD 6 (.s (jU (bS ((size+3) / 4) l))),tI 9 (i:Nat)]) ?_ ?_))))))
 · have hss:size.toNat≤(jU (bS ((size+3) / 4) l)).length:=by omega
   refine wq [] [] (⟨size.toNat,rfl,by omega,fun j h1 h2=>absurd h1 (by omega),rfl⟩) ?_
   repeat' apply ai
   all_goals first|exact qx|exact aA D.i (by omega)|(rw[ec];done)|exact qz
 rintro n s ⟨i,rfl,hi,hk,rfl⟩
 refine sq (sq (rT [0,6,9,34] (s4 (cd rfl (fun c34=> ?_) fun c34=> ?_))))
 · have hi2:i< (jU (bS ((size+3) / 4) l)).length:=by have h9:=of_decide_eq_true c34;omega
   refine sk (sq (bk (sq (rT [0,6,9,40] (s2 (ai (by omega) (s1 (cd rfl (fun c40=> ?_) fun c40=> ?_))))))))
   · have hnz: (jU (bS ((size+3) / 4) l)).getD i 0≠0:=by
      intro e
      have h9:=c40
      rw[aVr,e] at h9
      exact absurd h9 (by decide)
     refine sq (rT [4,5] (s2 (rt ?_)))
     have hr:=kp hin hae (km hi.1 hi2 hnz)
     refine bI rfl rfl ?_
     rw[hr]<;>rfl
   have hs: (jU (bS ((size+3) / 4) l)).getD i 0=0:=by
    have h9:=c40
    rw[aVr] at h9
    have h11: (((jU (bS ((size+3) / 4) l)).getD i 0).toNat:Int)=0:=by simpa only[bne_eq_false_iff_eq] using h9
    apply UInt8.toNat_inj.1
    have h6: (0:UInt8).toNat=0:=rfl
    omega
   refine sk (rT [0,6,9] (s3 (wq [] [] (⟨(jU (bS ((size+3) / 4) l)).length - (i+1),by omega,i+1,rfl,by omega,fun j h1 h2=>by by_cases e:j=i;exact e▸hs;exact hk j h1 (by omega),rfl⟩) ?_)))
   repeat' apply ai
   all_goals first|exact qx|exact aA D.i (by rw[aF (by omega)];omega)|exact qz
 have hi3:i=(jU (bS ((size+3) / 4) l)).length:=by have h9:=of_decide_eq_false c34;omega
 have hz:=pv (n:=size.toNat) (fun j h1 h2=>hk j h1 (by omega))
 refine xt (sq (rT [4,5] (s2 (ai (by simp[bnd,gD,iE];omega) (s2 (rt ?_))))))
 have hr:=px hin hae hz
 refine bI rfl rfl ?_
 rw[hr]<;>rfl
theorem wz (f:bH):Sp 60 1 [tV 0 f.V] [tB 0 (dV f)]:=by
 refine sb Tryz.func60 rfl (sq (rT [1] (s2 (sq (sq (rT [1,36] (s2 (xp (eB _) (ai rfl ?_)))))))))
 refine s2 (y2 (xc (fun h=>(eB _)) (ai rfl (ai rk ?_))))
 refine y1 (ai pk (s1 (y2 (xc (fun h=>(eB _)) (ai rfl (ai rk ?_))))))
 refine y1 (ai pk (s1 (y2 (xc (fun h=>(eB _)) (ai rfl (ai rk ?_))))))
 refine y1 (ai pk (s1 (y2 (xc (fun h=>(dM _ _ _)) (ai rfl (ai rk ?_))))))
 refine y1 (ai pk (s1 (y2 (xc (fun h=>(dM _ _ _)) (ai rfl (ai rk ?_))))))
 refine y1 (ai pk (cd rfl (fun c36=> ?_) fun c36=> ?_))
 · refine sq (rT [2] (s1 (rt (aU rfl (aA D.b (Bool.eq_iff_iff.2 ?_))))))
   simp only[dV,gb,aVu,Bool.or_eq_false_iff,Bool.not_eq_false,aWc,Bool.not_eq_true,beq_iff_eq,aD,bne_iff_ne,Bool.not_eq_true,List.length_eq_zero_iff,beq_eq_false_iff_ne,bne_eq_false_iff_eq] at*
   grind[gT]
 refine sk (sq (sq (rT [1,38] (s2 (bk (sq (rT [1,38,39] (s2 (cd rfl (fun c39=> ?_) fun c39=> ?_)))))))))
 · refine sq (rD [2] (s2 (xp (dM _ _ _) (ai rfl ?_))))
   refine s1 (y2 (xc (fun h=>(dM _ _ _)) (ai rfl (ai rk ?_))))
   refine ai pk (s1 (y4 (ai pk (s1 (y4 (y2 (xc (fun h=>(tJ _ _)) (ai rfl (ai rk ?_)))))))))
   refine y1 (ai pk (s1 (ai (by kernel_rfl) (rt (aU rfl (aA D.b (Bool.eq_iff_iff.2 ?_)))))))
   simp only[dV,gb,aVu,Bool.or_eq_false_iff,Bool.not_eq_false,aWc,Bool.not_eq_true,beq_iff_eq,aD,bne_iff_ne,Bool.not_eq_true,List.length_eq_zero_iff,beq_eq_false_iff_ne,bne_eq_false_iff_eq] at*
   grind[gT]
 refine sq (sq (rT [1,38,65] (s2 (cd rfl (fun c65=> ?_) fun c65=> ?_))))
 · refine sk (cd rfl (fun c65=> ?_) fun c65=> ?_)
   · refine sq (rD [2] (s4 (y3 (ai pk (s1 (y3 (ai pk (s1 (y4 (y2 (xc (fun h=>(tJ _ _)) (ai rfl (ai rk ?_)))))))))))))
     refine y1 (ai pk (s1 (ai (by kernel_rfl) (rt (aU rfl (aA D.b (Bool.eq_iff_iff.2 ?_)))))))
     simp only[dV,gb,aVu,Bool.or_eq_false_iff,Bool.not_eq_false,aWc,Bool.not_eq_true,beq_iff_eq,aD,bne_iff_ne,Bool.not_eq_true,List.length_eq_zero_iff,beq_eq_false_iff_ne,bne_eq_false_iff_eq] at*
     grind[gT]
   refine sk (sq (rT [2] (s1 (rt (aU rfl (aA D.b (Bool.eq_iff_iff.2 ?_)))))))
   simp only[dV,gb,aVu,Bool.or_eq_false_iff,Bool.not_eq_false,aWc,Bool.not_eq_true,beq_iff_eq,aD,bne_iff_ne,Bool.not_eq_true,List.length_eq_zero_iff,beq_eq_false_iff_ne,bne_eq_false_iff_eq] at*
   grind[gT]
 refine rT [1,65] (s2 (cd rfl (fun c65=> ?_) fun c65=> ?_))
 · refine sq (rD [2] (s4 (y3 (ai pk (s1 (y3 (ai pk (s1 (y4 (y2 (xc (fun h=>(tJ _ _)) (ai rfl (ai rk ?_)))))))))))))
   refine y1 (ai pk (s1 (ai (by kernel_rfl) (rt (aU rfl (aA D.b (Bool.eq_iff_iff.2 ?_)))))))
   simp only[dV,gb,aVu,Bool.or_eq_false_iff,Bool.not_eq_false,aWc,Bool.not_eq_true,beq_iff_eq,aD,bne_iff_ne,Bool.not_eq_true,List.length_eq_zero_iff,beq_eq_false_iff_ne,bne_eq_false_iff_eq] at*
   grind[gT]
 refine sk (sq (rT [2] (s1 (rt (aU rfl (aA D.b (Bool.eq_iff_iff.2 ?_)))))))
 simp only[dV,gb,aVu,Bool.or_eq_false_iff,Bool.not_eq_false,aWc,Bool.not_eq_true,beq_iff_eq,aD,bne_iff_ne,Bool.not_eq_true,List.length_eq_zero_iff,beq_eq_false_iff_ne,bne_eq_false_iff_eq] at*
 grind[gT]
theorem xa (f:bH):Sp 98 1 [tV 0 f.V] [tB 0 (dV f)]:=by
 refine sb Tryz.func98 rfl (sq (rT [1] (s2 (sq (sq (rT [1,42] (s2 (xp (dU _ _ _) (ai rfl ?_)))))))))
 refine s2 (y2 (xc (fun h=>(dT _)) (ai rfl (ai rk ?_))))
 refine y1 (ai pk (s1 (y2 (xc (fun h=>(dT _)) (ai rfl (ai rk ?_))))))
 refine y1 (ai pk (s1 (y2 (xc (fun h=>(dT _)) (ai rfl (ai rk ?_))))))
 refine y1 (ai pk (s1 (y2 (xc (fun h=>(dT _)) (ai rfl (ai rk ?_))))))
 refine y1 (ai pk (s1 (y2 (xc (fun h=>(dU _ _ _)) (ai rfl (ai rk ?_))))))
 refine y1 (ai pk (s1 (y2 (xc (fun h=>(dU _ _ _)) (ai rfl (ai rk ?_))))))
 refine y1 (ai pk (cd rfl (fun c42=> ?_) fun c42=> ?_))
 · refine sq (rT [2] (s1 (rt (aU rfl (aA D.b (Bool.eq_iff_iff.2 ?_))))))
   simp only[dV,gb,aVu,Bool.or_eq_false_iff,Bool.not_eq_false,aWc,Bool.not_eq_true,beq_iff_eq,aD,bne_iff_ne,Bool.not_eq_true,List.length_eq_zero_iff,beq_eq_false_iff_ne,bne_eq_false_iff_eq] at*
   grind[gT]
 refine sk (sq (sq (rT [1,45] (s3 (cd rfl (fun c45=> ?_) fun c45=> ?_)))))
 · refine sq (rD [2] (s4 (xp (az _ _) (ai rfl ?_))))
   refine s4 (y3 (ai pk (s1 (y3 (ai pk (s1 (y3 (ai pk (s1 (ai (by kernel_rfl) (rt (aU rfl (aA D.b (Bool.eq_iff_iff.2 ?_))))))))))))))
   simp only[dV,gb,aVu,Bool.or_eq_false_iff,Bool.not_eq_false,aWc,Bool.not_eq_true,beq_iff_eq,aD,bne_iff_ne,Bool.not_eq_true,List.length_eq_zero_iff,beq_eq_false_iff_ne,bne_eq_false_iff_eq] at*
   grind[gT]
 refine sk (sq (rD [2] (s4 (xp (az _ _) (ai rfl ?_)))))
 refine s4 (y2 (xc (fun h=>(dU _ _ _)) (ai rfl (ai rk ?_))))
 refine ai pk (s1 (y2 (xc (fun h=>(dU _ _ _)) (ai rfl (ai rk ?_)))))
 refine ai pk (s1 (y4 (ai pk (s1 (ai (by kernel_rfl) (rt (aU rfl (aA D.b (Bool.eq_iff_iff.2 ?_)))))))))
 simp only[dV,gb,aVu,Bool.or_eq_false_iff,Bool.not_eq_false,aWc,Bool.not_eq_true,beq_iff_eq,aD,bne_iff_ne,Bool.not_eq_true,List.length_eq_zero_iff,beq_eq_false_iff_ne,bne_eq_false_iff_eq] at*
 grind[gT]
end Go.Proofs.YtmabaopgkimfmaaGreatDoor
namespace Go.Ab
open Int renaming toNat_natCast→aVr
open Nat renaming le_of_ble_eq_true→aVs,zero_le→aVv,le_refl→aVz
open List renaming length_append→aVt,length_cons→aVw,length_nil→aVx,getD_eq_getElem?_getD→aVy,length_take→aV0,getElem?_eq_getElem→aV1,getElem?_eq_some_iff→aV2,take_length→aV3,length_drop→aV4,mem_map→aV5,mem_cons→aV6,range→aV7,all_eq_true→aV8,length_set→aV9,mem_singleton→aWa,replicate→aWb
open Bool renaming and_eq_true→aVu,or_eq_true→aWc
open Go Go.RowKit
set_option linter.unusedVariables false
structure zi where
 tm:Int
 ks:List aT
 ls:List Bool
 a:Nat
 b:Nat
 c:Nat
 d:Nat
def zi.ok (W:zi):Prop:=WOk W.ks W.ls W.a W.b W.c
structure zi.of (W W0:zi) (m:Nat):Prop where
 ok:W.ok
 few:W.d≤W0.d+m
theorem zi.of.refl {W:zi} (h:W.ok):W.of W 0:=⟨h,aVz _⟩
theorem zi.of.trans {W1 W2 W0:zi} {m n:Nat} (h:W1.of W0 m) (k:W2.of W1 n):W2.of W0 (m+n):=⟨k.ok,by have:=h.few;have:=k.few;omega⟩
theorem zi.of.le {W W0:zi} {m n:Nat} (h:W.of W0 m) (hn:m≤n):W.of W0 n:=⟨h.ok,by have:=h.few;omega⟩
def cw (n:Int):aT:=if dY n then⟨n,true,[],0,[]⟩ else .zero
theorem lc (n:Int):KSm (cw n):=by
 unfold cw
 split
 · exact⟨aVv _,aVv _,fun x h=>by cases h⟩
 · exact aNa
set_option linter.unusedSimpArgs false
abbrev R1 (x:Int):Prop:= -1≤x∧x≤1001
def ND (n:bA):Prop:=(R1 n.frm∧R1 n.num∧R1 n.to∧R1 n.til)∧n.text.length≤60
theorem aR5 {n:bA} (h:dZ n=true):ND n:=by
 unfold dZ dY yY at h
 simp only[aVu,gT,aD] at h
 refine⟨⟨?_,?_,?_,?_⟩,?_⟩<;>first|(unfold R1;omega)|omega
structure KD (k:aX):Prop where
 id:R1 k.id
 time:R1 k.time
 few:k.held.length≤7∧k.marks.length≤13∧k.inbox.length≤7
 held: ∀x∈k.held,ND x
 inbox: ∀x∈k.inbox,ND x
theorem aP6:KD .zero:=⟨⟨by decide,by decide⟩,⟨by decide,by decide⟩,⟨aVv _,aVv _,aVv _⟩,fun x h=>(by cases h),fun x h=>(by cases h)⟩
theorem aVo {k:aX} (h:cP k=true):KD k∧k.held.length≤6∧k.marks.length≤12∧k.inbox.length≤6:=by
 have h6:=eR h
 obtain⟨⟨h1,h2,_⟩,⟨h4,h5,h7⟩,_⟩:=(cG k).1 h
 have e1:R1 k.id:=by unfold dY at h1;simp only[gT,aVu,aD] at h1;omega
 have e2:R1 k.time:=by omega
 exact⟨⟨e1,e2,⟨by have:=h6.1;omega,by have:=h6.1;omega,by have:=h6.1;omega⟩,fun x hx=>aR5 (pM h4 hx),fun x hx=>aR5 (pM h7 hx)⟩,h6.1⟩
def OZ (k:aX):Prop:=cP k=true∨k= .zero
theorem OZ.kd {k:aX} (h:OZ k):KD k∧k.held.length≤6∧k.marks.length≤12∧k.inbox.length≤6:=by
 rcases h with h|rfl
 · exact aVo h
 · exact⟨aP6,aVv _,aVv _,aVv _⟩
end Go.Ab
namespace Go.Proofs.YtmabaopgkimfmaaGreatDoor
open Int renaming toNat_natCast→aVr
open Nat renaming le_of_ble_eq_true→aVs,zero_le→aVv,le_refl→aVz
open List renaming length_append→aVt,length_cons→aVw,length_nil→aVx,getD_eq_getElem?_getD→aVy,length_take→aV0,getElem?_eq_getElem→aV1,getElem?_eq_some_iff→aV2,take_length→aV3,length_drop→aV4,mem_map→aV5,mem_cons→aV6,range→aV7,all_eq_true→aV8,length_set→aV9,mem_singleton→aWa,replicate→aWb
open Bool renaming and_eq_true→aVu,or_eq_true→aWc
open Go Go.Ab Go.RowKit
set_option linter.unusedVariables false
set_option linter.unusedSimpArgs false
set_option maxRecDepth 9000
theorem xb (l:List bB) (f m:Int) (hl:l.length≤1000000):Sp 198 3 [tD 0 (.sl (aP l)),tI 1 f,tI 2 m] [tI 0 (fD l f m)]:=by
 refine sb Tryz.func198 rfl (sq (rT [0,1,2] (s1 (sq (sq (rT [0,1,2,7] (s1 (bk (SW.loopW (n:=l.length) (fun n q=> ∃i:Nat,n=l.length - i∧i≤l.length∧(∀k,k<i→gR l f m k=false)∧q=[tD 0 (.sl (aP l)),tI 1 f,tI 2 m,tI 7 (i:Nat)]) ?_ ?_)))))))))
 · exact wq (σ':=[tD 0 (.sl (aP l)),tI 1 f,tI 2 m,tI 7 (0:Nat)]) [] [] (⟨0,rfl,aVv _,fun k h=>absurd h (by omega),rfl⟩) qz
 rintro n s ⟨i,rfl,hi,hk,rfl⟩
 refine sq (sq (rT [0,1,2,7,11] (s4 (cd rfl (fun c11=> ?_) fun c11=> ?_))))
 · have hi2:i<l.length:=by simpa[aE] using c11
   have hg:=dG (l:=l) hi2
   refine sk (sq (bk (sq (rT [0,1,2,7,29] (s2 (ai (by rw[aVr,hg];exact⟨⟨by omega,by rw[aE];omega⟩,rfl⟩) (s1 (ai (by rw[aVr,hg];exact⟨aVs rfl,rfl⟩) (s3 (y2 (ai (fun h=>(by rw[aVr,hg];exact⟨⟨by omega,by rw[aE];omega⟩,rfl⟩)) (ai rk (y1 (ai (fun h=>(by rw[aVr,hg];exact⟨aVs rfl,rfl⟩)) (ai rk (y2 (ai pk (cd rfl (fun c29=> ?_) fun c29=> ?_))))))))))))))))))
   · refine sq (rT [6] (s2 (rt (aU rfl (aA D.i ?_)))))
     have hs:gR l f m i=true:=by
      have h9:=c29
      rw[aVr,hg] at h9
      exact h9
     exact(kY (aVv _) (by omega) (fun j _ h=>hk j h) hs).symm
   refine sk (rT [0,1,2,7] (s3 ?_))
   have hs:gR l f m i=false:=by
    have h9:=c29
    rw[aVr,hg] at h9
    exact h9
   refine wq [] [] (⟨l.length - (i+1),by omega,i+1,rfl,by omega,fun k h=>by by_cases e:k=i;exact e▸hs;exact hk k (by omega),rfl⟩) ?_
   repeat' apply ai
   all_goals first|exact qx|exact aA D.i (aF (by omega))|exact qz
 have hi3:i=l.length:=by simp[aE] at c11;omega
 refine xt (sq (rT [6] (s1 (rt (aU rfl (aA D.i ?_))))))
 exact(lF (fun j _ h=>hk j (by omega))).symm
theorem xd (l:List bB) (a:Int) (ha:0≤a∧a<l.length) (hl:l.length≤100000):Sp 160 2 [tD 0 (.sl (aP l)),tI 1 a] [tO 0 0 (eG l a.toNat).length,oR 0 138 6 (aP (eG l a.toNat))]:=by
 obtain⟨i,rfl⟩:=Int.eq_ofNat_of_zero_le ha.1
 have hw:wrap64 ((i:Int)+1)=((i+1:Nat):Int):=by rw[aF (by omega)];omega
 refine sb Tryz.func160 rfl (sq (rT [0,1] (s1 (sq (rD [4] (ai (by simp) (s2 (ai (by exact⟨by rw[aE];exact⟨by first|(simp;done)|(simp;omega),by first|(simp;done)|(simp;omega),by first|(simp;done)|(simp;omega)⟩,mD _⟩) (ai (by exact⟨by first|trivial|rfl|(simp;done),by first|rfl|(simp[aE];done),by first|exact tZ l _ _|(simp;done),by(try simp only[aVt,aVw,aVx,aV0,aV4,aE,hG,hO,hP,hU]);show _*64≤_;omega⟩) (s3 (ai (by rw[hw];exact⟨by rw[aE];exact⟨by first|(simp;done)|(simp;omega),by first|(simp;done)|(simp;omega),by first|(simp;done)|(simp;omega)⟩,mD _⟩) (ai (by exact⟨by first|trivial|rfl|(simp;done),by first|rfl|(simp[aE];done),by first|exact tZ l _ _|(simp;done),by(try simp only[hw]);(try simp only[aVt,aVw,aVx,aV0,aV4,aE,hG,hO,hP,hU]);show _*64≤_;omega⟩) (s1 (ai (by kernel_rfl) (rt (dO _ [(0,5)] [] rfl (lD rfl rfl ?_ rfl (cJ rfl ?_ trivial)) rfl rfl))))))))))))))))
 · rw[hw,sQ,wR];simp[aP,eG]
 rw[hw,sQ,wR];simp[aP,eG,List.map_take,List.map_drop]
theorem xe (l:List bB) (a:Int) (ha:0≤a∧a<l.length) (hl:l.length≤100000):Ab.Spec Tryz.prog 160 2 [(.t 0,.v (Dv (.sl (aP l)))),(.t 1,.v (I a))] [(.t 0,.v (Dv (.sl (aP (eG l a.toNat)))))]:=
 Spec.told (rl:=[]) (bor:=[0]) (xd l a ha hl) (dD rfl rfl rfl (aE _) rfl trivial) rfl rfl
theorem aKu (k:aT) (hl:k.log.length≤900000):Sp 76 1 [tV 0 (.e (.agg [.d (.i (k).id),.d (.b (k).up),.d (.s (k).log),.d (.i (k).forced),.own 0 k.halves.length])),oR 0 138 6 (aP k.halves)] [tV 0 (.tup [.agg [.d (.i (bM k).1.id),.d (.i (bM k).1.time),.d (.i (bM k).1.next),.d (.sl (aH (bM k).1.held)),.d (.sl (aM (bM k).1.marks)),.d (.sl (aH (bM k).1.inbox))],.c (.d (.b (bM k).2))]),oR 0 138 6 (aP k.halves)]:=by
 refine sb Tryz.func76 rfl (sq (rT [1,2] (s3 (sq (rT [1,2,4] (s3 (xp (kE k.log (by omega)) (ai rfl ?_))))))))
 refine s5 (sq (rT [2,3] (s3 (xp (wZ k.id (bF k.log).1 (kI k.log hl).1 (kI k.log hl).2) (ai rfl ?_)))))
 exact s4 (rt (dO _ [] [] rfl (iR rfl (gA (aN rfl (aN rfl (aN rfl (aN rfl (aN rfl (aN rfl bG)))))) (jq rfl fA)) (cJ rfl rfl trivial)) rfl rfl))
theorem rU (a:Int) (f:bH):Sp 154 2 [tI 0 a,tV 1 f.V] [tV 0 ((yA a f).V)]:=by
 exact sb Tryz.func154 rfl (sq (rT [0,3,4] (s2 (sq (rT [4] (s9 (s6 (rt (dO _ [] [] rfl (dS rfl (aN rfl (aN rfl (aN rfl (aN rfl (aN rfl (aN rfl (aN rfl (aN rfl (aN rfl (aN rfl bG)))))))))) trivial) rfl rfl)))))))))
theorem zj (k:aT) (f:bH) (hb:k.halves.length≤3) (hb2: ∀x∈k.halves,x.got.length≤14):Sp 158 2 [tV 0 (.e (.agg [.d (.i (k).id),.d (.b (k).up),.d (.s (k).log),.d (.i (k).forced),.own 0 k.halves.length])),(.t 1,.v f.V),oR 0 138 6 (aP k.halves)] [tV 0 (.tup [.agg [.d (.i ((cC k (bT k.halves f).1)).id),.d (.b ((cC k (bT k.halves f).1)).up),.d (.s ((cC k (bT k.halves f).1)).log),.d (.i ((cC k (bT k.halves f).1)).forced),.d (.sl (aP ((cC k (bT k.halves f).1)).halves))],.c (.d (.i (bT k.halves f).2))])]:=by
 have hlt:=gx (f:=f) hb
 have hg14:=kr (f:=f) hb2
 refine sb Tryz.func158 rfl (sq (rT [2,3,4] (s4 (sq (wa [tP 2 2,tP 3 3,tP 4 4,oB 2 31 [.d (.i (k).id),.d (.b (k).up),.d (.s (k).log),.d (.i (k).forced),.own 0 k.halves.length],oB 3 63 [.d (.i f.kind),.d (.i f.src),.d (.i f.dst),.d (.i f.frm),.d (.i f.num),.d (.i f.to),.d (.i f.til),.d (.i f.size),.d (.i f.mix),.d (.s f.data)],oB 4 31 [.d (.i 0),.d (.b false),.d (.s []),.d (.i 0),.nil],oR 0 138 6 (aP k.halves)] [] [] qz (rT [2,3,4,6] (s6 (eX (robj:=[(0,.row 138 6 (aP k.halves))]) (rl:=[]) (bor:=[0]) (xb k.halves f.frm f.num (by omega)) rfl rfl rfl rfl ⟨dD rfl rfl rfl (aE _) rfl (iG rfl rfl (iG rfl rfl trivial)),rfl⟩ rfl (.inr (fun p hp=>by simp at hp;subst hp;trivial)) (cH ⟨rfl,trivial⟩) (fun j hj=>nomatch hj) ?_))))))))
 refine s1 (SW.midW (fun q=>q=[tP 2 2,tP 3 3,tP 4 4,tI 6 ((cZ k.halves f).2:Nat),oB 2 31 [.d (.i (k).id),.d (.b (k).up),.d (.s (k).log),.d (.i (k).forced),.own 50 (cZ k.halves f).1.length],oB 3 63 [.d (.i f.kind),.d (.i f.src),.d (.i f.dst),.d (.i f.frm),.d (.i f.num),.d (.i f.to),.d (.i f.til),.d (.i f.size),.d (.i f.mix),.d (.s f.data)],oB 4 31 [.d (.i 0),.d (.b false),.d (.s []),.d (.i 0),.nil],oR 50 138 6 (aP (cZ k.halves f).1)]) ?_ ?_)
 · refine sq (rT [2,3,4,6,18] (s2 (cd rfl (fun c18=> ?_) fun c18=> ?_)))
   · have hneg:fD k.halves f.frm f.num<0:=by simpa using c18
     have hput:=wD hneg
     refine SW.midW (fun q=>q=[tP 2 2,tP 3 3,tP 4 4,oB 2 31 [.d (.i (k).id),.d (.b (k).up),.d (.s (k).log),.d (.i (k).forced),.own 50 (dI k.halves).length],oB 3 63 [.d (.i f.kind),.d (.i f.src),.d (.i f.dst),.d (.i f.frm),.d (.i f.num),.d (.i f.to),.d (.i f.til),.d (.i f.size),.d (.i f.mix),.d (.s f.data)],oB 4 31 [.d (.i 0),.d (.b false),.d (.s []),.d (.i 0),.nil],oR 50 138 6 (aP (dI k.halves))]) ?_ ?_
     · refine sq (rT [2,3,4,22] (s2 (ai (by exact aE _) (s1 (cd rfl (fun c22=> ?_) fun c22=> ?_)))))
       · have h3:3≤k.halves.length:=by simp[aE] at c22;omega
         have hcut:dI k.halves=eG k.halves (0:Int).toNat:=by unfold dI;rw[aC h3];rfl
         refine rE [2,3,4] (s2 (aMf 24 0 rfl rfl (aE _) (by rfl) (aIn (eX (robj:=[]) (rl:=[(0,25)]) (bor:=[]) (xd k.halves 0 (by omega) (by omega)) rfl rfl rfl rfl ⟨iG rfl rfl (iG rfl rfl trivial),rfl⟩ rfl (.inl rfl) (fun p hp=>nomatch hp) (fun j hj=>by(obtain rfl:j=0:=by simpa[fI,bJ,gB] using hj);rfl) (s2 ?_)))))
         first
         |(refine wq [(50,25)] [] (rfl) ?_
           repeat' apply ai
           all_goals first|exact qx|(rw[hcut];done)|(rw[hcut];simp[aE];done)|(simp[aE];done)|exact qz)
         |(refine wq [(50,0)] [] (rfl) ?_
           repeat' apply ai
           all_goals first|exact qx|(rw[hcut];done)|(rw[hcut];simp[aE];done)|(simp[aE];done)|exact qz)
       have h3: ¬3≤k.halves.length:=by simp[aE] at c22;omega
       have hcut:dI k.halves=k.halves:=by unfold dI;rw[aB h3]
       refine sk ?_
       first
       |(refine wq [(50,25)] [] (rfl) ?_
         repeat' apply ai
         all_goals first|exact qx|(rw[hcut];done)|(rw[hcut];simp[aE];done)|(simp[aE];done)|exact qz)
       |(refine wq [(50,0)] [] (rfl) ?_
         repeat' apply ai
         all_goals first|exact qx|(rw[hcut];done)|(rw[hcut];simp[aE];done)|(simp[aE];done)|exact qz)
     rintro s rfl
     have hc2:=zV k.halves hb
     refine sq (rT [2,3,4] (s9 (s5 (ai (by exact⟨rfl,aE _,by intro r hr;rw[aWa.1 hr];rfl,by show(_+1)*64≤_;omega⟩) (s2 (rT [2,3,4,6] (s2 (ai (by first|rfl|(simp[aE];done)) (s2 ?_)))))))))
     first
     |(refine wq [] [] (rfl) ?_
       repeat' apply ai
       all_goals first|exact qx|(rw[hput];done)|(rw[hput];rfl)|(rw[hput];simp[aE];done)|(rw[hput];exact oJ _ (mO f))|(simp[aE];done)|(rw[hput];show D.i _=D.i (((dI k.halves).length:Nat):Int);refine aA D.i ?_;simp only[aVt,aVw,aVx,aE];rw[aF (by omega)];omega)|(rw[hput];show D.i _=D.i (((fD k.halves f.frm f.num).toNat:Nat):Int);exact aA D.i (Int.toNat_of_nonneg (by omega)).symm)|exact qz)
     |(refine wq [(50,0)] [] (rfl) ?_
       repeat' apply ai
       all_goals first|exact qx|(rw[hput];done)|(rw[hput];rfl)|(rw[hput];simp[aE];done)|(rw[hput];exact oJ _ (mO f))|(simp[aE];done)|(rw[hput];show D.i _=D.i (((dI k.halves).length:Nat):Int);refine aA D.i ?_;simp only[aVt,aVw,aVx,aE];rw[aF (by omega)];omega)|(rw[hput];show D.i _=D.i (((fD k.halves f.frm f.num).toNat:Nat):Int);exact aA D.i (Int.toNat_of_nonneg (by omega)).symm)|exact qz)
   have hneg: ¬fD k.halves f.frm f.num<0:=by simpa using c18
   have hput:=zU hneg
   refine sk ?_
   first
   |(refine wq [] [] (rfl) ?_
     repeat' apply ai
     all_goals first|exact qx|(rw[hput];done)|(rw[hput];rfl)|(rw[hput];simp[aE];done)|(rw[hput];exact oJ _ (mO f))|(simp[aE];done)|(rw[hput];show D.i _=D.i (((dI k.halves).length:Nat):Int);refine aA D.i ?_;simp only[aVt,aVw,aVx,aE];rw[aF (by omega)];omega)|(rw[hput];show D.i _=D.i (((fD k.halves f.frm f.num).toNat:Nat):Int);exact aA D.i (Int.toNat_of_nonneg (by omega)).symm)|exact qz)
   |(refine wq [(50,0)] [] (rfl) ?_
     repeat' apply ai
     all_goals first|exact qx|(rw[hput];done)|(rw[hput];rfl)|(rw[hput];simp[aE];done)|(rw[hput];exact oJ _ (mO f))|(simp[aE];done)|(rw[hput];show D.i _=D.i (((dI k.halves).length:Nat):Int);refine aA D.i ?_;simp only[aVt,aVw,aVx,aE];rw[aF (by omega)];omega)|(rw[hput];show D.i _=D.i (((fD k.halves f.frm f.num).toNat:Nat):Int);exact aA D.i (Int.toNat_of_nonneg (by omega)).symm)|exact qz)
 rintro s rfl
 refine sq (rT [2,3,4,6,7] (s3 (ai (by exact⟨aE _,by omega,by omega⟩) (ai (by rw[aVr,dG hlt.1];exact⟨⟨aE _,hlt.1⟩,aVs rfl,rfl⟩) (s2 (sq (sq (wa [tP 2 2,tP 3 3,tP 4 4,tP 7 7,tI 6 ((cZ k.halves f).2:Nat),oB 2 31 [.d (.i (k).id),.d (.b (k).up),.d (.s (k).log),.d (.i (k).forced),.own 50 (cZ k.halves f).1.length],oB 3 63 [.d (.i f.kind),.d (.i f.src),.d (.i f.dst),.d (.i f.frm),.d (.i f.num),.d (.i f.to),.d (.i f.til),.d (.i f.size),.d (.i f.mix),.d (.s f.data)],oB 4 31 [.d (.i 0),.d (.b false),.d (.s []),.d (.i 0),.nil],oB 7 138 [.d (.i ((bK k.halves f)).frm),.d (.i ((bK k.halves f)).num),.d (.i ((bK k.halves f)).to),.d (.i ((bK k.halves f)).til),.d (.i ((bK k.halves f)).size),.d (.sl (aR ((bK k.halves f)).got))],oR 50 138 6 (aP (cZ k.halves f).1)] [] [] ?_ ?_))))))))
 · repeat' apply ai
   all_goals first|exact qx|(rw[aVr,dG hlt.1];rfl)|rfl|exact qz
 refine rT [2,3,4,6,7,70] (s6 (y4 (y1 (ai pk (s1 (y4 (y1 (ai pk (cd rfl (fun c70=> ?_) fun c70=> ?_)))))))))
 · have hno: ¬kD (bK k.halves f) f=true:=by intro h;simp only[kD,aVu,beq_iff_eq] at h;simp[h.1.1,h.1.2,h.2] at c70
   have hadd:=zW hno
   refine sq (rT [4,5] (s3 (rt (rq [] [50] rfl ?_))))
   repeat' apply ai
   all_goals try exact qx
   all_goals(first|with_reducible rfl|(rw[hadd];done)|(rw[hadd];rfl)|exact aE _)
 have hyes:kD (bK k.halves f) f=true:=by simp at c70;simp[kD,c70]
 have hadd:=wE hyes
 refine sk (sq (rT [2,3,4,6,7,8] (s2 (sq (sq (rT [2,3,4,6,7,8,9] (s1 (bk (SW.loopW (n:=(bK k.halves f).got.length) (fun m q=> ∃i:Nat,m=(bK k.halves f).got.length - i∧i≤(bK k.halves f).got.length∧q=[tP 2 2,tP 3 3,tP 4 4,tP 7 7,tI 6 ((cZ k.halves f).2:Nat),tO 8 72 (dQ ((bK k.halves f).got.take (i)) f.mix).length,tI 9 (i:Nat),oB 2 31 [.d (.i (k).id),.d (.b (k).up),.d (.s (k).log),.d (.i (k).forced),.own 50 (cZ k.halves f).1.length],oB 3 63 [.d (.i f.kind),.d (.i f.src),.d (.i f.dst),.d (.i f.frm),.d (.i f.num),.d (.i f.to),.d (.i f.til),.d (.i f.size),.d (.i f.mix),.d (.s f.data)],oB 4 31 [.d (.i 0),.d (.b false),.d (.s []),.d (.i 0),.nil],oB 7 138 [.d (.i ((bK k.halves f)).frm),.d (.i ((bK k.halves f)).num),.d (.i ((bK k.halves f)).to),.d (.i ((bK k.halves f)).til),.d (.i ((bK k.halves f)).size),.d (.sl (aR ((bK k.halves f)).got))],oR 50 138 6 (aP (cZ k.halves f).1),oR 72 86 2 (aR (dQ ((bK k.halves f).got.take (i)) f.mix))]) ?_ ?_)))))))))
 · refine wq (σ':=[tP 2 2,tP 3 3,tP 4 4,tP 7 7,tI 6 ((cZ k.halves f).2:Nat),tO 8 72 (dQ ((bK k.halves f).got.take (0)) f.mix).length,tI 9 (0:Nat),oB 2 31 [.d (.i (k).id),.d (.b (k).up),.d (.s (k).log),.d (.i (k).forced),.own 50 (cZ k.halves f).1.length],oB 3 63 [.d (.i f.kind),.d (.i f.src),.d (.i f.dst),.d (.i f.frm),.d (.i f.num),.d (.i f.to),.d (.i f.til),.d (.i f.size),.d (.i f.mix),.d (.s f.data)],oB 4 31 [.d (.i 0),.d (.b false),.d (.s []),.d (.i 0),.nil],oB 7 138 [.d (.i ((bK k.halves f)).frm),.d (.i ((bK k.halves f)).num),.d (.i ((bK k.halves f)).to),.d (.i ((bK k.halves f)).til),.d (.i ((bK k.halves f)).size),.d (.sl (aR ((bK k.halves f)).got))],oR 50 138 6 (aP (cZ k.halves f).1),oR 72 86 2 (aR (dQ ((bK k.halves f).got.take (0)) f.mix))]) [] [] (⟨0,rfl,aVv _,rfl⟩) ?_
   repeat' apply ai
   all_goals first|exact qx|rfl|exact qz
 rintro n s ⟨i,rfl,hi,rfl⟩
 refine sq (sq (rT [2,3,4,6,7,8,9,77] (s5 (cd rfl (fun c77=> ?_) fun c77=> ?_))))
 · have hi2:i< (bK k.halves f).got.length:=by simpa[aK] using c77
   have hg:=eP (l:=(bK k.halves f).got) hi2
   have hts:=dH (z:=cU.zero) hi2
   have hle:=vI ((bK k.halves f).got.take i) f.mix
   rw[aV0] at hle
   refine sk (sq (bk (sq (rD [2,3,4,6,7,8,9,88] (s3 (ai (by rw[aVr,hg];exact⟨⟨by omega,by rw[aK];omega⟩,rfl⟩) (s1 (ai (by rw[aVr,hg];exact⟨aVs rfl,rfl⟩) (s3 (ai (by kernel_rfl) (cd rfl (fun c88=> ?_) fun c88=> ?_)))))))))))
   · have hlg:=py (l:=(bK k.halves f).got.take i) (m:=(bK k.halves f).got.getD i .zero) (n:=f.mix) (by rw[aVr,hg] at c88;exact c88)
     refine rT [2,3,4,6,7,8,9] (s4 (ai (by rw[aVr,hg];exact⟨⟨by omega,by rw[aK];omega⟩,rfl⟩) (ai (by rw[aVr,hg];exact⟨aVs rfl,rfl⟩) (s1 (ai (by exact⟨rfl,aK _,by intro r hr;rw[aWa.1 hr];rfl,by show(_+1)*24≤_;omega⟩) (s1 (rT [2,3,4,6,7,8,9] (s3 (wq [] [] (⟨(bK k.halves f).got.length - (i+1),by omega,i+1,rfl,by omega,rfl⟩) ?_)))))))))
     repeat' apply ai
     all_goals first|exact qx|exact aA D.i (by rw[aF (by omega)];omega)|(rw[hts,hlg];done)|(rw[hts,hlg,aVt];rfl)|(rw[hts,hlg];simp[aK];done)|(rw[hts,hlg,aVr,hg];exact nO _ _)|exact qz
   have hlg:=vu (l:=(bK k.halves f).got.take i) (m:=(bK k.halves f).got.getD i .zero) (n:=f.mix) (by rw[aVr,hg] at c88;exact c88)
   refine sk (rT [2,3,4,6,7,8,9] (s3 (wq [] [] (⟨(bK k.halves f).got.length - (i+1),by omega,i+1,rfl,by omega,rfl⟩) ?_)))
   repeat' apply ai
   all_goals first|exact qx|exact aA D.i (by rw[aF (by omega)];omega)|(rw[hts,hlg];done)|(rw[hts,hlg,aVt];rfl)|(rw[hts,hlg];simp[aK];done)|(rw[hts,hlg,aVr,hg];exact nO _ _)|exact qz
 have hi3:i=(bK k.halves f).got.length:=by simp[aK] at c77;omega
 subst hi3
 clear hi
 have hle:=vI (bK k.halves f).got f.mix
 refine xt (SW.midW (fun q=>q=[tP 2 2,tP 3 3,tP 4 4,tP 7 7,tI 6 ((cZ k.halves f).2:Nat),tO 8 60 (jG (dQ (bK k.halves f).got f.mix)).length,oB 2 31 [.d (.i (k).id),.d (.b (k).up),.d (.s (k).log),.d (.i (k).forced),.own 50 (cZ k.halves f).1.length],oB 3 63 [.d (.i f.kind),.d (.i f.src),.d (.i f.dst),.d (.i f.frm),.d (.i f.num),.d (.i f.to),.d (.i f.til),.d (.i f.size),.d (.i f.mix),.d (.s f.data)],oB 4 31 [.d (.i 0),.d (.b false),.d (.s []),.d (.i 0),.nil],oB 7 138 [.d (.i ((bK k.halves f)).frm),.d (.i ((bK k.halves f)).num),.d (.i ((bK k.halves f)).to),.d (.i ((bK k.halves f)).til),.d (.i ((bK k.halves f)).size),.d (.sl (aR ((bK k.halves f)).got))],oR 50 138 6 (aP (cZ k.halves f).1),oR 60 86 2 (aR (jG (dQ (bK k.halves f).got f.mix)))]) ?_ ?_)
 · refine sq (rT [2,3,4,6,7,8,99] (s1 (ai (by exact aK _) (s1 (cd rfl (fun c99=> ?_) fun c99=> ?_)))))
   · have h14:14≤(dQ (bK k.halves f).got f.mix).length:=by rw[aV3] at c99;simp[aK] at c99;omega
     have hcg:jG (dQ (bK k.halves f).got f.mix)=(dQ (bK k.halves f).got f.mix).drop 1:=by unfold jG;rw[aC h14]
     refine rE [2,3,4,6,7,8] (s2 (aMf 101 72 rfl rfl (by simp[aK]) (by rfl) (aIn (sx kX rfl (by exact⟨⟨by simp,by simp[aK] at *; omega,by simp⟩,qO _⟩) (ai (by rw[aV3];exact⟨trivial,rfl,aEu _ _ _,by have h9:=Nat.le_trans (show(((aR (dQ (bK k.halves f).got f.mix)).take (iE none (aR (dQ (bK k.halves f).got f.mix)).length)).drop (gD (some 1))).length≤(aR (dQ (bK k.halves f).got f.mix)).length by rw[aV4,aV0];omega) (Nat.le_of_eq (aK _));simp only[aVx];show _*24≤_;omega⟩) (s1 ?_))))))
     first
     |(refine wq [(60,72)] [] (rfl) ?_
       repeat' apply ai
       all_goals first|exact qx|(rw[hcg];done)|(rw[hcg,aV3];done)|(rw[hcg];simp[aK,iE,gD];done)|(simp[aK];done)|(rw[hcg];simp[iE,gD,aR,List.map_drop];done)|(rw[hcg];simp[iE,gD,aR,List.map_drop];rw[List.take_of_length_le (by simp)];done)|exact qz)
     |(refine wq [(60,100)] [] (rfl) ?_
       repeat' apply ai
       all_goals first|exact qx|(rw[hcg];done)|(rw[hcg,aV3];done)|(rw[hcg];simp[aK,iE,gD];done)|(simp[aK];done)|(rw[hcg];simp[iE,gD,aR,List.map_drop];done)|(rw[hcg];simp[iE,gD,aR,List.map_drop];rw[List.take_of_length_le (by simp)];done)|exact qz)
   have h14: ¬14≤(dQ (bK k.halves f).got f.mix).length:=by rw[aV3] at c99;simp[aK] at c99;omega
   have hcg:jG (dQ (bK k.halves f).got f.mix)=(dQ (bK k.halves f).got f.mix):=by unfold jG;rw[aB h14]
   refine sk ?_
   first
   |(refine wq [(60,72)] [] (rfl) ?_
     repeat' apply ai
     all_goals first|exact qx|(rw[hcg];done)|(rw[hcg,aV3];done)|(rw[hcg];simp[aK,iE,gD];done)|(simp[aK];done)|(rw[hcg];simp[iE,gD,aR,List.map_drop];done)|(rw[hcg];simp[iE,gD,aR,List.map_drop];rw[List.take_of_length_le (by simp)];done)|exact qz)
   |(refine wq [(60,100)] [] (rfl) ?_
     repeat' apply ai
     all_goals first|exact qx|(rw[hcg];done)|(rw[hcg,aV3];done)|(rw[hcg];simp[aK,iE,gD];done)|(simp[aK];done)|(rw[hcg];simp[iE,gD,aR,List.map_drop];done)|(rw[hcg];simp[iE,gD,aR,List.map_drop];rw[List.take_of_length_le (by simp)];done)|exact qz)
 rintro s rfl
 have hcl: (jG (dQ (bK k.halves f).got f.mix)).length≤14:=by unfold jG;split<;>(try rw[aV4])<;>omega
 refine sq (rT [2,4,6,7] (s7 (ai (by exact⟨rfl,aK _,by intro r hr;rw[aWa.1 hr];rfl,by show(_+1)*24≤_;omega⟩) (s2 (sq (wa [tP 2 2,tP 4 4,tP 7 7,tI 6 ((cZ k.halves f).2:Nat),oB 2 31 [.d (.i (k).id),.d (.b (k).up),.d (.s (k).log),.d (.i (k).forced),.own 50 (cZ k.halves f).1.length],oB 3 63 [.d (.i f.kind),.d (.i f.src),.d (.i f.dst),.d (.i f.frm),.d (.i f.num),.d (.i f.to),.d (.i f.til),.d (.i f.size),.d (.i f.mix),.d (.s f.data)],oB 4 31 [.d (.i 0),.d (.b false),.d (.s []),.d (.i 0),.nil],oB 7 138 [.d (.i ((fE (bK k.halves f) f)).frm),.d (.i ((fE (bK k.halves f) f)).num),.d (.i ((fE (bK k.halves f) f)).to),.d (.i ((fE (bK k.halves f) f)).til),.d (.i ((fE (bK k.halves f) f)).size),.d (.sl (aR ((fE (bK k.halves f) f)).got))],oR 50 138 6 (aP (cZ k.halves f).1)] [] [60] ?_ ?_))))))
 · repeat' apply ai
   all_goals first|exact qx|rfl|(exact aA D.sl (nO _ ⟨f.mix,f.data⟩).symm)|(simp[aK];done)|exact qz
 refine rT [2,4,6] (s4 (ai (by exact⟨aE _,by omega,by omega⟩) (ai (by rw[aVr,dG hlt.1];exact⟨aE _,hlt.1,rfl,aVs rfl⟩) (sq (rT [4,5] (s4 (rt (rq [] [50] rfl ?_))))))))
 repeat' apply ai
 all_goals try exact qx
 all_goals(first|with_reducible rfl|(rw[hadd];done)|(rw[hadd];rfl)|(rw[aVr,hadd];exact aA D.sl (aC1 (h:=fE (bK k.halves f) f) hlt.1).symm)|(simp[aE];done))
theorem qy (k:aT) (f:bH) (hok:bL k=true) (hu:k.up=true) (hf:dV f=true) (hkd:f.kind=1):Sp 99 2 [tV 0 (.e (.agg [.d (.i (k).id),.d (.b (k).up),.d (.s (k).log),.d (.i (k).forced),.own 0 k.halves.length])),(.t 1,.v f.V),oR 0 138 6 (aP k.halves)] [tV 0 (.tup [.agg [.d (.i ((cA k f).1).id),.d (.b ((cA k f).1).up),.d (.s ((cA k f).1).log),.d (.i ((cA k f).1).forced),.d (.sl (aP ((cA k f).1).halves))],.c (.d (.sl (aZ (cA k f).2)))])]:=by
 have hlg:=fW hok
 have hkb:=vH hok
 have hfh:=vK hf hkd
 have hH:=ru (uE hok) hlg.2.2.2.1 hf hkd
 have h6:=eR (qQ hok)
 refine sb Tryz.func99 rfl (sq (rT [2,3,4] (s4 (sq (rT [2,3,4,6] (s2 (sq (rT [2,3,4,6,7] (s1 (eX (robj:=[(0,.row 138 6 (aP k.halves))]) (rl:=[(0,0)]) (bor:=[]) (aKu k (by omega)) rfl rfl rfl rfl ⟨dS rfl (aN rfl (aN rfl (aN rfl (aN rfl (dP rfl rfl rfl bG))))) (cJ rfl rfl trivial),rfl⟩ rfl (.inl rfl) (cH ⟨rfl,trivial⟩) (fun _ hj=>nomatch hj) (s6 (sq (sq (rT [2,3,4,6,7,25] (s5 (cd rfl (fun c25=> ?_) fun c25=> ?_))))))))))))))))
 · have hlate:f.til≤(bM k).1.time:=by simpa using c25
   refine sq (rD [4,5] (s2 (xp (rU _ f) (ai rfl ?_))))
   refine s3 (ai (by kernel_rfl) (rt ?_))
   have hr:cA k f=(k,[yA 3 f]):=by rw[cA,aC hlate]
   refine rq [] [0,29] rfl ?_
   repeat' apply ai
   all_goals try exact qx
   all_goals(first|with_reducible rfl|(rw[hr];done)|(rw[hr];rfl)|exact aE _|rfl)
 have hlate: ¬f.til≤(bM k).1.time:=by simpa using c25
 refine sk (sq (sq (rT [2,3,4,6,47] (s6 (xp (gG (bM k).1.held f.frm f.num (by have:=h6.1.1;omega)) (ai rfl ?_))))))
 refine s2 (y4 (y2 (xc (fun h=>(nA (bM k).1.marks f.frm f.num (by have:=h6.1.2.1;omega))) (ai rfl (ai rk ?_)))))
 refine y1 (ai pk (cd rfl (fun c47=> ?_) fun c47=> ?_))
 · have hhave:0≤aW (bM k).1.held f.frm f.num∨0≤fM (bM k).1.marks f.frm f.num:=by simpa using c47
   refine sq (rT [2,3,4] (s2 (xp (kF k.log k.forced (by omega)) (ai rfl ?_))))
   refine s2 (sq (rD [4,5] (s2 (xp (rU _ f) (ai rfl ?_)))))
   refine s3 (ai (by kernel_rfl) (rt ?_))
   have hr:cA k f=(jT k,[yA 2 f]):=by rw[cA,aB hlate,aC hhave]
   refine rq [] [0,55] rfl ?_
   repeat' apply ai
   all_goals try exact qx
   all_goals(first|with_reducible rfl|(rw[hr];done)|(rw[hr];rfl)|exact aE _|rfl)
 have hhave: ¬(0≤aW (bM k).1.held f.frm f.num∨0≤fM (bM k).1.marks f.frm f.num):=by simpa using c47
 refine sk (sq (sq (rD [2,3,4,6,69] (s6 (y2 (xc (fun h=>(tF f.size (by omega))) (ai rfl (ai rk ?_))))))))
 refine y2 (xc (fun h=>(wF _ f.mix)) (ai rfl (ai rk ?_)))
 refine y1 (ai pk (ai (by kernel_rfl) (cd rfl (fun c69=> ?_) fun c69=> ?_)))
 · have hskip:f.frm=k.id∨ ¬oC ((f.size+3) / 4) f.mix=true:=by simpa using c69
   refine sq (rT [4,5] (s4 (rt ?_)))
   have hr:cA k f=(k,[]):=by rw[cA,aB hlate,aB hhave,aC hskip]
   refine rq [] [0,15] rfl ?_
   repeat' apply ai
   all_goals try exact qx
   all_goals(first|with_reducible rfl|(rw[hr];done)|(rw[hr];rfl)|exact aE _|rfl)
 have hskip: ¬(f.frm=k.id∨ ¬oC ((f.size+3) / 4) f.mix=true):=by simpa using c69
 refine sk (sq (rT [2,3,4,6,9] (s2 (eX (robj:=[(0,.row 138 6 (aP k.halves))]) (rl:=[]) (bor:=[]) (zj k f hlg.2.2.2.1 hlg.2.2.2.2.2) rfl rfl rfl rfl ⟨dS rfl (aN rfl (aN rfl (aN rfl (aN rfl (dP rfl rfl rfl bG))))) (dS rfl (aN rfl (aN rfl (aN rfl (aN rfl (aN rfl (aN rfl (aN rfl (aN rfl (aN rfl (aN rfl bG)))))))))) (cJ rfl rfl trivial)),rfl⟩ rfl (.inl rfl) (cH ⟨rfl,trivial⟩) (fun _ hj=>nomatch hj) (s5 (sq (sq (rT [2,3,4,6,9,79] (s2 (cd rfl (fun c79=> ?_) fun c79=> ?_))))))))))
 · have hneg: (bT k.halves f).2<0:=by simpa using c79
   refine sq (rT [4,5] (s4 (rt ?_)))
   have hr:cA k f=(cC k (bT k.halves f).1,[]):=by rw[cA,aB hlate,aB hhave,aB hskip,aC hneg]
   refine rq [] [15] rfl ?_
   repeat' apply ai
   all_goals try exact qx
   all_goals(first|with_reducible rfl|(rw[hr];done)|(rw[hr];rfl)|exact aE _|rfl)
 have hge: ¬(bT k.halves f).2<0:=by simpa using c79
 obtain⟨i,hi⟩: ∃i:Nat,(bT k.halves f).2=(i:Int):=⟨(bT k.halves f).2.toNat,by omega⟩
 have hil:i< (bT k.halves f).1.length:=aHj hi
 have hgi: (aP (cC k (bT k.halves f).1).halves).getD i []=((bT k.halves f).1.getD i .zero).row:=dG hil
 have hr1:cA k f=kT k f (bT k.halves f).1 i:=by rw[cA,aB hlate,aB hhave,aB hskip,aB hge,hi];rfl
 have hgl: ((bT k.halves f).1.getD i .zero).got.length≤14:=by have h9:=(vJ _).1 (hH.1.1 _ (cM (z:=bB.zero) hil));exact(kR h9.1).2.2.2.2.2
 refine sk (sq (rD [2,3,4,6,9,10,11] (s5 (ai (by rw[hi];exact⟨⟨by omega,by rw[aE];show((i:Nat):Int)< (((bT k.halves f).1.length:Nat):Int);omega⟩,by rw[aVr,hgi];rfl⟩) (s1 (ai (by rw[hi,aVr,hgi];exact⟨aVs rfl,rfl⟩) (xp (ww f.size ((bT k.halves f).1.getD i .zero).got (by omega)) (ai (by rw[hi,aVr,hgi];rfl) ?_))))))))
 refine s5 (ai (by kernel_rfl) (sq (sq (rT [2,3,4,6,9,10,95] (s2 (cd rfl (fun c95=> ?_) fun c95=> ?_))))))
 · have hno: ¬(cF f.size ((bT k.halves f).1.getD i .zero).got).2=true:=by exact pP c95
   refine sq (rT [4,5] (s4 (rt ?_)))
   have hr:cA k f=(cC k (bT k.halves f).1,[]):=hr1.trans (kt hno)
   refine rq [] [15] rfl ?_
   repeat' apply ai
   all_goals try exact qx
   all_goals(first|with_reducible rfl|(rw[hr];done)|(rw[hr];rfl)|exact aE _|rfl)
 have hyes: (cF f.size ((bT k.halves f).1.getD i .zero).got).2=true:=by exact iS c95
 refine sk (sq (rT [2,3,4,6,9,12] (s9 (s3 (sq (rT [2,3,4,6,12] (s3 (xp (xe (bT k.halves f).1 (i:Nat) (by omega) (by omega)) (ai (by rw[hi];rfl) ?_)))))))))
 refine s2 (sq (rT [2,3,4,6,13] (s1 (xp (nT (cN f (cF f.size ((bT k.halves f).1.getD i .zero).got).1) (by have:=pz f.size ((bT k.halves f).1.getD i .zero).got;show(cF f.size ((bT k.halves f).1.getD i .zero).got).1.length≤_;omega)) (ai rfl ?_)))))
 refine s1 (sq (sq (rT [2,3,4,6,13,116] (s2 (cd rfl (fun c116=> ?_) fun c116=> ?_)))))
 · have hemp:fN (cN f (cF f.size ((bT k.halves f).1.getD i .zero).got).1)=[]:=by exact beq_iff_eq.1 c116
   refine sq (rT [4,5] (s4 (rt ?_)))
   have hr:cA k f=(cC k (eG (bT k.halves f).1 i),[]):=hr1.trans (ed hyes hemp)
   refine rq [] [15] rfl ?_
   repeat' apply ai
   all_goals try exact qx
   all_goals(first|with_reducible rfl|(rw[hr];done)|(rw[hr];rfl)|exact aE _|rfl)
 have hemp: ¬fN (cN f (cF f.size ((bT k.halves f).1.getD i .zero).got).1)=[]:=by exact beq_eq_false_iff_ne.1 c116
 refine sk (sq (rT [2,3,4,6,14] (s2 (ai (by have:=pG (cN f (cF f.size ((bT k.halves f).1.getD i .zero).got).1);show _≤9223372036854775807;(try simp only[aVt,aVw,aVx]);omega) (xp (bd (cC k (eG (bT k.halves f).1 i)) (cY dF (cN f (cF f.size ((bT k.halves f).1.getD i .zero).got).1)) true (zX hok hu (by have:=sR (bT k.halves f).1 i;omega) (rr hH.1 i)) (by have h9:=wC dF (cN f (cF f.size ((bT k.halves f).1.getD i .zero).got).1);have h8:dF.length=4:=rfl;omega)) (ai rfl ?_))))))
 refine s5 (sq (sq (rT [2,3,4,6,127] (s2 (cd rfl (fun c127=> ?_) fun c127=> ?_)))))
 · have hw: ¬(eI (cC k (eG (bT k.halves f).1 i)) (cY dF (cN f (cF f.size ((bT k.halves f).1.getD i .zero).got).1)) true).2=true:=pP c127
   refine sq (rT [4,5] (s4 (rt ?_)))
   have hr:cA k f=((eI (cC k (eG (bT k.halves f).1 i)) (cY dF (cN f (cF f.size ((bT k.halves f).1.getD i .zero).got).1)) true).1,[]):=hr1.trans (zY hyes hemp hw)
   refine rq [] [15] rfl ?_
   repeat' apply ai
   all_goals try exact qx
   all_goals(first|with_reducible rfl|(rw[hr];done)|(rw[hr];rfl)|exact aE _|rfl)
 have hw: (eI (cC k (eG (bT k.halves f).1 i)) (cY dF (cN f (cF f.size ((bT k.halves f).1.getD i .zero).got).1)) true).2=true:=iS c127
 refine sk (sq (rD [4,5] (s2 (xp (rU _ f) (ai rfl ?_)))))
 refine s3 (ai (by kernel_rfl) (rt ?_))
 have hr:cA k f=((eI (cC k (eG (bT k.halves f).1 i)) (cY dF (cN f (cF f.size ((bT k.halves f).1.getD i .zero).got).1)) true).1,[yA 2 f]):=hr1.trans (ku hyes hemp hw)
 refine rq [] [133] rfl ?_
 repeat' apply ai
 all_goals try exact qx
 all_goals(first|with_reducible rfl|(rw[hr];done)|(rw[hr];rfl)|exact aE _|rfl)
theorem ld (k:aT) (f:bH) (hl:k.log.length≤140737488355328):Sp 41 2 [tV 0 k.V,tV 1 f.V] [tV 0 (.tup [.agg [.d (.i ((aS k f).1).id),.d (.b ((aS k f).1).up),.d (.s ((aS k f).1).log),.d (.i ((aS k f).1).forced),.d (.sl (aP ((aS k f).1).halves))],.c (.d (.sl (aZ (aS k f).2)))])]:=by
 refine sb Tryz.func41 rfl (sq (rT [2,3,4] (s4 (sq (rT [2,3,4,6] (s2 (sq (sq (rT [2,3,4,6,18] (s1 (xp (qr k hl) (ai rfl ?_))))))))))))
 refine s1 (cd rfl (fun c18=> ?_) fun c18=> ?_)
 · have hno: ¬bL k=true:=pP c18
   refine sq (rT [4,5] (s4 (rt ?_)))
   have hr:aS k f=(.zero,[]):=vv hno
   refine rq [] [15] rfl ?_
   repeat' apply ai
   all_goals try exact qx
   all_goals(first|with_reducible rfl|(rw[hr];done)|(rw[hr];rfl)|exact aE _|rfl)
 have hok:bL k=true:=iS c18
 have hlg:=fW hok
 have hK:=oL hok
 have h6:=eR (qQ hok)
 have hkb:=vH hok
 have hsk:dN k.log k.forced=true:=(fV hlg.1).2.1
 obtain⟨⟨_,htm,hnx,_⟩,_⟩:=(cG _).1 (qQ hok)
 refine sk (sq (rT [2,3,4,6,7] (s1 (eX (robj:=[]) (rl:=[(0,22)]) (bor:=[]) (wt k (⟨by omega,fun x hx=>by have:=hlg.2.2.2.2.2 x hx;omega⟩)) rfl rfl rfl rfl ⟨dS rfl (aN rfl (aN rfl (aN rfl (aN rfl (aN rfl bG))))) trivial,rfl⟩ rfl (.inl rfl) (fun p hp=>nomatch hp) (fun j hj=>by(obtain rfl:j=0:=by simpa[fI,bJ,gB] using hj);rfl) (s2 (sq (sq (rT [2,3,4,6,7,37] (s4 (y1 (xc (fun h=>(xa f)) (ai rfl (ai rk ?_)))))))))))))
 refine y1 (ai pk (s1 (y4 (y1 (ai pk (cd rfl (fun c37=> ?_) fun c37=> ?_))))))
 · have hnot: ¬(k.up&&dV f&&f.dst==k.id)=true:=by intro h;simp at h;simp[h.1.1,h.1.2,h.2] at c37
   refine sq (rT [4,5] (s4 (rt ?_)))
   have hr:aS k f=(k,[]):=vw hok hnot
   refine rq [] [22,15] rfl ?_
   repeat' apply ai
   all_goals try exact qx
   all_goals(first|with_reducible rfl|(rw[hr];done)|(rw[hr];rfl)|exact aE _|rfl)
 have hgo: (k.up&&dV f&&f.dst==k.id)=true:=by simp at c37;simp[c37]
 have hu:k.up=true:=by simp at hgo;exact hgo.1.1
 have hf:dV f=true:=by simp at hgo;exact hgo.1.2
 refine sk (sq (sq (rT [2,3,4,6,7,42] (s3 (cd rfl (fun c42=> ?_) fun c42=> ?_)))))
 · have hkd:f.kind=1:=by simpa using c42
   have hhh:=qa hok hu hf hkd
   refine sq (rT [4,8,9] (s2 (eX (robj:=[(22,.row 138 6 (aP k.halves))]) (rl:=[(0,22)]) (bor:=[]) (qy k f hok hu hf hkd) rfl rfl rfl rfl ⟨dS rfl (aN rfl (aN rfl (aN rfl (aN rfl (dP rfl rfl rfl bG))))) (dS rfl (aN rfl (aN rfl (aN rfl (aN rfl (aN rfl (aN rfl (aN rfl (aN rfl (aN rfl (aN rfl bG)))))))))) (cJ rfl rfl trivial)),rfl⟩ rfl (.inl rfl) (cH ⟨rfl,trivial⟩) (fun _ hj=>nomatch hj) (s6 (sq (rT [4,5] (s1 (xp (wu (cA k f).1 ⟨by have:=hhh.2;omega,fun x hx=>by have:=aIx hhh.1 x hx;omega⟩) (ai rfl ?_)))))))))
   refine s3 (rt ?_)
   have hr:aS k f=cA k f:=gy hok hgo hkd
   refine rq [] [] rfl ?_
   repeat' apply ai
   all_goals try exact qx
   all_goals(first|with_reducible rfl|(rw[hr];done)|(rw[hr];rfl)|exact aE _|rfl)
 have hkd: ¬f.kind=1:=by simpa using c42
 have hfs:=jf hf
 refine sk (sq (rT [3,4,6,7,10] (s1 (xp (xA k (by omega)) (ai rfl ?_)))))
 refine s6 (sq (rT [3,4,6,7,10,12] (s6 (xp (gG (bM k).1.held f.frm f.num (by have:=h6.1.1;omega)) (ai rfl ?_)))))
 refine s1 (sq (sq (rD [3,4,6,7,92] (s4 (y2 (ai pk (s1 (y3 (ai (fun h=>(by simp[gb] at h;obtain⟨j,hj,hjl,_⟩:=xV hok (f:=f.frm) (n:=f.num) (by omega);rw[hj,aVr,aV hjl];exact⟨⟨by omega,by rw[aG];omega⟩,rfl⟩)) (ai rk (y1 (ai (fun h=>(by simp[gb] at h;obtain⟨j,hj,hjl,_⟩:=xV hok (f:=f.frm) (n:=f.num) (by omega);rw[hj,aVr,aV hjl];exact⟨aVs rfl,rfl⟩)) (ai rk (y3 (ai pk (s1 (y3 (ai (fun h=>(by simp[gb] at h;obtain⟨j,hj,hjl,_⟩:=xV hok (f:=f.frm) (n:=f.num) (by omega);rw[hj,aVr,aV hjl];exact⟨⟨by omega,by rw[aG];omega⟩,rfl⟩)) (ai rk (y1 (ai (fun h=>(by simp[gb] at h;obtain⟨j,hj,hjl,_⟩:=xV hok (f:=f.frm) (n:=f.num) (by omega);rw[hj,aVr,aV hjl];exact⟨aVs rfl,rfl⟩)) (ai rk (y3 (ai pk (ai (by kernel_rfl) (cd rfl (fun c92=> ?_) fun c92=> ?_))))))))))))))))))))))))))
 · have hno: ¬tL k f=true:=aM9 hok c92
   refine sq (rT [4,5] (s4 (rt ?_)))
   have hr:aS k f=(k,[]):=ee hok hgo hkd hno
   refine rq [] [22,15] rfl ?_
   repeat' apply ai
   all_goals try exact qx
   all_goals(first|with_reducible rfl|(rw[hr];done)|(rw[hr];rfl)|exact aE _|rfl)
 have hyes:tL k f=true:=aKo hok c92
 refine sk (sq (wa [tP 3 3,tP 4 4,tP 7 7,tO 6 15 0,oB 2 31 [.d (.i (k).id),.d (.b (k).up),.d (.s (k).log),.d (.i (k).forced),.d (.sl (aP (k).halves))],oB 3 63 [.d (.i f.kind),.d (.i f.src),.d (.i f.dst),.d (.i f.frm),.d (.i f.num),.d (.i f.to),.d (.i f.til),.d (.i f.size),.d (.i f.mix),.d (.s f.data)],oB 4 31 [.d (.i 0),.d (.b false),.d (.s []),.d (.i 0),.nil],oB 7 31 [.d (.i (k).id),.d (.b (k).up),.d (.s (k).log),.d (.i (k).forced),.d (.sl (aP (k).halves))],oR 15 63 10 []] [] [22] ?_ ?_))
 · repeat' apply ai
   all_goals first|exact qx|exact aE _|rfl|exact qz
 have q1:=bP (k:=6) (n:=f.frm.toNat) (by simp;omega)
 have q2:=bP (k:=6) (n:=f.num.toNat) (by simp;omega)
 have q3:=bP (k:=6) (n:=f.til.toNat) (by simp;omega)
 have hll: (qU f).length≤100:=by simp[qU,jE,kV];omega
 refine rD [4,6,13] (s7 (xp (qv f.frm f.num f.til (by have:=hfs;omega)) (ai rfl ?_)))
 refine ai (by show _≤9223372036854775807;(try simp only[aVt,aVw,aVx]);omega) (xp (bd k (qU f) false hok (by omega)) (ai rfl ?_))
 refine s6 (ai (by kernel_rfl) (sq (rT [4,5] (s4 (rt ?_)))))
 have hr:aS k f=((eI k (qU f) false).1,[]):=vz hok hgo hkd hyes
 refine rq [] [15] rfl ?_
 repeat' apply ai
 all_goals try exact qx
 all_goals(first|with_reducible rfl|(rw[hr];done)|(rw[hr];rfl)|exact aE _|rfl)
theorem ksD (id:Int): (bY id).held=[]∧(bY id).marks=[]∧(bY id).inbox=[]:=by
 unfold bY
 split<;>exact⟨rfl,rfl,rfl⟩
theorem aKv {Q:Nat→Prop} (h0:Q 900) (h1:Q 901) (h2:Q 902): ∀j∈[900,901,902],Q j:=by
 intro j hj
 simp only[aV6,List.mem_nil_iff,or_false] at hj
 rcases hj with rfl|rfl|rfl<;>assumption
theorem lf (l:List bA) (e es:Nat):pY (.row e es (aH l)):=by
 intro r hr d hd
 obtain⟨n,_,rfl⟩:=aV5.1 hr
 simp only[bA.row,aV6,List.mem_nil_iff,or_false] at hd
 rcases hd with rfl|rfl|rfl|rfl|rfl<;>trivial
theorem aFe (l:List bU) (e es:Nat):pY (.row e es (aM l)):=by
 intro r hr d hd
 obtain⟨n,_,rfl⟩:=aV5.1 hr
 simp only[bU.row,aV6,List.mem_nil_iff,or_false] at hd
 rcases hd with rfl|rfl|rfl<;>trivial
theorem aNg (k:aX×Bool):gU [tV 0 (.tup [.agg [.d (.i (k.1).id),.d (.i (k.1).time),.d (.i (k.1).next),.own 900 (k.1).held.length,.own 901 (k.1).marks.length,.own 902 (k.1).inbox.length],.c (.d (.b k.2))]),oR 900 52 5 (aH (k.1).held),oR 901 162 3 (aM (k.1).marks),oR 902 52 5 (aH (k.1).inbox)]:=by
 intro p hp
 simp only[aV6,List.mem_nil_iff,or_false] at hp
 rcases hp with rfl|rfl|rfl|rfl
 · simp[pY,dj,dh,yP,sA]
 · exact lf _ _ _
 · exact aFe _ _ _
 exact lf _ _ _
end Go.Proofs.YtmabaopgkimfmaaGreatDoor
namespace Go.Ab
open Int renaming toNat_natCast→aVr
open Nat renaming le_of_ble_eq_true→aVs,zero_le→aVv,le_refl→aVz
open List renaming length_append→aVt,length_cons→aVw,length_nil→aVx,getD_eq_getElem?_getD→aVy,length_take→aV0,getElem?_eq_getElem→aV1,getElem?_eq_some_iff→aV2,take_length→aV3,length_drop→aV4,mem_map→aV5,mem_cons→aV6,range→aV7,all_eq_true→aV8,length_set→aV9,mem_singleton→aWa,replicate→aWb
open Bool renaming and_eq_true→aVu,or_eq_true→aWc
open Go Go.RowKit
set_option linter.unusedVariables false
set_option linter.unusedSimpArgs false
theorem aKw (k:aX) (n:bA): (fZ k n).1.time=k.time∧(fZ k n).1.next=k.next:=by
 unfold fZ
 repeat' split
 all_goals exact⟨rfl,rfl⟩
theorem xf {k:aX} {rec:List UInt8} (h: (bX k rec).2=true):cP k=true∧(dL k rec).2=true∧(bX k rec).1=(dL k rec).1∧cP (dL k rec).1=true:=by
 unfold bX at h ⊢
 split at h
 · rename_i hk
   rw[aC hk]
   unfold mG at h ⊢
   split at h
   · rename_i hx
     rw[aC hx]
     simp only[aVu] at hx
     exact⟨hk,hx.1,rfl,hx.2⟩
   · cases h
 · cases h
theorem aBj {n:bA} (h:dZ n=true):dK (fN n)=(n,true):=aAt _ n h (by unfold fN;rw[aC h])
theorem aHm {n:bA} (h: ¬dZ n=true):fN n=[]:=by unfold fN;rw[aB h]
theorem ic {k:aX} {w:List UInt8} {n:bA} (hw: ∀b∈w,b≠32) (h1: (w==iP||w==iQ)=false) (h2: (w==lG||w==dF||w==fY||w==eW)=true):dL k (cY w n)=if dZ n then fC k w n else(k,false):=by
 have e:cY w n=w++32::fN n:=by simp[cY]
 obtain⟨q1,q2,q3⟩:=mW (w:=w) (r:=fN n) hw
 rw[e]
 by_cases hn:dZ n=true
 · rw[aC hn,aAw q3 (by rw[q1];exact h1) (by rw[q1];exact h2) (by rw[q2,aBj hn]),q1,q2,aBj hn]
 · rw[aB hn,rP q3 (by rw[q1];exact h1) (by rw[q1];exact h2) (by rw[q2,aHm hn];rfl)]
theorem aP7 {l:List bA} {f m:Int} (h: ∀x∈l,¬(x.frm=f∧x.num=m)):aW l f m<0:=by
 rcases gE (oD l f m) l.length 0 with h1|⟨k,h1,_,h2,h3,_⟩
 · rw[aW,h1];decide
 · have hk:k<l.length:=by omega
   unfold oD at h3
   simp only[aVu,beq_iff_eq] at h3
   exact absurd h3 (h _ (cM hk))
theorem aNh {l:List bU} {f m:Int} (h: ∀x∈l,¬(x.frm=f∧x.num=m)):fM l f m<0:=by
 rcases gE (rO l f m) l.length 0 with h1|⟨k,h1,_,h2,h3,_⟩
 · rw[fM,h1];decide
 · have hk:k<l.length:=by omega
   unfold rO at h3
   simp only[aVu,beq_iff_eq] at h3
   exact absurd h3 (h _ (cM hk))
theorem ie {l:List bA} {f m:Int}:aW l f m<0↔ ∀x∈l,¬(x.frm=f∧x.num=m):=⟨fun h x hx=>ub h hx,aP7⟩
theorem aC9 {l:List bU} {f m:Int}:fM l f m<0↔ ∀x∈l,¬(x.frm=f∧x.num=m):=⟨fun h x hx=>uc h hx,aNh⟩
section
variable {α:Type}
theorem aNi {p:α→Bool} {n x:α} {l:List α}:x∈qI p n l↔x=n∨x∈l:=by
 unfold qI
 rw[List.mem_append,aV6]
 conv=>rhs;rw[← List.takeWhile_append_dropWhile (p:=p) (l:=l)]
 rw[List.mem_append]
 constructor
 · rintro(h|h|h)<;>simp[h]
 · rintro(h|h|h)<;>simp[h]
def Srt (lt:α→α→Prop) (l:List α):Prop:=l.Pairwise lt
theorem xg {p:α→Bool} {n:α}: ∀{l:List α},(∀x∈l,p x=true)→qI p n l=l++[n]
 | [],_=>rfl
 |a::l,h=>by
  have ih:=xg (n:=n) (l:=l) fun x hx=>h x (List.mem_cons_of_mem _ hx)
  unfold qI at ih ⊢
  rw[List.takeWhile_cons_of_pos (h a (List.mem_cons_self ..)),List.dropWhile_cons_of_pos (h a (List.mem_cons_self ..)),List.cons_append,ih];rfl
theorem aP8 {l:List α} {i:Nat} {x:α} (h:x∈eG l i): ∃j,j≠i∧l[j]? =some x:=by
 unfold eG at h
 rcases List.mem_append.1 h with h|h
 · obtain⟨j,hj⟩:=List.mem_iff_getElem?.1 h
   rw[List.getElem?_take] at hj
   split at hj
   · exact⟨j,by omega,hj⟩
   · cases hj
 · obtain⟨j,hj⟩:=List.mem_iff_getElem?.1 h
   rw[List.getElem?_drop] at hj
   exact⟨i+1+j,by omega,hj⟩
end
def ltN (a b:bA):Prop:=cD a.frm a.num b.frm b.num=true
def ltM (a b:bU):Prop:=cD a.frm a.num b.frm b.num=true
theorem xh {a b c d:Int}:cD a b c d=true↔a<c∨a=c∧b<d:=by simp[cD]
theorem xi {a b:Int}: ¬cD a b a b=true:=by rw[xh];omega
theorem aBk {a b c d e f:Int} (h1:cD a b c d=true) (h2:cD c d e f=true):cD a b e f=true:=by rw[xh] at *; omega
theorem aFf {l:List bA}:iZ l=true↔(∀x∈l,dZ x=true)∧Srt ltN l:=by
 constructor
 · intro h
   refine⟨fun x hx=>pM h hx,?_⟩
   have hs: ∀i,i+1<l.length→ltN (l.getD i .zero) (l.getD (i+1) .zero):=fun i hi=>by
    have h1:=aV8.1 h (i+1) (List.mem_range.2 hi)
    unfold lR at h1
    simp only[aVu,aWc,beq_iff_eq] at h1
    rcases h1.2 with h2|h2
    · omega
    · exact h2
   have key: ∀d i,i+d+1<l.length→ltN (l.getD i .zero) (l.getD (i+d+1) .zero):=by
    intro d
    induction d with
    |zero=>intro i hi;exact hs i hi
    |succ d ih=>intro i hi;exact aBk (ih i (by omega)) (hs _ (by omega))
   refine List.pairwise_iff_getElem.2 fun i j hi hj hij=> ?_
   have:=key (j - i - 1) i (by omega)
   rw[show i+(j - i - 1)+1=j by omega,aVy,aVy,aV1 hi,aV1 hj] at this
   exact this
 · rintro⟨h1,h2⟩
   refine aV8.2 fun i hi=> ?_
   have hi:=List.mem_range.1 hi
   unfold lR
   simp only[aVu,aWc,beq_iff_eq]
   refine⟨h1 _ (cM hi),?_⟩
   by_cases e:i=0
   · exact .inl e
   · refine .inr ?_
     have:=List.pairwise_iff_getElem.1 h2 (i - 1) i (by omega) hi (by omega)
     rw[aVy,aVy,aV1 hi,aV1 (by omega)]
     exact this
theorem aFg {l:List bU}:nJ l=true↔(∀x∈l,jQ x=true)∧Srt ltM l:=by
 constructor
 · intro h
   refine⟨fun x hx=>vY h hx,?_⟩
   have hs: ∀i,i+1<l.length→ltM (l.getD i .zero) (l.getD (i+1) .zero):=fun i hi=>by
    have h1:=aV8.1 h (i+1) (List.mem_range.2 hi)
    unfold lS at h1
    simp only[aVu,aWc,beq_iff_eq] at h1
    rcases h1.2 with h2|h2
    · omega
    · exact h2
   have key: ∀d i,i+d+1<l.length→ltM (l.getD i .zero) (l.getD (i+d+1) .zero):=by
    intro d
    induction d with
    |zero=>intro i hi;exact hs i hi
    |succ d ih=>intro i hi;exact aBk (ih i (by omega)) (hs _ (by omega))
   refine List.pairwise_iff_getElem.2 fun i j hi hj hij=> ?_
   have:=key (j - i - 1) i (by omega)
   rw[show i+(j - i - 1)+1=j by omega,aVy,aVy,aV1 hi,aV1 hj] at this
   exact this
 · rintro⟨h1,h2⟩
   refine aV8.2 fun i hi=> ?_
   have hi:=List.mem_range.1 hi
   unfold lS
   simp only[aVu,aWc,beq_iff_eq]
   refine⟨h1 _ (cM hi),?_⟩
   by_cases e:i=0
   · exact .inl e
   · refine .inr ?_
     have:=List.pairwise_iff_getElem.1 h2 (i - 1) i (by omega) hi (by omega)
     rw[aVy,aVy,aV1 hi,aV1 (by omega)]
     exact this
theorem nC {k:aX}:cP k=true↔(dY k.id=true∧(0≤k.time∧k.time≤999)∧(1≤k.next∧k.next≤100)∧k.held.length≤6∧k.marks.length≤12∧k.inbox.length≤6)∧
 ((∀x∈k.held,dZ x=true)∧Srt ltN k.held)∧((∀x∈k.marks,jQ x=true)∧Srt ltM k.marks)∧((∀x∈k.inbox,dZ x=true)∧Srt ltN k.inbox)∧
 (∀n∈k.held,¬(n.frm=k.id∧k.next≤n.num)∧k.time<n.til∧ek k.id n=true∧fM k.marks n.frm n.num<0)∧
 (∀m∈k.marks,¬(m.frm=k.id∧k.next≤m.num)∧k.time<m.til)∧
 (∀n∈k.inbox,¬(n.frm=k.id∧k.next≤n.num)∧n.to=k.id∧ ¬(k.time<n.til∧fM k.marks n.frm n.num<0)):=by
 have key: ∀{α:Type} {z:α} {l:List α} {P:Nat→Bool} {R:α→Prop},(∀i,P i=true↔R (l.getD i z))→((aV7 l.length).all P=true↔ ∀x∈l,R x):=by
  intro α z l P R h
  constructor
  · intro h1 x hx
    obtain⟨i,hi⟩:=List.mem_iff_getElem?.1 hx
    have hlt:=(aV2.1 hi).1
    have:=(h i).1 (aV8.1 h1 i (List.mem_range.2 hlt))
    rw[aVy,hi] at this
    exact this
  · intro h1
    exact aV8.2 fun i hi=>(h i).2 (h1 _ (cM (List.mem_range.1 hi)))
 unfold cP
 simp only[aVu,aFf,aFg,aD,gT]
 rw[key (z:=bA.zero) (l:=k.held) (P:=vB k) (R:=fun n=> ¬(n.frm=k.id∧k.next≤n.num)∧k.time<n.til∧ek k.id n=true∧fM k.marks n.frm n.num<0) (fun i=>by
  unfold vB
  simp only[aVu,Bool.not_eq_true',Bool.and_eq_false_iff,beq_eq_false_iff_ne,aD,decide_eq_false_iff_not]
  constructor
  · rintro⟨⟨⟨h1,h2⟩,h3⟩,h4⟩;exact⟨fun h=>by rcases h1 with h1|h1;exact h1 h.1;exact h1 h.2,h2,h3,h4⟩
  · rintro⟨h1,h2,h3,h4⟩;exact⟨⟨⟨by by_cases e: (k.held.getD i bA.zero).frm=k.id;exact .inr fun h=>h1 ⟨e,h⟩;exact .inl e,h2⟩,h3⟩,h4⟩),
  key (z:=bU.zero) (l:=k.marks) (P:=wQ k) (R:=fun m=> ¬(m.frm=k.id∧k.next≤m.num)∧k.time<m.til) (fun i=>by
   unfold wQ
   simp only[aVu,Bool.not_eq_true',Bool.and_eq_false_iff,beq_eq_false_iff_ne,aD,decide_eq_false_iff_not]
   constructor
   · rintro⟨h1,h2⟩;exact⟨fun h=>by rcases h1 with h1|h1;exact h1 h.1;exact h1 h.2,h2⟩
   · rintro⟨h1,h2⟩;exact⟨by by_cases e: (k.marks.getD i bU.zero).frm=k.id;exact .inr fun h=>h1 ⟨e,h⟩;exact .inl e,h2⟩),
  key (z:=bA.zero) (l:=k.inbox) (P:=sB k) (R:=fun n=> ¬(n.frm=k.id∧k.next≤n.num)∧n.to=k.id∧ ¬(k.time<n.til∧fM k.marks n.frm n.num<0)) (fun i=>by
   unfold sB
   simp only[aVu,Bool.not_eq_true',Bool.and_eq_false_iff,beq_eq_false_iff_ne,aD,decide_eq_false_iff_not,beq_iff_eq]
   constructor
   · rintro⟨⟨h1,h2⟩,h3⟩;exact⟨fun h=>by rcases h1 with h1|h1;exact h1 h.1;exact h1 h.2,h2,fun h=>by rcases h3 with h3|h3;exact h3 h.1;exact h3 h.2⟩
   · rintro⟨h1,h2,h3⟩;exact⟨⟨by by_cases e: (k.inbox.getD i bA.zero).frm=k.id;exact .inr fun h=>h1 ⟨e,h⟩;exact .inl e,h2⟩,by by_cases e:k.time< (k.inbox.getD i bA.zero).til;exact .inr fun h=>h3 ⟨e,h⟩;exact .inl e⟩)]
 constructor
 · rintro⟨⟨⟨⟨⟨⟨⟨⟨⟨⟨⟨a1,a2⟩,a3⟩,a4⟩,a5⟩,a6⟩,a7⟩,a8⟩,a9⟩,b1⟩,b2⟩,b3⟩;exact⟨⟨a1,a2,a3,a4,a5,a6⟩,a7,a8,a9,b1,b2,b3⟩
 · rintro⟨⟨a1,a2,a3,a4,a5,a6⟩,a7,a8,a9,b1,b2,b3⟩;exact⟨⟨⟨⟨⟨⟨⟨⟨⟨⟨⟨a1,a2⟩,a3⟩,a4⟩,a5⟩,a6⟩,a7⟩,a8⟩,a9⟩,b1⟩,b2⟩,b3⟩
theorem xj {l:List bA} {n x:bA}:x∈jB l n↔x=n∨x∈l:=aNi
theorem aHn {k:aX} {x:aX×Bool} (h1:x.2=true) (h2:cP x.1=true):mG k x=(x.1,true):=by
 unfold mG;rw[aC (by rw[h1,h2];rfl)]
theorem sX {k:aX} {rec:List UInt8} (hk:cP k=true) (h1: (dL k rec).2=true) (h2:cP (dL k rec).1=true):bX k rec=((dL k rec).1,true):=by
 rw[aC0 hk,aHn h1 h2]
theorem aHo {k:aX} {n:bA} (h: (fZ k n).2=true): (au k n=true∧(k.held.length:Int)+k.marks.length+1≤12)∧
 (fZ k n).1=if n.to==k.id then{k with inbox:=jB k.inbox n,marks:=qH k.marks ⟨n.frm,n.num,n.til⟩} else{k with held:=jB k.held n}:=by
 unfold fZ at h ⊢
 split at h
 · rename_i hx
   rw[aC hx]
   simp only[aVu,aD] at hx
   exact⟨hx,rfl⟩
 · cases h
theorem aFh {k:aX} {n:bA} (h:au k n=true):dZ n=true∧k.time<n.til∧aW k.held n.frm n.num<0∧aW k.inbox n.frm n.num<0∧fM k.marks n.frm n.num<0:=by
 unfold au at h
 simp only[aVu,aD] at h
 exact⟨h.1.1.1.1,h.1.1.1.2,h.1.1.2,h.1.2,h.2⟩
theorem xk (k:aX) {w:List UInt8} {m:bU} (hm:jQ m=true) (hw: ∀b∈w,b≠32) (h1: (w==iP||w==iQ)=false) (h2: (w==lG||w==dF||w==fY||w==eW)=false) (h3: (w==kV||w==oE||w==gK)=true):dL k (jE w m)=gL k w m:=by
 have e:jE w m=w++32::vX m:=by simp[jE,vX]
 obtain⟨q1,q2,q3⟩:=mW (w:=w) (r:=vX m) hw
 obtain⟨l1,l2,l3,_⟩:=aA2 hm
 rw[e,aAx q3 (by rw[q1];exact h1) (by rw[q1];exact h2) (by rw[q1];exact h3) (by rw[q2,l1,l2];rfl),q1,q2,l3]
theorem aHp (k:aX) {n:Nat} (hn:n<100000):dL k (oU n)=kQ k iQ n:=by
 have e:oU n=iQ++32::jA n:=by simp[oU]
 obtain⟨h1,h2,h3⟩:=mW (w:=iQ) (r:=jA n) (by decide)
 rw[e,tv h3 (by rw[h1];rfl) (by rw[h2,lU hn];rfl),h1,h2,rQ (lU hn)]
theorem getD_some {α:Type} {l:List α} {i:Nat} {z:α} (h:i<l.length):l[i]? =some (l.getD i z):=by
 rw[aVy,aV1 h];rfl
theorem aP9 {l m:List bU} {f n:Int} (h:fM m f n<0) (hs: ∀x∈l,x∈m):fM l f n<0:=aC9.2 fun x hx=>aC9.1 h x (hs x hx)
theorem aQa {l m:List bA} {f n:Int} (h:aW m f n<0) (hs: ∀x∈l,x∈m):aW l f n<0:=ie.2 fun x hx=>ie.1 h x (hs x hx)
theorem lK: ∀{rs ts:List (List UInt8)} {k k2:aX},fR k rs=(k2,true)→fR k (rs++ts)=fR k2 ts
 | [],ts,k,k2,h=>by simp only[fR,Prod.mk.injEq,and_true] at h;rw[h];rfl
 |r::rs,ts,k,k2,h=>by
  simp only[fR,List.cons_append] at h ⊢
  split at h
  · rename_i hx
    rw[aC hx];exact lK h
  · cases h
theorem rV {k k2:aX} {r:List UInt8} (h:bX k r=(k2,true)):fR k [r]=(k2,true):=by
 simp only[fR];rw[h,aC rfl]
theorem rW {k:aX} (hk:cP k=true) {h i:List bA} {m:List bU} (hh:h.Sublist k.held) (hm:m.Sublist k.marks) (hi:i.Sublist k.inbox) (hc:i=[]∨m=k.marks):cP ⟨k.id,k.time,k.next,h,m,i⟩=true:=by
 obtain⟨⟨k1,k2,k3,k4,k5,k6⟩,⟨n1,s1⟩,⟨n2,s2⟩,⟨n3,s3⟩,c1,c2,c3⟩:=nC.1 hk
 refine nC.2 ⟨⟨k1,k2,k3,Nat.le_trans hh.length_le k4,Nat.le_trans hm.length_le k5,Nat.le_trans hi.length_le k6⟩,⟨fun x hx=>n1 x (hh.subset hx),s1.sublist hh⟩,⟨fun x hx=>n2 x (hm.subset hx),s2.sublist hm⟩,⟨fun x hx=>n3 x (hi.subset hx),s3.sublist hi⟩,
  fun n hn=> ?_,fun x hx=>c2 x (hm.subset hx),fun n hn=> ?_⟩
 · obtain⟨q1,q2,q3,q4⟩:=c1 n (hh.subset hn)
   exact⟨q1,q2,q3,aP9 q4 fun x hx=>hm.subset hx⟩
 · rcases hc with rfl|rfl
   · cases hn
   · exact c3 n (hi.subset hn)
theorem aNj {α:Type} {lt:α→α→Prop} {l:List α} (h:Srt lt l) {i:Nat} {z:α} (hi:i<l.length): ∀x∈l.take i,lt x (l.getD i z):=by
 intro x hx
 obtain⟨j,hj⟩:=List.mem_iff_getElem?.1 hx
 rw[List.getElem?_take] at hj
 split at hj
 · rename_i hji
   obtain⟨hj1,hj2⟩:=aV2.1 hj
   have:=List.pairwise_iff_getElem.1 h j i hj1 hi hji
   rw[hj2] at this
   rw[aVy,aV1 hi];exact this
 · cases hj
theorem xl {l:List bA} (h:Srt ltN l) {i:Nat} (hi:i<l.length):jB (l.take i) (l.getD i .zero)=l.take (i+1)∧aW (l.take i) (l.getD i .zero).frm (l.getD i .zero).num<0:=by
 have hp:=aNj h (z:=bA.zero) hi
 refine⟨by rw[xS,xg fun x hx=>hp x hx,dH (z:=bA.zero) hi],ie.2 fun x hx e=> ?_⟩
 have:=hp x hx
 rw[ltN,e.1,e.2] at this
 exact xi this
theorem aHq {l:List bU} (h:Srt ltM l) {i:Nat} (hi:i<l.length):qH (l.take i) (l.getD i .zero)=l.take (i+1)∧fM (l.take i) (l.getD i .zero).frm (l.getD i .zero).num<0:=by
 have hp:=aNj h (z:=bU.zero) hi
 refine⟨by rw[dq,xg fun x hx=>hp x hx,dH (z:=bU.zero) hi],aC9.2 fun x hx e=> ?_⟩
 have:=hp x hx
 rw[ltM,e.1,e.2] at this
 exact xi this
theorem ef {α:Type} {l:List α}: ([]:List α).Sublist l:=List.nil_sublist _
theorem xm {k:aX} (hk:cP k=true): ∀i,i≤k.marks.length→fR ⟨k.id,k.time,k.next,[],[],[]⟩ ((k.marks.take i).map (jE gK))=(⟨k.id,k.time,k.next,[],k.marks.take i,[]⟩,true)
 |0,_=>rfl
 |i+1,hi=>by
  have ih:=xm hk i (by omega)
  obtain⟨_,_,⟨n2,s2⟩,_⟩:=nC.1 hk
  rw[dH (z:=bU.zero) (show i<k.marks.length by omega),List.map_append,lK ih]
  refine rV ?_
  have hm:=n2 _ (cM (z:=bU.zero) (show i<k.marks.length by omega))
  obtain⟨e1,e2⟩:=aHq s2 (show i<k.marks.length by omega)
  have hd:dL ⟨k.id,k.time,k.next,[],k.marks.take i,[]⟩ (jE gK (k.marks.getD i .zero))=(⟨k.id,k.time,k.next,[],k.marks.take (i+1),[]⟩,true):=by
   rw[xk _ hm (by decide) rfl rfl rfl]
   unfold gL
   rw[aB (by rw[show(gK==kV)=false by decide];simp),aB (by rw[show(gK==oE)=false by decide];simp),aC (by rw[decide_eq_true e2];rfl),e1]
  rw[sX (rW hk ef (List.take_sublist _ _) ef (.inl rfl)) (by rw[hd]) (by rw[hd];exact rW hk ef (List.take_sublist _ _) ef (.inl rfl)),hd,← dH (z:=bU.zero) (show i<k.marks.length by omega)]
theorem aNk {x:aX} {n:bA} (hn:dZ n=true) (h1:aW x.held n.frm n.num<0) (h2:aW x.inbox n.frm n.num<0):dL x (cY fY n)=({x with held:=jB x.held n},true):=by
 rw[ic (by decide) rfl rfl,aC hn]
 unfold fC
 rw[aB (by rw[show(fY==lG)=false by decide];simp),aB (by rw[show(fY==dF)=false by decide];simp),aB (by simp;omega),aC (by decide)]
theorem aKx {x:aX} {n:bA} (hn:dZ n=true) (h1:aW x.held n.frm n.num<0) (h2:aW x.inbox n.frm n.num<0):dL x (cY eW n)=({x with inbox:=jB x.inbox n},true):=by
 rw[ic (by decide) rfl rfl,aC hn]
 unfold fC
 rw[aB (by rw[show(eW==lG)=false by decide];simp),aB (by rw[show(eW==dF)=false by decide];simp),aB (by simp;omega),aB (by decide),aC (by decide)]
theorem aBl {k:aX} (hk:cP k=true): ∀i,i≤k.held.length→fR ⟨k.id,k.time,k.next,[],k.marks,[]⟩ ((k.held.take i).map (cY fY))=(⟨k.id,k.time,k.next,k.held.take i,k.marks,[]⟩,true)
 |0,_=>rfl
 |i+1,hi=>by
  have ih:=aBl hk i (by omega)
  obtain⟨_,⟨n1,s1⟩,_⟩:=nC.1 hk
  rw[dH (z:=bA.zero) (show i<k.held.length by omega),List.map_append,lK ih]
  refine rV ?_
  obtain⟨e1,e2⟩:=xl s1 (show i<k.held.length by omega)
  have hd:=aNk (x:=⟨k.id,k.time,k.next,k.held.take i,k.marks,[]⟩) (n1 _ (cM (z:=bA.zero) (show i<k.held.length by omega))) e2 (ie.2 fun x hx=>nomatch hx)
  rw[e1] at hd
  rw[sX (rW hk (List.take_sublist _ _) (List.Sublist.refl _) ef (.inl rfl)) (by rw[hd]) (by rw[hd];exact rW hk (List.take_sublist _ _) (List.Sublist.refl _) ef (.inl rfl)),hd,← dH (z:=bA.zero) (show i<k.held.length by omega)]
def Ap (k:aX):Prop:= ∀n∈k.inbox,aW k.held n.frm n.num<0
theorem Ap.nil {k:aX} (h:k.inbox=[]):Ap k:=fun n hn=>by rw[h] at hn;cases hn
theorem Ap.less {k x:aX} (h:Ap k) (hi: ∀n∈x.inbox,n∈k.inbox) (hh: ∀n∈x.held,n∈k.held):Ap x:=fun n hn=>aQa (h n (hi n hn)) hh
theorem aIz {α:Type} {l:List α} {i:Nat} {x:α} (h:x∈eG l i):x∈l:=by
 obtain⟨j,_,hj⟩:=aP8 h
 exact List.mem_iff_getElem?.2 ⟨j,hj⟩
theorem Ap.put {k:aX} {n:bA} (h:Ap k) (hn:aW k.inbox n.frm n.num<0) {x:aX} (hx:x.held=jB k.held n) (hi:x.inbox=k.inbox):Ap x:=fun m hm=>by
 rw[hi] at hm
 rw[hx]
 refine ie.2 fun y hy e=> ?_
 rcases xj.1 hy with rfl|hy
 · exact ie.1 hn m hm ⟨e.1.symm,e.2.symm⟩
 · exact ie.1 (h m hm) y hy e
theorem Ap.come {k:aX} {n:bA} (h:Ap k) (hn:aW k.held n.frm n.num<0) {x:aX} (hx:x.inbox=jB k.inbox n) (hi:x.held=k.held):Ap x:=fun m hm=>by
 rw[hx] at hm
 rw[hi]
 rcases xj.1 hm with rfl|hm
 · exact hn
 · exact h m hm
theorem aBm {k:aX} (h:Ap k) (n:bA):Ap (fZ k n).1:=by
 by_cases h1: (fZ k n).2=true
 · obtain⟨⟨q1,_⟩,q2⟩:=aHo h1
   obtain⟨_,_,q3,q4,_⟩:=aFh q1
   rw[q2]
   split
   · exact h.come q3 rfl rfl
   · exact h.put q4 rfl rfl
 · unfold fZ at h1 ⊢
   split
   · rename_i hx;rw[aC hx] at h1;exact absurd rfl h1
   · exact h
theorem aKy {k:aX} (h:Ap k) (rec:List UInt8):Ap (dL k rec).1:=by
 have hnum: ∀w n,Ap (kQ k w n).1:=fun w n=>by
  unfold kQ
  split
  · exact h.less (fun m hm=>hm) fun m hm=>(List.mem_filter.1 hm).1
  · split
    · exact h.less (fun m hm=>hm) fun m hm=>hm
    · exact h
 have hnote: ∀w n,Ap (fC k w n).1:=fun w n=>by
  unfold fC
  split
  · exact aBm (h.less (x:={k with next:=wrap64 (k.next+1)}) (fun m hm=>hm) fun m hm=>hm) n
  · split
    · exact aBm h n
    · split
      · exact h
      · rename_i h3
        simp only[aWc,aD,not_or,Int.not_le] at h3
        split
        · exact h.put h3.2 rfl rfl
        · split
          · exact h.come h3.1 rfl rfl
          · exact h
 have hmark: ∀w m,Ap (gL k w m).1:=fun w m=>by
  unfold gL
  split
  · exact h.less (fun m hm=>hm) fun m hm=>aIz hm
  · split
    · exact h.less (fun m hm=>aIz hm) fun m hm=>hm
    · split
      · exact h.less (fun m hm=>hm) fun m hm=>hm
      · exact h
 unfold dL
 repeat' split
 all_goals first|exact hnum _ _|exact hnote _ _|exact hmark _ _|exact h
theorem aKz {k:aX} (h:Ap k) (rec:List UInt8):Ap (bX k rec).1:=by
 unfold bX
 split
 · unfold mG
   split
   · exact aKy h rec
   · exact h
 · exact Ap.nil rfl
theorem aBn: ∀{rs:List (List UInt8)} {k:aX},Ap k→Ap (fR k rs).1
 | [],k,h=>h
 |r::rs,k,h=>by
  unfold fR
  split
  · exact aBn (aKz h r)
  · exact Ap.nil rfl
theorem re (id:Int): (bY id).inbox=[]:=by
 unfold bY
 split<;>rfl
theorem aK0 (id:Int) (rs:List (List UInt8)):Ap (cQ id rs).1:=by
 unfold cQ
 split
 · exact aBn (Ap.nil (re id))
 · exact Ap.nil rfl
theorem xn {k:aX} (hk:cP k=true) (ha:Ap k): ∀i,i≤k.inbox.length→fR ⟨k.id,k.time,k.next,k.held,k.marks,[]⟩ ((k.inbox.take i).map (cY eW))=(⟨k.id,k.time,k.next,k.held,k.marks,k.inbox.take i⟩,true)
 |0,_=>rfl
 |i+1,hi=>by
  have ih:=xn hk ha i (by omega)
  obtain⟨_,_,_,⟨n3,s3⟩,_⟩:=nC.1 hk
  have hm:=cM (z:=bA.zero) (show i<k.inbox.length by omega)
  rw[dH (z:=bA.zero) (show i<k.inbox.length by omega),List.map_append,lK ih]
  refine rV ?_
  obtain⟨e1,e2⟩:=xl s3 (show i<k.inbox.length by omega)
  have hd:=aKx (x:=⟨k.id,k.time,k.next,k.held,k.marks,k.inbox.take i⟩) (n3 _ hm) (ha _ hm) e2
  rw[e1] at hd
  rw[sX (rW hk (List.Sublist.refl _) (List.Sublist.refl _) (List.take_sublist _ _) (.inr rfl)) (by rw[hd]) (by rw[hd];exact rW hk (List.Sublist.refl _) (List.Sublist.refl _) (List.take_sublist _ _) (.inr rfl)),hd,← dH (z:=bA.zero) (show i<k.inbox.length by omega)]
theorem wG {id t n:Int} (h1:dY id=true) (h2:0≤t∧t≤999) (h3:1≤n∧n≤100):cP ⟨id,t,n,[],[],[]⟩=true:=
 nC.2 ⟨⟨h1,h2,h3,by simp,by simp,by simp⟩,⟨fun x hx=>(nomatch hx),List.Pairwise.nil⟩,⟨fun x hx=>(nomatch hx),List.Pairwise.nil⟩,⟨fun x hx=>(nomatch hx),List.Pairwise.nil⟩,fun x hx=>(nomatch hx),fun x hx=>(nomatch hx),fun x hx=>(nomatch hx)⟩
theorem aK1 {id t:Int} (h1:dY id=true) (h2:0≤t∧t≤999):fR ⟨id,0,1,[],[],[]⟩ (if 0<t then [nQ t.toNat] else [])=(⟨id,t,1,[],[],[]⟩,true):=by
 split
 · rename_i h
   refine rV ?_
   have e: ((t.toNat:Nat):Int)=t:=by omega
   have hd:dL ⟨id,0,1,[],[],[]⟩ (nQ t.toNat)=(⟨id,t,1,[],[],[]⟩,true):=by
    rw[aHg _ (by omega),e]
    unfold kQ
    rw[aC (by simpa using h)];rfl
   rw[sX (wG h1 (by omega) (by omega)) (by rw[hd]) (by rw[hd];exact wG h1 h2 (by omega)),hd]
 · rename_i h
   have:t=0:=by omega
   subst this;rfl
theorem aK2 {id t n:Int} (h1:dY id=true) (h2:0≤t∧t≤999) (h3:1≤n∧n≤100):fR ⟨id,t,1,[],[],[]⟩ (if 1<n then [oU n.toNat] else [])=(⟨id,t,n,[],[],[]⟩,true):=by
 split
 · rename_i h
   refine rV ?_
   have e: ((n.toNat:Nat):Int)=n:=by omega
   have hd:dL ⟨id,t,1,[],[],[]⟩ (oU n.toNat)=(⟨id,t,n,[],[],[]⟩,true):=by
    rw[aHp _ (by omega),e]
    unfold kQ
    rw[aB (by rw[show(iQ==iP)=false by decide];simp),aC (by simpa using h)]
   rw[sX (wG h1 h2 (by omega)) (by rw[hd]) (by rw[hd];exact wG h1 h2 h3),hd]
 · rename_i h
   have:n=1:=by omega
   subst this;rfl
theorem aNl {k:aX} (hk:cP k=true) (ha:Ap k):cQ k.id (eA k)=(k,true):=by
 obtain⟨⟨h1,h2,h3,_⟩,_⟩:=nC.1 hk
 have e0:cQ k.id (eA k)=fR ⟨k.id,0,1,[],[],[]⟩ (gu k):=by
  unfold cQ eA bY
  rw[aC h1,aC hk,aC h1]
 have hm:=xm hk k.marks.length (aVz _)
 have hh:=aBl hk k.held.length (aVz _)
 have hi:=xn hk ha k.inbox.length (aVz _)
 rw[aV3] at hm hh hi
 rw[e0]
 unfold gu
 rw[List.append_assoc,List.append_assoc,List.append_assoc,lK (aK1 h1 h2),lK (aK2 h1 h2 h3),lK hm,lK hh,hi]
theorem ae {s s':List UInt8} {n j:Nat} (e:s'.take n=s.take n) (h:j<n):s'.getD j 0=s.getD j 0:=by
 have:=aA (fun l=>l[j]?) e
 simp only[List.getElem?_take,h,if_true] at this
 rw[aVy,aVy,this]
theorem aBo {s s':List UInt8} {n m:Nat} (e:s'.take n=s.take n) (h:m≤n):s'.take m=s.take m:=by
 have:=aA (List.take m) e
 rwa [List.take_take,List.take_take,Nat.min_eq_left h] at this
theorem aK3 {s s' r:List UInt8} {n:Nat} (h:gO s=some (r,n)) (e:s'.take n=s.take n) (hl:n≤s'.length):gO s'=some (r,n):=by
 unfold gO at h
 split at h
 · cases h
 · rename_i i hi
   obtain⟨q1,q2,q3,q4,q5⟩:=vV hi
   split at h
   · cases h
   · rename_i m hm
     split at h
     · rename_i hc
       cases h
       obtain⟨c1,c2,c3,c4⟩:=hc
       have hi':tW s'=some i:=dl q1 q2 (by omega) (by rw[ae e (by omega)];exact q4) fun j h1 h2=>by rw[ae e (by omega)];exact q5 j h1 h2
       unfold gO
       rw[hi']
       simp only
       rw[aBo e (show i≤i+2+m by omega),hm]
       simp only
       rw[aC ⟨c1,c2,hl,by rw[ae e (by omega)];exact c4⟩,aBo e (show i+1+m≤i+2+m by omega)]
     · cases h
theorem fm: ∀(n:Nat) {a b:List UInt8},a.length≤n→(bF a).2=a.length→bF (a++b)=((bF a).1++(bF b).1,a.length+(bF b).2)
 |0,a,b,hn,h=>by
  obtain rfl:a=[]:=List.eq_nil_of_length_eq_zero (by omega)
  rw[eV nK];simp
 |n+1,a,b,hn,h=>by
  cases hr:gO a with
  |none=>
   rw[eV hr] at h
   obtain rfl:a=[]:=List.eq_nil_of_length_eq_zero h.symm
   rw[eV nK];simp
  |some p=>
   obtain⟨r,c⟩:=p
   have hs:=pF hr
   rw[jR hr] at h ⊢
   have h2:gO (a++b)=some (r,c):=aK3 hr (by rw[List.take_append_of_le_length (by omega)]) (by rw[aVt];omega)
   have ih:=fm n (a:=a.drop c) (b:=b) (by rw[aV4];omega) (by rw[aV4];simp only at h;omega)
   rw[jR h2,List.drop_append_of_le_length (by omega),ih,aV4]
   simp only[List.cons_append]
   refine Prod.ext rfl ?_
   simp only;omega
theorem aHr {rec t:List UInt8} (h:iK rec=true):gO (dC rec++t)=some (rec,(dC rec).length):=by
 have h1: (1:Int)≤rec.length∧(rec.length:Int)≤60:=by simpa[iK,gT] using h
 have hl:=aEw (n:=rec.length) (by omega)
 have e:dC rec++t=jA rec.length++(58::(rec++59::t)):=by simp[dC]
 have hlen: (dC rec).length=(jA rec.length).length+2+rec.length:=by simp only[dC,aVt,aVw,aVx];omega
 generalize hd:jA rec.length=d at*
 have hdd: ∀b∈d,fO b=true:=by rw[← hd];exact yZ _
 have hat: ∀j,j<d.length→(d++(58::(rec++59::t))).getD j 0≠58:=fun j hj=>by
  rw[aVy,List.getElem?_append_left hj,aV1 hj]
  have:=hdd _ (List.getElem_mem hj)
  intro e9
  simp only[Option.getD_some] at e9
  rw[e9] at this
  exact absurd this (by decide)
 have hc:tW (d++(58::(rec++59::t)))=some d.length:=dl (aVv _) (by omega) (by simp) (by rw[aVy,List.getElem?_append_right (aVz _)];simp) fun j _ hj=>hat j hj
 have ht: (d++(58::(rec++59::t))).take d.length=d:=List.take_left' rfl
 have hn:iU d=some rec.length:=by rw[← hd];exact lU (by omega)
 unfold gO
 rw[e,hc]
 simp only
 rw[ht,hn]
 simp only
 have hg: (d++(58::(rec++59::t))).getD (d.length+1+rec.length) 0=59:=by
  rw[aVy,List.getElem?_append_right (by omega),show d.length+1+rec.length - d.length=rec.length+1 by omega,List.getElem?_cons_succ,List.getElem?_append_right (aVz _)]
  simp
 rw[aC ⟨by omega,by omega,by simp only[aVt,aVw];omega,hg⟩]
 have hcut: ((d++(58::(rec++59::t))).take (d.length+1+rec.length)).drop (d.length+1)=rec:=by
  rw[show d++(58::(rec++59::t))=(d++[58])++(rec++59::t) by simp,show d.length+1+rec.length=(d++[58]).length+rec.length by simp,List.take_append,List.take_of_length_le (by simp),Nat.add_sub_cancel_left,List.take_left' rfl,show d.length+1=(d++[58]).length by simp,List.drop_left' rfl]
 rw[hcut,hlen]
theorem nU: ∀{recs:List (List UInt8)},recs.all iK=true→bF (cO recs)=(recs,(cO recs).length)
 | [],_=>by rw[aEy,eV nK];rfl
 |r::rs,h=>by
  simp only[List.all_cons,aVu] at h
  have e:cO (r::rs)=dC r++cO rs:=by simp[cO]
  rw[e,jR (aHr h.1),List.drop_left' rfl,nU h.2,aVt]
theorem lL {k:aT}:bL k=true↔dY k.id=true∧dN k.log k.forced=true∧k.halves.length≤3∧(k.up=true∨k.halves.length=0)∧(bM k).2=true∧(zK k).2=true∧(aV7 k.halves.length).all (gQ k.halves)=true:=by
 constructor
 · intro h
   unfold bL at h
   simp only[aVu] at h
   obtain⟨⟨⟨h1,h2⟩,h3⟩,h4⟩:=h
   obtain⟨q1,q2,q3,q4⟩:=fV h1
   exact⟨q1,q2,q3,q4,h2,h3,h4⟩
 · rintro⟨q1,q2,q3,q4,h2,h3,h4⟩
   unfold bL iW
   have q3': ((k.halves.length:Nat):Int)≤3:=by omega
   have q4': (k.up||decide (k.halves.length=0))=true:=by
    rcases q4 with h|h
    · rw[h];rfl
    · rw[decide_eq_true h,Bool.or_true]
   rw[q1,q2,decide_eq_true q3',q4',h2,h3,h4];rfl
theorem xD {k:aT} (h:bL k=true):bV k=(bM k).1:=aC h
theorem aQb {k:aT} (h:bL k=true):bM k=(bV k,true):=Prod.ext (xD h).symm (lL.1 h).2.2.2.2.1
theorem aTu {k:aT} (h:bL k=true): (bV k).id=k.id:=by rw[xD h];exact aNc h
theorem aTv {k:aT} (h:bL k=true):cP (bV k)=true:=by rw[xD h];exact qQ h
theorem aTw {k:aT} (h:bL k=true):Ap (bV k):=by rw[xD h];exact aK0 _ _
theorem aBp {k:aT} (h:dN k.log k.forced=true):jT k={k with forced:=k.log.length}:=by
 unfold jT iI
 rw[aC h]
theorem aDa {l:List UInt8} {f:Int} (h:dN l f=true):dN l l.length=true:=by
 obtain⟨h1,h2,h3,h4⟩:=kH h
 simp only[dN,gT,aVu,aD]
 exact⟨⟨⟨h1,by omega⟩,h3⟩,by rw[aVr,aV3,h3]⟩
theorem aBq {k:aT} (h:bL k=true):bL (jT k)=true:=by
 obtain⟨q1,q2,q3,q4,h2,h3,h4⟩:=lL.1 h
 rw[aBp q2]
 refine lL.2 ⟨q1,aDa q2,q3,q4,h2,?_,h4⟩
 unfold zK
 simp only
 rw[aVr,aV3];exact h2
theorem xo {k:aT} (h:bL k=true):bV (jT k)=bV k:=by
 obtain⟨q1,q2,_⟩:=lL.1 h
 rw[xD (aBq h),xD h,aBp q2];rfl
theorem aDb (n:bA): (fN n).length≤35:=by
 by_cases h:dZ n=true
 · obtain⟨p1,p2,p3,p4,p5⟩:=nM h
   have q1:=bP (k:=0) (n:=n.frm.toNat) (by simp;omega)
   have q2:=bP (k:=1) (n:=n.num.toNat) (by simp;omega)
   have q3:=bP (k:=0) (n:=n.to.toNat) (by simp;omega)
   have q4:=bP (k:=2) (n:=n.til.toNat) (by simp;omega)
   rw[fN,aC h]
   simp only[jS,aVt,aVw,aVx];omega
 · rw[fN,aB h];simp
theorem lh {r:List UInt8} (h1:1≤r.length) (h2:r.length≤60):iK r=true:=by
 simp only[iK,gT,aVu,aD];omega
theorem xq {w:List UInt8} {n:bA} (h:w.length≤5):iK (cY w n)=true:=by
 have:=aDb n
 exact lh (by simp only[cY,aVt,aVw,aVx];omega) (by simp only[cY,aVt,aVw,aVx];omega)
theorem aHs {n:Nat} (h:n≤1000000):iK (nQ n)=true:=
 lh (by simp only[nQ,aVt,aVw,aVx];omega) (by have:=po h;omega)
theorem aHt {n:Nat} (h:n≤1000000):iK (oU n)=true:=
 lh (by simp only[oU,aVt,aVw,aVx];omega) (by have:=pq h;omega)
theorem aHu {w:List UInt8} {m:bU} (hw:w.length≤5) (h: (0≤m.frm∧m.frm≤1000000)∧(0≤m.num∧m.num≤1000000)∧(0≤m.til∧m.til≤1000000)):iK (jE w m)=true:=
 lh (by simp only[jE,aVt,aVw,aVx];omega) (by have:=pn (w:=w) h;omega)
theorem qb {k:aX}: (eA k).all iK=true:=by
 by_cases hk:cP k=true
 · obtain⟨⟨_,ht,hn,_⟩,⟨n1,_⟩,⟨n2,_⟩,⟨n3,_⟩,_⟩:=nC.1 hk
   refine aV8.2 fun r hr=> ?_
   unfold eA at hr
   rw[aC hk] at hr
   unfold gu at hr
   simp only[List.mem_append,aV5] at hr
   rcases hr with(((hr|hr)|⟨m,hm,rfl⟩)|⟨n,hm,rfl⟩)|⟨n,hm,rfl⟩
   · split at hr
     · rw[aWa.1 hr];exact aHs (by omega)
     · cases hr
   · split at hr
     · rw[aWa.1 hr];exact aHt (by omega)
     · cases hr
   · have:=qN (n2 m hm)
     exact aHu (by decide) (by omega)
   · exact xq (by decide)
   · exact xq (by decide)
 · unfold eA;rw[aB hk];rfl
theorem qc: ∀{recs:List (List UInt8)},recs.all iK=true→(cO recs).length≤64*recs.length
 | [],_=>by simp[cO]
 |r::rs,h=>by
  simp only[List.all_cons,aVu] at h
  have e:cO (r::rs)=dC r++cO rs:=by simp[cO]
  have:=aEx h.1
  have ih:=qc h.2
  rw[e,aVt,aVw];omega
theorem xr (k:aX): (cO (eA k)).length≤1664:=by
 have h1:=qc (qb (k:=k))
 have h2:=(qS (k:=k)).1
 omega
theorem qd {l:List UInt8} {f:Int} {rec:List UInt8} (h:dN l f=true) (hr:iK rec=true) (hl:l.length+(dC rec).length≤2400):dN (l++dC rec) f=true∧bF (l++dC rec)=((bF l).1++[rec],l.length+(dC rec).length)∧(l++dC rec).take f.toNat=l.take f.toNat:=by
 obtain⟨h1,h2,h3,h4⟩:=kH h
 have hs:bF (dC rec)=([rec],(dC rec).length):=by
  have:=nU (recs:=[rec]) (by simp[hr])
  simpa[cO] using this
 have ha:=fm _ (b:=dC rec) (aVz _) h3
 rw[hs] at ha
 have ht: (l++dC rec).take f.toNat=l.take f.toNat:=List.take_append_of_le_length (by omega)
 refine⟨?_,ha,ht⟩
 simp only[dN,gT,aVu,aD]
 refine⟨⟨⟨by rw[aVt];exact hl,by rw[aVt];omega⟩,by rw[ha,aVt]⟩,by rw[ht];exact h4⟩
theorem aDc {recs:List (List UInt8)} (h:recs.all iK=true) (hl: (cO recs).length≤2400):dN (cO recs) (cO recs).length=true:=by
 have:=nU h
 simp only[dN,gT,aVu,aD]
 exact⟨⟨⟨hl,by omega⟩,by rw[this]⟩,by rw[aVr,aV3,this]⟩
theorem qe {id:Int} {rs:List (List UInt8)} {r:List UInt8} {k x:aX} (h:cQ id rs=(k,true)) (hd:bX k r=(x,true)):cQ id (rs++[r])=(x,true):=by
 unfold cQ at h ⊢
 split at h
 · rename_i hx
   rw[aC hx,lK h,rV hd]
 · cases h
theorem aNm {k:aT} {rec:List UInt8} (hok:bL k=true) (h: (gS k rec).2=true): (bX (bV k) rec).2=true∧bL (gS k rec).1=true∧bV (gS k rec).1=(bX (bV k) rec).1∧(gS k rec).1.id=k.id∧(gS k rec).1.up=k.up∧(gS k rec).1.halves=k.halves∧
 ((k.log.length+(dC rec).length≤2400∧(gS k rec).1.log=k.log++dC rec∧(gS k rec).1.forced=k.forced)∨(gS k rec).1.log.length≤1664+(dC rec).length∧2400<k.log.length+(dC rec).length)∧iK rec=true:=by
 obtain⟨q1,q2,q3,q4,h2,h3,h4⟩:=lL.1 hok
 have h2':bM k=(bV k,true):=aQb hok
 unfold gS at h ⊢
 rw[h2'] at h ⊢
 simp only at h ⊢
 by_cases hd: (bX (bV k) rec).2=true
 · rw[aC hd] at h ⊢
   have hd2:bX (bV k) rec=((bX (bV k) rec).1,true):=Prod.ext rfl hd
   by_cases ha: (bR k.log k.forced rec).2=true
   · rw[aC ha]
     have hy:iK rec=true∧k.log.length+(dC rec).length≤2400:=Classical.byContradiction fun hn=>by rw[wB q2 hn] at ha;cases ha
     rw[qR q2 hy]
     obtain⟨s1,s2,s3⟩:=qd q2 hy.1 hy.2
     have hk:bM (jF k (k.log++dC rec,k.forced))=((bX (bV k) rec).1,true):=by
      unfold bM jF
      simp only
      rw[s2]
      exact qe h2' hd2
     have ho:bL (jF k (k.log++dC rec,k.forced))=true:=lL.2 ⟨q1,s1,q3,q4,by rw[hk],by unfold zK jF;simp only;rw[s3];exact h3,h4⟩
     exact⟨hd,ho,by rw[xD ho,hk],rfl,rfl,rfl,.inl ⟨hy.2,rfl,rfl⟩,hy.1⟩
   · rw[aB ha] at h ⊢
     have hpk: (eA (bV k)).all iK=true∧(cO (eA (bV k))).length≤2400:=⟨qb,by have:=xr (bV k);omega⟩
     rw[wT q2 hpk] at h ⊢
     simp only[if_true] at h ⊢
     by_cases hb: (bR (cO (eA (bV k))) ((cO (eA (bV k))).length:Int) rec).2=true
     · rw[aC hb]
       have sp:=aDc hpk.1 hpk.2
       have hy:iK rec=true∧(cO (eA (bV k))).length+(dC rec).length≤2400:=Classical.byContradiction fun hn=>by rw[wB sp hn] at hb;cases hb
       rw[qR sp hy]
       obtain⟨s1,s2,s3⟩:=qd sp hy.1 hy.2
       have hback:cQ k.id (bF (cO (eA (bV k)))).1=(bV k,true):=by
        rw[nU hpk.1,← aTu hok];exact aNl (aTv hok) (aTw hok)
       have hk:bM (jF k (cO (eA (bV k))++dC rec,((cO (eA (bV k))).length:Int)))=((bX (bV k) rec).1,true):=by
        unfold bM jF
        simp only
        rw[s2]
        exact qe hback hd2
       have ho:bL (jF k (cO (eA (bV k))++dC rec,((cO (eA (bV k))).length:Int)))=true:=lL.2 ⟨q1,s1,q3,q4,by rw[hk],by unfold zK jF;simp only;rw[s3,aVr,aV3,hback],h4⟩
       refine⟨hd,ho,by rw[xD ho,hk],rfl,rfl,rfl,.inr ⟨?_,?_⟩,hy.1⟩
       · show(cO _++dC rec).length≤_
         rw[aVt];have:=xr (bV k);omega
       · exact Classical.byContradiction fun hn=>ha (by rw[qR q2 ⟨hy.1,by omega⟩])
     · rw[aB hb] at h;cases h
 · rw[aB hd] at h;cases h
def KQ (k:aT):Prop:=k.log.length≤20000∧k.halves.length≤100∧ ∀x∈k.halves,x.got.length≤100
theorem KSm.kq {k:aT} (h:KSm k):KQ k:=⟨by have:=h.1;omega,by have:=h.2.1;omega,fun x hx=>by have:=h.2.2 x hx;omega⟩
theorem KQ.log {k:aT} (h:KQ k):k.log.length≤140737488355328:=by have:=h.1;omega
theorem KQ.zero:KQ .zero:=⟨by show(0:Nat)≤_;omega,by show(0:Nat)≤_;omega,fun _ hx=>nomatch hx⟩
theorem rg (l:List UInt8) (f:Int): (iI l f).1.length≤l.length:=by
 unfold iI
 split
 · exact aVz _
 · exact aVv _
theorem aK4 (k:aX) (w:List UInt8) (m:bU): (gL k w m).1.time=k.time∧(gL k w m).1.next=k.next:=by
 unfold gL
 repeat' split
 all_goals exact⟨rfl,rfl⟩
theorem aQc {k:aX} {n:bA} (h: (bX k (cY dF n)).2=true): (bX k (cY dF n)).1.time=k.time∧(bX k (cY dF n)).1.next=k.next:=by
 obtain⟨_,h2,h3,_⟩:=xf h
 rw[h3]
 rw[ic (by decide) rfl rfl] at h2 ⊢
 split
 · rename_i hn
   rw[aC hn] at h2
   unfold fC at h2 ⊢
   have e1: (dF==lG&&n.frm==k.id&&n.num==k.next)=false:=by rw[show(dF==lG)=false from rfl];rfl
   have e2: (dF==fY)=false:=rfl
   have e3: (dF==eW)=false:=rfl
   rw[e1]
   simp only[e2,e3]
   simp only[aB Bool.false_ne_true]
   split
   · exact aKw k n
   · split<;>exact⟨rfl,rfl⟩
 · exact⟨rfl,rfl⟩
theorem aTx {k:aX} {m:bU} (hm:jQ m=true) (h: (bX k (jE kV m)).2=true): (bX k (jE kV m)).1.time=k.time∧(bX k (jE kV m)).1.next=k.next:=by
 obtain⟨_,h2,h3,_⟩:=xf h
 rw[h3,xk _ hm (by decide) rfl rfl rfl]
 exact aK4 _ _ _
structure nD (x k:aT):Prop where
 ok:bL x=true
 time: (bV x).time=(bV k).time
 next: (bV x).next=(bV k).next
theorem nD.refl {k:aT} (h:bL k=true):nD k k:=⟨h,rfl,rfl⟩
theorem nD.trans {a b c:aT} (h:nD a b) (g:nD b c):nD a c:=⟨h.ok,h.time.trans g.time,h.next.trans g.next⟩
theorem nD.halves {k:aT} {l:List bB} (hok:bL k=true) (hu:k.up=true) (hl:l.length≤3) (h:HOk l):nD (cC k l) k:=by
 have h2:=zX hok hu hl h
 have e:bV (cC k l)=bV k:=by rw[xD h2,xD hok];rfl
 exact⟨h2,by rw[e],by rw[e]⟩
theorem nD.forced {k:aT} (hok:bL k=true):nD (jT k) k:=⟨aBq hok,by rw[xo hok],by rw[xo hok]⟩
theorem nD.write {k:aT} {rec:List UInt8} {fc:Bool} (hok:bL k=true) (h: (bX (bV k) rec).2=true→(bX (bV k) rec).1.time=(bV k).time∧(bX (bV k) rec).1.next=(bV k).next):nD (eI k rec fc).1 k:=by
 unfold eI
 split
 · rename_i hl
   obtain⟨l1,l2,l3,_⟩:=aNm hok hl
   obtain⟨t1,t2⟩:=h l1
   have hs:nD (gS k rec).1 k:=⟨l2,by rw[l3];exact t1,by rw[l3];exact t2⟩
   cases fc
   · exact hs
   · exact(nD.forced l2).trans hs
 · exact .refl hok
theorem aTy {f:bH} {a:Int} (hf:dV f=true) (hk:f.kind=1) (ha:a=2∨a=3):dV (yA a f)=true∧(yA a f).src=f.dst∧(yA a f).dst=f.src:=by
 refine⟨?_,rfl,rfl⟩
 unfold dV at hf ⊢
 rw[aC hk] at hf
 simp only[aVu,aD] at hf
 obtain⟨⟨⟨⟨⟨⟨h1,h2⟩,h3⟩,h4⟩,h5⟩,h6⟩,⟨⟨h7,h8⟩,h9⟩,h10⟩:=hf
 have e1: ¬(yA a f).kind=1:=by show ¬a=1;omega
 have e2: (yA a f).kind=2∨(yA a f).kind=3:=ha
 rw[aB e1,aC e2]
 simp only[aVu,aD]
 exact⟨⟨⟨⟨⟨⟨h2,h1⟩,h3⟩,h4⟩,h5⟩,h6⟩,⟨⟨rfl,rfl⟩,rfl⟩,h10⟩
def aBr (k:aT) (f:bH) (r:aT×List bH):Prop:=
 nD r.1 k∧(∀g∈r.2,dV g=true∧g.src=k.id∧g.dst=f.src)∧r.2.length≤1
theorem aBr.nil {k x:aT} {f:bH} (h:nD x k):aBr k f (x,[]):=⟨h,fun _ hg=>(nomatch hg),aVv _⟩
theorem aBr.one {k x:aT} {f:bH} {a:Int} (h:nD x k) (hf:dV f=true) (hk:f.kind=1) (hd:f.dst=k.id) (ha:a=2∨a=3):aBr k f (x,[yA a f]):=
 ⟨h,fun g hg=>by rw[aWa.1 hg];obtain⟨q1,q2,q3⟩:=aTy hf hk ha;exact⟨q1,q2.trans hd,q3⟩,aVz _⟩
theorem aFi {k:aT} {f:bH} (hok:bL k=true) (hu:k.up=true) (hf:dV f=true) (hk:f.kind=1) (hd:f.dst=k.id):aBr k f (cA k f):=by
 have h0:=uE hok
 have hlg:=fW hok
 have h1:=ru (f:=f) h0 hlg.2.2.2.1 hf hk
 have hadd:=nD.halves hok hu h1.2 h1.1
 have hcut: ∀i,nD (cC k (eG (bT k.halves f).1 i)) k:=fun i=>nD.halves hok hu (Nat.le_trans (sR _ i) h1.2) (rr h1.1 i)
 unfold cA
 split
 · exact .one (.refl hok) hf hk hd (.inr rfl)
 · split
   · exact .one (.forced hok) hf hk hd (.inl rfl)
   · split
     · exact .nil (.refl hok)
     · split
       · exact .nil hadd
       · by_cases h2: (cF f.size ((bT k.halves f).1.getD (bT k.halves f).2.toNat .zero).got).2=true
         · by_cases h3:fN (cN f (cF f.size ((bT k.halves f).1.getD (bT k.halves f).2.toNat .zero).got).1)=[]
           · rw[ed h2 h3];exact .nil (hcut _)
           · have hw:nD (eI (cC k (eG (bT k.halves f).1 (bT k.halves f).2.toNat)) (cY dF (cN f (cF f.size ((bT k.halves f).1.getD (bT k.halves f).2.toNat .zero).got).1)) true).1 k:=
              (nD.write (hcut _).ok aQc).trans (hcut _)
             by_cases h4: (eI (cC k (eG (bT k.halves f).1 (bT k.halves f).2.toNat)) (cY dF (cN f (cF f.size ((bT k.halves f).1.getD (bT k.halves f).2.toNat .zero).got).1)) true).2=true
             · rw[ku h2 h3 h4];exact .one hw hf hk hd (.inl rfl)
             · rw[zY h2 h3 h4];exact .nil hw
         · rw[kt h2];exact .nil hadd
theorem aNn {k:aT} {f:bH} (hok:bL k=true):aBr k f (aS k f):=by
 by_cases h2: (k.up&&dV f&&f.dst==k.id)=true
 · have h2':=h2
   simp only[aVu,beq_iff_eq] at h2'
   obtain⟨⟨hu,hf⟩,hd⟩:=h2'
   by_cases h3:f.kind=1
   · rw[gy hok h2 h3];exact aFi hok hu hf h3 hd
   · by_cases h4:tL k f=true
     · rw[vz hok h2 h3 h4]
       refine .nil (nD.write hok (aTx ?_))
       have h:=hf
       unfold dV at h
       simp only[aVu] at h
       unfold jQ
       simp only[aVu]
       exact⟨⟨h.1.1.1.1.2,h.1.1.2⟩,h.1.2⟩
     · rw[ee hok h2 h3 h4];exact .nil (.refl hok)
 · rw[vw hok h2];exact .nil (.refl hok)
section
variable {P:Program} {cx:Cx P} {σ:St} {ι:Nat→Value} {S:Nat→Prop} {a:Act} {w:World}
theorem RW.reobj (h:RW cx σ ι S a w) (σ1:St) (ι1:Nat→Value) (hev: ∀o k,aQ σ (.o o)=some k→ ∃k',aQ σ1 (.o o)=some k'∧lB (ι o) (ι1 o) k k') (hsl: ∀s,aQ σ1 (.t s)=aQ σ (.t s))
 (hob: ∀o k,aQ σ1 (.o o)=some k→(aQ σ (.o o)=some k∧ι1 o=ι o)∨OR σ1 ι1 w S (ι1 o) k) (hmu: ∀o b,jL σ1 ι1 o b→ ∃o',jL σ ι o' b) (hin: ∀o o' b,jL σ1 ι1 o b→jL σ1 ι1 o' b→o=o'):RW cx σ1 ι1 S a w:=by
 have st:oA σ ι S w σ1 ι1 S w:=⟨fun _ h=>h,fun _ _=>rfl,hev⟩
 refine⟨⟨fun s k hk=> ?_,fun o k hk=> ?_,fun o b hm=> ?_,hin,h.vr.sz⟩,h.size,h.defers,h.fr,fun o b hm=> ?_,h.rd,fun o k hk=> ?_⟩
 · rw[hsl] at hk
   exact pR.step st (h.vr.slots s k hk)
 · rcases hob o k hk with⟨h1,h2⟩|h1
   · rw[h2]
     exact OR.step st (fun _ _=>rfl) (h.vr.objs o k h1)
   · exact h1
 · obtain⟨o',ho'⟩:=hmu o b hm
   exact h.vr.mutS o' b ho'
 · obtain⟨o',ho'⟩:=hmu o b hm
   exact h.own o' b ho'
 · obtain⟨k',h1,h2⟩:=h.io o k hk
   obtain⟨k2,h3,h4⟩:=hev o k' h1
   exact⟨k2,h3,lB.trans h2 h4⟩
variable {z j:Nat} {e:TypeId} {es:Nat} {l1 l2:List (Value×List (List D))} {v:Value} {g:List (List D)}
theorem RW.famOut (h:RW cx σ ι S a w) (hz:aQ σ (.o z)=some (.zone (kL e es (l1++(v,g)::l2)))) (hj:aQ σ (.o j)=none):
 RW cx (jN (jN σ (.o z) (.zone (kL e es (l1++l2)))) (.o j) (.row e es g)) (fun o=>if o=j then v else if o=z then .tuple ((l1++l2).map (·.1)).toArray else ι o) S a w:=by
 have hne:z≠j:=fun e=>by rw[e,hj] at hz;cases hz
 have hR:aB3 e es (l1++(v,g)::l2) w S (ι z):=h.vr.objs z _ hz
 have hmz: ∀b,(∃x∈l1++(v,g)::l2,blk x.1=some b)→jL σ ι z b:=fun b hb=>⟨⟨_,hz,trivial⟩,(sL hR).2 hb⟩
 have hsub: ∀x∈l1++l2,x∈l1++(v,g)::l2:=fun x hx=>by
  rcases List.mem_append.1 hx with hx|hx
  · exact List.mem_append_left _ hx
  · exact List.mem_append_right _ (List.mem_cons_of_mem _ hx)
 have hvm: (v,g)∈l1++(v,g)::l2:=List.mem_append_right _ (List.mem_cons_self ..)
 have hR2:aB3 e es (l1++l2) w S (.tuple ((l1++l2).map (·.1)).toArray):=⟨rfl,fun x hx=>hR.2.1 x (hsub x hx),hR.2.2.sublist (List.Sublist.append (List.Sublist.refl _) (List.sublist_cons_self _ _))⟩
 have hOv:OR [] (fun _=>v) w S v (.row e es g):=hR.2.1 (v,g) hvm
 have hlk: ∀o,aQ (jN (jN σ (.o z) (.zone (kL e es (l1++l2)))) (.o j) (.row e es g)) (.o o)=if o=j then some (.row e es g) else if o=z then some (.zone (kL e es (l1++l2))) else aQ σ (.o o):=fun o=>by
  rw[eD]
  by_cases h1:o=j
  · subst h1;simp
  · rw[aB (by simpa using fun e=>h1 e.symm),aB h1,eD]
    by_cases h2:o=z
    · subst h2;simp
    · rw[aB (by simpa using fun e=>h2 e.symm),aB h2]
 have hmu: ∀o b,jL (jN (jN σ (.o z) (.zone (kL e es (l1++l2)))) (.o j) (.row e es g)) (fun o=>if o=j then v else if o=z then .tuple ((l1++l2).map (·.1)).toArray else ι o) o b→
  (o=j∧blk v=some b)∨(o=z∧ ∃x∈l1++l2,blk x.1=some b)∨(o≠j∧o≠z∧jL σ ι o b):=by
  rintro o b ⟨⟨k,hk,hl⟩,hb⟩
  rw[hlk] at hk
  by_cases h1:o=j
  · subst h1
    dsimp only at hb
    rw[aC rfl] at hb
    exact .inl ⟨rfl,(uT hOv).1 hb⟩
  · rw[aB h1] at hk
    dsimp only at hb
    rw[aB h1] at hb
    by_cases h2:o=z
    · subst h2
      rw[aC rfl] at hb
      exact .inr (.inl ⟨rfl,(sL hR2).1 hb⟩)
    · rw[aB h2] at hk hb
      exact .inr (.inr ⟨h1,h2,⟨k,hk,hl⟩,hb⟩)
 have hdis: ∀b,blk v=some b→ ¬ ∃x∈l1++l2,blk x.1=some b:=fun b hb ⟨x,hx,hxb⟩=>by
  have hp:=List.pairwise_append.1 hR.2.2
  rcases List.mem_append.1 hx with hx|hx
  · exact hp.2.2 x hx (v,g) (List.mem_cons_self ..) b hxb hb
  · exact(List.pairwise_cons.1 hp.2.1).1 x hx b hb hxb
 have hold: ∀o b,jL (jN (jN σ (.o z) (.zone (kL e es (l1++l2)))) (.o j) (.row e es g)) (fun o=>if o=j then v else if o=z then .tuple ((l1++l2).map (·.1)).toArray else ι o) o b→ ∃o',jL σ ι o' b∧(o=j∨o'=o)∧(o=j→o'=z):=fun o b hm=>by
  rcases hmu o b hm with⟨h1,h2⟩|⟨h1,x,hx,h2⟩|⟨h1,h2,h3⟩
  · exact⟨z,hmz b ⟨_,hvm,h2⟩,.inl h1,fun _=>rfl⟩
  · exact⟨z,hmz b ⟨x,hsub x hx,h2⟩,.inr h1.symm,fun _=>rfl⟩
  · exact⟨o,h3,.inr rfl,fun e=>absurd e h1⟩
 refine h.reobj _ _ (fun o k hk=> ?_) (fun s=>by rw[bZ _ _ (by simp),bZ _ _ (by simp)]) (fun o k hk=> ?_) (fun o b hm=>by obtain⟨o',h1,_⟩:=hold o b hm;exact⟨o',h1⟩) (fun o o' b hm hm'=> ?_)
 · rw[hlk]
   have h1:o≠j:=fun e=>by rw[e,hj] at hk;cases hk
   rw[aB h1]
   by_cases h2:o=z
   · subst h2
     rw[aC rfl]
     rw[hz] at hk;cases hk
     exact⟨_,rfl,rfl,trivial⟩
   · rw[aB h2]
     refine⟨k,hk,?_⟩
     rw[aB h1,aB h2]
     exact lB.refl' _ _
 · rw[hlk] at hk
   by_cases h1:o=j
   · subst h1
     rw[aC rfl] at hk;cases hk
     right
     rw[aC rfl]
     exact aLz hOv
   · rw[aB h1] at hk
     by_cases h2:o=z
     · subst h2
       rw[aC rfl] at hk;cases hk
       right
       rw[aB h1,aC rfl]
       exact hR2
     · rw[aB h2] at hk
       left
       refine⟨hk,?_⟩
       rw[aB h1,aB h2]
 · rcases hmu o b hm with⟨h1,h2⟩|⟨h1,hx⟩|⟨h1,h1',h2⟩
   · rcases hmu o' b hm' with⟨k1,k2⟩|⟨k1,kx⟩|⟨k1,k1',k2⟩
     · exact h1.trans k1.symm
     · exact absurd kx (hdis b h2)
     · exact absurd (h.vr.inj o' z b k2 (hmz b ⟨_,hvm,h2⟩)) k1'
   · rcases hmu o' b hm' with⟨k1,k2⟩|⟨k1,kx⟩|⟨k1,k1',k2⟩
     · exact absurd hx (hdis b k2)
     · exact h1.trans k1.symm
     · obtain⟨x,hx1,hx2⟩:=hx
       exact absurd (h.vr.inj o' z b k2 (hmz b ⟨x,hsub x hx1,hx2⟩)) k1'
   · rcases hmu o' b hm' with⟨k1,k2⟩|⟨k1,x,hx1,hx2⟩|⟨k1,k1',k2⟩
     · exact absurd (h.vr.inj o z b h2 (hmz b ⟨_,hvm,k2⟩)) h1'
     · exact absurd (h.vr.inj o z b h2 (hmz b ⟨x,hsub x hx1,hx2⟩)) h1'
     · exact h.vr.inj o o' b h2 k2
end
section
variable {P:Program} {cx:Cx P} {σ:St} {ι:Nat→Value} {S:Nat→Prop} {a:Act} {w:World}
variable {z j:Nat} {e:TypeId} {es:Nat} {l1 l2:List (Value×List (List D))} {g:List (List D)}
theorem RW.famIn (h:RW cx σ ι S a w) (hz:aQ σ (.o z)=some (.zone (kL e es (l1++l2)))) (hj:aQ σ (.o j)=some (.row e es g)):
 RW cx (jN (jN σ (.o z) (.zone (kL e es (l1++(ι j,g)::l2)))) (.o j) .dead) (fun o=>if o=z then .tuple ((l1++(ι j,g)::l2).map (·.1)).toArray else ι o) S a w:=by
 have hne:z≠j:=fun e=>by rw[e,hj] at hz;cases hz
 have hR:aB3 e es (l1++l2) w S (ι z):=h.vr.objs z _ hz
 have hOv:OR σ ι w S (ι j) (.row e es g):=h.vr.objs j _ hj
 have hmz: ∀b,(∃x∈l1++l2,blk x.1=some b)→jL σ ι z b:=fun b hb=>⟨⟨_,hz,trivial⟩,(sL hR).2 hb⟩
 have hmj: ∀b,blk (ι j)=some b→jL σ ι j b:=fun b hb=>⟨⟨_,hj,trivial⟩,(uT hOv).2 hb⟩
 have hdis: ∀b,blk (ι j)=some b→ ∀x∈l1++l2,blk x.1≠some b:=fun b hb x hx hxb=>hne (h.vr.inj z j b (hmz b ⟨x,hx,hxb⟩) (hmj b hb))
 have hall: ∀x∈l1++(ι j,g)::l2,x∈l1++l2∨x=(ι j,g):=fun x hx=>by
  rcases List.mem_append.1 hx with hx|hx
  · exact .inl (List.mem_append_left _ hx)
  · rcases aV6.1 hx with hx|hx
    · exact .inr hx
    · exact .inl (List.mem_append_right _ hx)
 have hR2:aB3 e es (l1++(ι j,g)::l2) w S (.tuple ((l1++(ι j,g)::l2).map (·.1)).toArray):=by
  refine⟨rfl,fun x hx=> ?_,?_⟩
  · rcases hall x hx with hx|rfl
    · exact hR.2.1 x hx
    · exact aLz hOv
  · have hp:=List.pairwise_append.1 hR.2.2
    refine List.pairwise_append.2 ⟨hp.1,List.pairwise_cons.2 ⟨fun y hy b hb=>hdis b hb y (List.mem_append_right _ hy),hp.2.1⟩,fun x hx y hy b hb=> ?_⟩
    rcases aV6.1 hy with rfl|hy
    · exact fun hb2=>hdis b hb2 x (List.mem_append_left _ hx) hb
    · exact hp.2.2 x hx y hy b hb
 have hlk: ∀o,aQ (jN (jN σ (.o z) (.zone (kL e es (l1++(ι j,g)::l2)))) (.o j) .dead) (.o o)=if o=j then some .dead else if o=z then some (.zone (kL e es (l1++(ι j,g)::l2))) else aQ σ (.o o):=fun o=>by
  rw[eD]
  by_cases h1:o=j
  · subst h1;simp
  · rw[aB (by simpa using fun e=>h1 e.symm),aB h1,eD]
    by_cases h2:o=z
    · subst h2;simp
    · rw[aB (by simpa using fun e=>h2 e.symm),aB h2]
 have hmu: ∀o b,jL (jN (jN σ (.o z) (.zone (kL e es (l1++(ι j,g)::l2)))) (.o j) .dead) (fun o=>if o=z then .tuple ((l1++(ι j,g)::l2).map (·.1)).toArray else ι o) o b→
  (o=z∧(jL σ ι z b∨jL σ ι j b))∨(o≠j∧o≠z∧jL σ ι o b):=by
  rintro o b ⟨⟨k,hk,hl⟩,hb⟩
  rw[hlk] at hk
  by_cases h1:o=j
  · rw[aC h1] at hk;cases hk;exact hl.elim
  · rw[aB h1] at hk
    by_cases h2:o=z
    · subst h2
      dsimp only at hb
      rw[aC rfl] at hb
      obtain⟨x,hx,hxb⟩:=(sL hR2).1 hb
      rcases hall x hx with hx|rfl
      · exact .inl ⟨rfl,.inl (hmz b ⟨x,hx,hxb⟩)⟩
      · exact .inl ⟨rfl,.inr (hmj b hxb)⟩
    · dsimp only at hb
      rw[aB h2] at hk hb
      exact .inr ⟨h1,h2,⟨k,hk,hl⟩,hb⟩
 refine h.reobj _ _ (fun o k hk=> ?_) (fun s=>by rw[bZ _ _ (by simp),bZ _ _ (by simp)]) (fun o k hk=> ?_) (fun o b hm=> ?_) (fun o o' b hm hm'=> ?_)
 · rw[hlk]
   by_cases h1:o=j
   · rw[aC h1]
     exact⟨_,rfl,by cases k<;>trivial⟩
   · rw[aB h1]
     by_cases h2:o=z
     · subst h2
       rw[aC rfl]
       rw[hz] at hk;cases hk
       exact⟨_,rfl,rfl,trivial⟩
     · rw[aB h2]
       refine⟨k,hk,?_⟩
       rw[aB h2]
       exact lB.refl' _ _
 · rw[hlk] at hk
   by_cases h1:o=j
   · rw[aC h1] at hk;cases hk
     exact .inr trivial
   · rw[aB h1] at hk
     by_cases h2:o=z
     · subst h2
       rw[aC rfl] at hk;cases hk
       right
       rw[aC rfl]
       exact hR2
     · rw[aB h2] at hk
       left
       refine⟨hk,?_⟩
       rw[aB h2]
 · rcases hmu o b hm with⟨_,h2|h2⟩|⟨_,_,h2⟩
   · exact⟨z,h2⟩
   · exact⟨j,h2⟩
   · exact⟨o,h2⟩
 · rcases hmu o b hm with⟨h1,h2⟩|⟨h1,h1',h2⟩
   · rcases hmu o' b hm' with⟨k1,k2⟩|⟨k1,k1',k2⟩
     · exact h1.trans k1.symm
     · rcases h2 with h2|h2
       · exact absurd (h.vr.inj o' z b k2 h2) k1'
       · exact absurd (h.vr.inj o' j b k2 h2) k1
   · rcases hmu o' b hm' with⟨k1,k2⟩|⟨k1,k1',k2⟩
     · rcases k2 with k2|k2
       · exact absurd (h.vr.inj o z b h2 k2) h1'
       · exact absurd (h.vr.inj o j b h2 k2) h1
     · exact h.vr.inj o o' b h2 k2
end
section
variable {P:Program} {f:FuncId} {n:Nat} {σin σout:St} {rl:List (Nat×Nat)} {bor:List Nat} {σ0:St} {Xs:List V} {Ra:List (cL×Option K)} {robj:List (Nat×K)}
theorem aQd (hs:Spec P f n σin σout) {o:Oper} {c:Call} (ho:o.op= .call c) (hc:c.callee= .value (.func f)) (hn:Xs.length=n)
 (hm:jX (dJ 0 Xs++kP robj) σin rl bor) (hk:gV rl σin σout=true) (hb:bor=[]∨gU σout)
 {cx:Cx P} {σ:St} {ι:Nat→Value} {S:Nat→Prop} {a:Act} {w:World} (hr:bO (rF Ra robj rl σin σout) σ) (hw:RW cx σ ι S a w) (hd: ∀d,o.dst=some d→d<cx.N)
 (hlen:Xs.length=c.args.size) (hargs: ∀(s:Nat) (X:V),Xs[s]? =some X→ ∃x,c.args.toList[s]? =some x∧lM σ ι w S X (a.eval x))
 (next:Act→World→Prop) (Q:Exit→Act→World→Prop)
 (hnext: ∀ι' S' a' w',(∀j k k',aQ σin (.o j)=some k→aQ σout (.o j)=some k'→lB (ι (iO rl j)) (ι' (iO rl j)) k k')→RW cx (fT σ (iB rl σin σout o.dst)) ι' S' a' w'→next a' w'):o.wp P a w next Q:=by
 obtain⟨⟨fn,hf,hbody,hname⟩,hcall⟩:=hs
 let args:Array Value:=c.args.map a.eval
 let ν:Nat→Value:=fun i=>(args[i]?).getD undef
 have hsz:args.size=n:=by show(c.args.map a.eval).size=n;rw[Array.size_map,← hn,hlen]
 have hargν: ∀i,i<n→args[i]? =some (ν i):=fun i hi=>by
  show args[i]? =some ((args[i]?).getD undef)
  rw[Array.getElem?_eq_getElem (by omega)];rfl
 have hνr: ∀s X,Xs[s]? =some X→lM σ ι w S X (ν s):=fun s X hX=>by
  obtain⟨x,h1,h2⟩:=hargs s X hX
  have:ν s=a.eval x:=by
   show((c.args.map a.eval)[s]?).getD undef=a.eval x
   rw[Array.getElem?_toList] at h1
   rw[Array.getElem?_map,h1];rfl
  rw[this];exact h2
 have hlo: ∀o,aQ (dJ 0 Xs++dA σ) (.o o)=aQ σ (.o o):=fun o=>by rw[iL,nG]
 have st:oA σ ι S w (dJ 0 Xs++dA σ) ι S w:=⟨fun _ h=>h,fun _ _=>rfl,fun o k hk=>⟨k,by rw[hlo];exact hk,lB.refl' _ _⟩⟩
 have hmut: ∀o b,jL (dJ 0 Xs++dA σ) ι o b↔jL σ ι o b:=fun o b=>by unfold jL;rw[hlo]
 have hvr0:VR (dJ 0 Xs++dA σ) ι ν S w:=by
  refine⟨fun s x hx=> ?_,fun o k hk=>OR.step st (fun _ _=>rfl) (hw.vr.objs o k (by rw[← hlo];exact hk)),fun o b q=>hw.vr.mutS o b ((hmut o b).1 q),fun o o' b q q'=>hw.vr.inj o o' b ((hmut o b).1 q) ((hmut o' b).1 q'),hw.vr.sz⟩
  obtain⟨X,h1,h2⟩:=sZ hx
  cases h2
  exact lM.step st (hνr s _ h1)
 have hsub: ∀l k,aQ (dJ 0 Xs++kP robj) l=some k→aQ (dJ 0 Xs++dA σ) l=some k:=fun l k h=>by
  cases l with
  |o o=>
   rw[hlo]
   rw[iL] at h
   exact hr (.o o,some k) (List.mem_append_left _ (List.mem_append_right _ (aV5.2 ⟨(o,k),yR h,rfl⟩)))
  |t s=>
   obtain⟨X,h1,rfl⟩:=pZ h
   have hs:=(aV2.1 h1).1
   rw[pC 0 Xs _ s (aVv _) (by omega)];simp[h1]
 have hvr1:=pW hm hsub hvr0
 have hgb:GB P w fun b=> ∃o,jL σin (fun j=>ι (iO rl j)) o b:=fun w2 h2=>cx.gb w2 (hw.fr.trans h2 fun x hx ⟨o,ho⟩=>by
  rcases hw.own _ x ((hmut _ _).1 (hm.mut hsub ho)) with h3|h3
  · omega
  · exact h3)
 have hcl:=hcall _ ν _ w args hgb hvr1 hsz hargν
 obtain⟨callee,cargs,argTypes⟩:=c
 dsimp only at hc
 subst hc
 have hbd: ∃cd,fn.body=some cd:=by
  cases hq:fn.body with
  |none=>rw[hq] at hbody;cases hbody
  |some cd=>exact⟨cd,rfl⟩
 obtain⟨cd,hbd⟩:=hbd
 have hrun: (execOp a.eval o).run P w= .ok (.enter f args) w:=by
  have h1:=MuLone.run_callFunc_enter (P:=P) hf hname hbd args w
  have e: (execOp a.eval o).run P w=(callFunc f (args++ #[])).run P w:=by
   simp[execOp,ho,resolve,invoke,Deferred.ofValue,args,Act.eval]
  rw[e,Array.append_empty];exact h1
 unfold Oper.wp
 rw[hrun,Oper.upon_enter]
 intro cs
 obtain⟨e,w',fr,⟨v,ι',S',rfl,hpost⟩,hcomes⟩:=hcl cs
 refine⟨_,w',fr,?_,hcomes⟩
 dsimp only
 have hrw:=aCc (Ra:=Ra) hm hk hb hr hw hνr hpost
 have hSK: ∀{l:cL} {k:K},aQ σout l=some k→(∀b,S' b→(S b∨(bor=[]∧S' b)))∨pY k:=fun{l k} h=>by
  rcases hb with e|hs
  · exact .inl fun b hb=> .inr ⟨e,hb⟩
  · exact .inr (hs (l,k) (sM h))
 have hev: ∀j k k',aQ σin (.o j)=some k→aQ σout (.o j)=some k'→lB (ι (iO rl j)) (kW rl σout ι' ι (iO rl j)) k k':=fun j k k' h1 h2=>by
  rw[uK hk (eJ h2)]
  exact hpost.io j k k' h1 h2
 cases hdst:o.dst with
 |none=>
  refine hnext (kW rl σout ι' ι) (fun b=>S b∨(bor=[]∧S' b)) _ w' hev ?_
  rw[hdst]
  simp only[iB,bp,List.append_nil]
  exact hrw
 |some d=>
  have hd':=hd d hdst
  cases hq:aQ σout (.t 0) with
  |none=>
   refine hnext (kW rl σout ι' ι) (fun b=>S b∨(bor=[]∧S' b)) _ w' hev ?_
   rw[hdst]
   simp only[iB,bp,iC,hq,fT]
   exact hrw.putDead hd' v
  |some k=>
   cases k with
   |v X=>
    refine hnext (kW rl σout ι' ι) (fun b=>S b∨(bor=[]∧S' b)) _ w' hev ?_
    rw[hdst]
    simp only[iB,bp,iC,hq,fT]
    exact hrw.put hd' (aCa hk (hSK hq) (hpost.vr.slots 0 (.v X) hq))
   |_=>
    refine hnext (kW rl σout ι' ι) (fun b=>S b∨(bor=[]∧S' b)) _ w' hev ?_
    rw[hdst]
    simp only[iB,bp,iC,hq,fT]
    exact hrw.putDead hd' v
end
theorem xu {l:cL}: ∀{W:List (cL×K)} {σ1 σ2:St},aQ σ1 l=aQ σ2 l→aQ (fT σ1 W) l=aQ (fT σ2 W) l
 | [],_,_,h=>h
 |p::r,σ1,σ2,h=>by
  unfold fT
  refine xu ?_
  rw[eD,eD,h]
theorem nq {l:cL}: ∀{W:List (cL×K)} {σ:St},(∀p∈W,p.1≠l)→aQ (fT σ W) l=aQ σ l
 | [],_,_=>rfl
 |p::r,σ,h=>by
  unfold fT
  rw[nq fun q hq=>h q (List.mem_cons_of_mem _ hq),eD,aB (h p (List.mem_cons_self ..))]
section
variable {P:Program} {cx:Cx P} {σ σ1:St} {ι:Nat→Value} {S:Nat→Prop} {a:Act} {w:World}
theorem RW.same (h:RW cx σ ι S a w) (e: ∀l,aQ σ1 l=aQ σ l):RW cx σ1 ι S a w:=by
 have hm: ∀o b,jL σ1 ι o b→jL σ ι o b:=fun o b ⟨⟨k,hk,hl⟩,hb⟩=>⟨⟨k,by rw[← e];exact hk,hl⟩,hb⟩
 exact h.reobj σ1 ι (fun o k hk=>⟨k,by rw[e];exact hk,lB.refl' _ _⟩) (fun s=>e _) (fun o k hk=> .inl ⟨by rw[← e];exact hk,rfl⟩) (fun o b hb=>⟨o,hm o b hb⟩) (fun o o' b h1 h2=>h.vr.inj o o' b (hm o b h1) (hm o' b h2))
end
inductive rA (v:Value) (n j:Nat):List V→List V→Prop
 |nil:rA v n j [] []
 |same {X Xs Ys} (h:rA v n j Xs Ys):rA v n j (X::Xs) (X::Ys)
 |fam {Xs Ys} (h:rA v n j Xs Ys):rA v n j (.e (.c (.d (.x v)))::Xs) (.e (.c (.own j n))::Ys)
theorem rA.length {v:Value} {n j:Nat} {Xs Ys:List V} (h:rA v n j Xs Ys):Ys.length=Xs.length:=by
 induction h with
 |nil=>rfl
 |same _ ih=>simp[ih]
 |fam _ ih=>simp[ih]
theorem rA.get {v:Value} {n j:Nat} {Xs Ys:List V} (h:rA v n j Xs Ys): ∀(s:Nat) (Y:V),Ys[s]? =some Y→Xs[s]? =some Y∨(Xs[s]? =some (.e (.c (.d (.x v))))∧Y= .e (.c (.own j n))):=by
 induction h with
 |nil=>intro s Y h;cases h
 |same _ ih=>
  intro s Y h
  cases s with
  |zero=>exact .inl h
  |succ s=>exact ih s Y h
 |fam _ ih=>
  intro s Y h
  cases s with
  |zero=>simp at h;exact .inr ⟨rfl,h.symm⟩
  |succ s=>exact ih s Y h
section
variable {P:Program} {f:FuncId} {n:Nat} {σin σout:St} {rl:List (Nat×Nat)} {bor:List Nat} {σ0:St} {Xs Ys:List V} {Ra:List (cL×Option K)} {robj:List (Nat×K)}
variable {z j i:Nat} {e:TypeId} {es:Nat} {l1 l2:List (Value×List (List D))} {v:Value} {g g':List (List D)}
theorem aQe (hs:Spec P f n σin σout) {o:Oper} {c:Call} (ho:o.op= .call c) (hc:c.callee= .value (.func f)) (hx:ri σ0 c.args.toList=some (Xs,Ra)) (hY:rA v g.length j Xs Ys) (hn:Ys.length=n)
 (hm:jX (dJ 0 Ys++kP ((j,.row e es g)::robj)) σin rl bor) (hk:gV rl σin σout=true) (hb:bor=[]∨gU σout)
 (hi:aQ σin (.o i)=some (.row e es g)) (hi':aQ σout (.o i)=some (.row e es g')) (hij:iO rl i=j) (hg:g'.length=g.length)
 (hfR: ∀p∈rF Ra robj rl σin σout,p.1≠ .o z∧p.1≠ .o j) (hfW: ∀p∈iB rl σin σout o.dst,p.1≠ .o z):
 yE P o ((.o z,some (.zone (kL e es (l1++(v,g)::l2))))::(.o j,none)::rF Ra robj rl σin σout) (iB rl σin σout o.dst++[(.o z,.zone (kL e es (l1++(v,g')::l2))),(.o j,.dead)]):=by
 intro cx σ ι S a w hr hw hd next Q hnext
 have hz:aQ σ (.o z)=some (.zone (kL e es (l1++(v,g)::l2))):=hr _ (List.mem_cons_self ..)
 have hj:aQ σ (.o j)=none:=hr (.o j,none) (List.mem_cons_of_mem _ (List.mem_cons_self ..))
 have hne:z≠j:=fun e=>by rw[e,hj] at hz;cases hz
 have hw1:=hw.famOut hz hj
 have hskip: ∀l,l≠ .o z→l≠ .o j→aQ (jN (jN σ (.o z) (.zone (kL e es (l1++l2)))) (.o j) (.row e es g)) l=aQ σ l:=fun l h1 h2=>by
  rw[bZ _ _ (fun e=>h2 e.symm),bZ _ _ (fun e=>h1 e.symm)]
 have hj1:aQ (jN (jN σ (.o z) (.zone (kL e es (l1++l2)))) (.o j) (.row e es g)) (.o j)=some (.row e es g):=by rw[eD,aC rfl]
 have hr0:bO (rF Ra robj rl σin σout) (jN (jN σ (.o z) (.zone (kL e es (l1++l2)))) (.o j) (.row e es g)):=fun p hp=>by
  rw[hskip _ (hfR p hp).1 (hfR p hp).2]
  exact hr p (List.mem_cons_of_mem _ (List.mem_cons_of_mem _ hp))
 have hr1:bO (rF Ra ((j,.row e es g)::robj) rl σin σout) (jN (jN σ (.o z) (.zone (kL e es (l1++l2)))) (.o j) (.row e es g)):=fun p hp=>by
  rcases List.mem_append.1 hp with hp|hp
  · rcases List.mem_append.1 hp with hp|hp
    · exact hr0 p (List.mem_append_left _ (List.mem_append_left _ hp))
    · rcases aV6.1 hp with rfl|hp
      · exact hj1
      · exact hr0 p (List.mem_append_left _ (List.mem_append_right _ hp))
  · exact hr0 p (List.mem_append_right _ hp)
 obtain⟨hlen,hargs⟩:=dg hw1 hx hr0.left.left
 have hlY:=hY.length
 refine aQd (Ra:=Ra) hs ho hc hn hm hk hb hr1 hw1 hd (by rw[hlY,hlen,Array.length_toList]) (fun s Y hs=> ?_) next Q (fun ι' S' a' w' hev hrw=> ?_)
 · rcases hY.get s Y hs with h|⟨h,rfl⟩
   · exact hargs s Y h
   · obtain⟨x,h1,h2⟩:=hargs s _ h
     refine⟨x,h1,?_⟩
     have h3:DR w S (.x v) (a.eval x):=h2
     generalize a.eval x=u at h3
     cases h3 with
     |x v hv=>exact⟨hv,.inl ⟨e,es,g,hj1,aVz _,fun _=>(aC rfl).symm⟩⟩
 · have hv:ι' j=v:=by
    have h1:=hev i _ _ hi hi'
    rw[hij,aC rfl] at h1
    exact h1.2.2 hg
   have hz2:aQ (fT (jN (jN σ (.o z) (.zone (kL e es (l1++l2)))) (.o j) (.row e es g)) (iB rl σin σout o.dst)) (.o z)=some (.zone (kL e es (l1++l2))):=by
    rw[nq hfW,bZ _ _ (by simpa using fun e=>hne e.symm),eD,aC rfl]
   have hj2:aQ (fT (jN (jN σ (.o z) (.zone (kL e es (l1++l2)))) (.o j) (.row e es g)) (iB rl σin σout o.dst)) (.o j)=some (.row e es g'):=by
    unfold iB
    rw[iC,nq (l:= .o j),← hij,oG hk hi']
    · rfl
    · intro p hp
      cases hd2:o.dst with
      |none=>rw[hd2] at hp;cases hp
      |some d=>rw[hd2] at hp;simp only[bp,aWa] at hp;subst hp;simp
   have h4:=hrw.famIn hz2 hj2
   rw[hv] at h4
   refine hnext _ _ _ _ (h4.same fun l=> ?_)
   rw[iC]
   show aQ (jN (jN _ _ _) _ _) l=_
   rw[eD,eD,eD,eD]
   by_cases h5: (cL.o j)=l
   · rw[aC h5,aC h5]
   · rw[aB h5,aB h5]
     by_cases h6: (cL.o z)=l
     · rw[aC h6,aC h6]
     · rw[aB h6,aB h6]
       exact xu (hskip l (fun e=>h6 e.symm) (fun e=>h5 e.symm)).symm
end
def aQf (j:Nat) (v:Value):C→C
 | .own o n=>if o=j then .d (.x v) else .own o n
 |c=>c
def aTz (j:Nat) (v:Value):E→E
 | .c c=> .c (aQf j v c)
 | .agg cs=> .agg (cs.map (aQf j v))
def aNo (j:Nat) (v:Value):V→V
 | .e x=> .e (aTz j v x)
 | .tup xs=> .tup (xs.map (aTz j v))
def okC (j m:Nat):C→Bool
 | .own o n=> !(o==j)||n==m
 |_=>true
def okE (j m:Nat):E→Bool
 | .c c=>okC j m c
 | .agg cs=>cs.all (okC j m)
def okV (j m:Nat):V→Bool
 | .e x=>okE j m x
 | .tup xs=>xs.all (okE j m)
section
variable {σ σ':St} {ι ι':Nat→Value} {w:World} {S:Nat→Prop} {j:Nat} {e:TypeId} {es:Nat} {g:List (List D)}
theorem xv (st:oA σ ι S w σ' ι' S w) (hj:aQ σ (.o j)=some (.row e es g)) {c:C} {u:Value} (hok:okC j g.length c=true) (h:CR σ ι w S c u):CR σ' ι' w S (aQf j (ι j) c) u:=by
 cases c with
 |own o n=>
  simp only[aQf]
  split
  · rename_i e1
    subst e1
    simp[okC] at hok
    subst hok
    obtain⟨h1,h2⟩:=h
    rcases h2 with⟨e2,es2,rows,hl,hn,hv⟩|hd
    · rw[hj] at hl;cases hl
      have:=hv rfl
      subst this
      exact .x _ h1
    · rw[hj] at hd;cases hd
  · exact CR.step st h
 |_=>exact CR.step st h
theorem xw (st:oA σ ι S w σ' ι' S w) (hj:aQ σ (.o j)=some (.row e es g)) {c:E} {u:Value} (hok:okE j g.length c=true) (h:ER σ ι w S c u):ER σ' ι' w S (aTz j (ι j) c) u:=by
 cases c with
 |c c=>exact xv st hj hok h
 |agg cs=>
  obtain⟨vs,rfl,hl,hk⟩:=h
  refine⟨vs,rfl,by rw[List.length_map];exact hl,fun k c u hc hu=> ?_⟩
  rw[List.getElem?_map] at hc
  cases hq:cs[k]? with
  |none=>rw[hq] at hc;cases hc
  |some c0=>
   rw[hq] at hc;cases hc
   exact xv st hj (aV8.1 hok c0 (List.mem_of_getElem? hq)) (hk k c0 u hq hu)
theorem aHv (st:oA σ ι S w σ' ι' S w) (hj:aQ σ (.o j)=some (.row e es g)) {c:V} {u:Value} (hok:okV j g.length c=true) (h:lM σ ι w S c u):lM σ' ι' w S (aNo j (ι j) c) u:=by
 cases c with
 |e x=>exact xw st hj hok h
 |tup xs=>
  obtain⟨vs,rfl,hl,hk⟩:=h
  refine⟨vs,rfl,by rw[List.length_map];exact hl,fun k c u hc hu=> ?_⟩
  rw[List.getElem?_map] at hc
  cases hq:xs[k]? with
  |none=>rw[hq] at hc;cases hc
  |some c0=>
   rw[hq] at hc;cases hc
   exact xw st hj (aV8.1 hok c0 (List.mem_of_getElem? hq)) (hk k c0 u hq hu)
end
section
variable {P:Program} {cx:Cx P} {σ:St} {ι:Nat→Value} {S:Nat→Prop} {a:Act} {w:World}
variable {z j s:Nat} {e:TypeId} {es:Nat} {l:List (Value×List (List D))} {g:List (List D)} {X:V}
theorem RW.absorb (h:RW cx σ ι S a w) (hz:aQ σ (.o z)=some (.zone (kL e es l))) (hj:aQ σ (.o j)=some (.row e es g)) (hs:aQ σ (.t s)=some (.v X)) (hok:okV j g.length X=true):
 ∃ι',RW cx (jN (jN (jN σ (.o z) (.zone (kL e es (l++[(ι j,g)])))) (.o j) .dead) (.t s) (.v (aNo j (ι j) X))) ι' S a w:=by
 have hne:z≠j:=fun e=>by rw[e,hj] at hz;cases hz
 have h1:=RW.famIn (l1:=l) (l2:=[]) h (by rw[List.append_nil];exact hz) hj
 have st:oA σ ι S w (jN (jN σ (.o z) (.zone (kL e es (l++[(ι j,g)])))) (.o j) .dead) (fun o=>if o=z then .tuple ((l++[(ι j,g)]).map (·.1)).toArray else ι o) S w:=by
  refine⟨fun _ h=>h,fun _ _=>rfl,fun o k hk=> ?_⟩
  rw[eD]
  by_cases h2: (cL.o j)= .o o
  · rw[aC h2]
    exact⟨_,rfl,by cases k<;>trivial⟩
  · rw[aB h2,eD]
    by_cases h3: (cL.o z)= .o o
    · rw[aC h3]
      cases h3
      rw[hz] at hk;cases hk
      exact⟨_,rfl,rfl,trivial⟩
    · rw[aB h3]
      refine⟨k,hk,?_⟩
      have h4:o≠z:=fun e=>h3 (by rw[e])
      rw[aB h4]
      exact lB.refl' _ _
 refine⟨_,h1.reslot (fun o=>bZ _ _ (by simp)) fun t k hk=> ?_⟩
 rw[eD] at hk
 by_cases ht: (cL.t s)= .t t
 · rw[aC ht] at hk
   cases ht;cases hk
   exact aHv st hj hok (h.vr.slots s _ hs)
 · rw[aB ht] at hk
   exact h1.vr.slots t k hk
end
section
variable {P:Program} {io:List Nat} {f:FuncId} {n:Nat} {σin σout:St} {rl:List (Nat×Nat)} {bor:List Nat} {σ:St} {Xs:List V} {Ra:List (cL×Option K)} {robj:List (Nat×K)}
variable {o:Oper} {R:List (cL×Option K)} {W:List (cL×K)} {z j s:Nat} {e:TypeId} {es:Nat} {l:List (Value×List (List D))} {g:List (List D)} {X:V}
theorem aI0 {σ:St} {l:cL} {k:K} (h:wr W l=some k):aQ (fT σ W) l=some k:=by rw[jM,h]
theorem yE.absorb (h:yE P o R W) (hj:wr W (.o j)=some (.row e es g)) (hs:wr W (.t s)=some (.v X)) (hz:wr W (.o z)=none) (hok:okV j g.length X=true):
 OpE P o ((.o z,some (.zone (kL e es l)))::R) fun W'=> ∃v,W'=W++[(.o z,.zone (kL e es (l++[(v,g)]))),(.o j,.dead),(.t s,.v (aNo j v X))]:=by
 intro cx σ ι S a w hr hw hd next Q hnext
 refine h cx σ ι S a w (fun p hp=>hr p (List.mem_cons_of_mem _ hp)) hw hd next Q fun ι' S' a' w' hw'=> ?_
 have hz2:aQ (fT σ W) (.o z)=some (.zone (kL e es l)):=by
  rw[jM,hz]
  exact hr (.o z,_) (List.mem_cons_self ..)
 obtain⟨ι2,h2⟩:=hw'.absorb hz2 (aI0 hj) (aI0 hs) hok
 refine hnext _ ⟨ι' j,rfl⟩ ι2 S' a' w' ?_
 rw[iC]
 exact h2
theorem aHw {k:St→Prop} (z j s:Nat) (hs:Spec P f n σin σout) (ho: ∃c,o.op= .call c∧c.callee= .value (.func f)∧ri σ c.args.toList=some (Xs,Ra)) (hn:Xs.length=n)
 (hm:jX (dJ 0 Xs++kP robj) σin rl bor) (hk:gV rl σin σout=true) (hb:bor=[]∨gU σout) (h1: ∀p∈robj,aQ σ (.o p.1)=some p.2) (h2: ∀j∈fI σin σout,aQ σ (.o (iO rl j))=none)
 (hz:aQ σ (.o z)=some (.zone (kL e es l))) (hj:wr (iB rl σin σout o.dst) (.o j)=some (.row e es g)) (hX:wr (iB rl σin σout o.dst) (.t s)=some (.v X)) (hz2:wr (iB rl σin σout o.dst) (.o z)=none) (hok:okV j g.length X=true)
 (h: ∀v,mJ σ (iB rl σin σout o.dst++[(.o z,.zone (kL e es (l++[(v,g)]))),(.o j,.dead),(.t s,.v (aNo j v X))]) k): ∃σ1,tb io σ σ1∧ ∃R Ws,OpE P o R Ws∧bO R σ1∧ ∀W,Ws W→mJ σ1 W k:=by
 obtain⟨c,hc1,hc2,hx⟩:=ho
 refine⟨σ,tb.rfl,_,_,(bs hs hc1 hc2 hx hn hm hk hb).absorb (l:=l) hj hX hz2 hok,fun p hp=> ?_,fun W ⟨v,e⟩=>e▸h v⟩
 rcases aV6.1 hp with rfl|hp
 · exact hz
 · exact yS hx h1 h2 p hp
end
section
variable {P:Program} {cx:Cx P} {σ:St} {ι:Nat→Value} {S:Nat→Prop} {a:Act} {w:World}
theorem RW.newFam (h:RW cx σ ι S a w) {z:Nat} (e:TypeId) (es:Nat) (hz:aQ σ (.o z)=none):
 RW cx (jN σ (.o z) (.zone (kL e es []))) (fun o=>if o=z then .tuple #[] else ι o) S a w:=by
 have hlo: ∀o,aQ (jN σ (.o z) (.zone (kL e es []))) (.o o)=if o=z then some (.zone (kL e es [])) else aQ σ (.o o):=fun o=>by
  rw[eD]
  by_cases h1:o=z
  · subst h1;simp
  · rw[aB (by simpa using fun e=>h1 e.symm),aB h1]
 have hmu: ∀o b,jL (jN σ (.o z) (.zone (kL e es []))) (fun o=>if o=z then .tuple #[] else ι o) o b→jL σ ι o b:=by
  rintro o b ⟨⟨k,hk,hl⟩,hb⟩
  rw[hlo] at hk
  by_cases h1:o=z
  · dsimp only at hb
    rw[aC h1] at hb
    obtain⟨v,hv,_⟩:=hb
    simp at hv
  · dsimp only at hb
    rw[aB h1] at hk hb
    exact⟨⟨k,hk,hl⟩,hb⟩
 refine h.reobj _ _ (fun o k hk=> ?_) (fun s=>bZ _ _ (by simp)) (fun o k hk=> ?_) (fun o b hm=>⟨o,hmu o b hm⟩) (fun o o' b h1 h2=>h.vr.inj o o' b (hmu o b h1) (hmu o' b h2))
 · have h1:o≠z:=fun e1=>by rw[e1,hz] at hk;cases hk
   exact⟨k,by rw[hlo,aB h1];exact hk,by rw[aB h1];exact lB.refl' _ _⟩
 · rw[hlo] at hk
   by_cases h1:o=z
   · rw[aC h1] at hk;cases hk
     right
     rw[aC h1]
     exact⟨rfl,by simp,List.Pairwise.nil⟩
   · rw[aB h1] at hk
     exact .inl ⟨hk,by rw[aB h1]⟩
end
theorem SW.newFam {P:Program} {io:List Nat} {Q:Ex→St→Prop} {σ:St} {c:Code} (z:Nat) (e:TypeId) (es:Nat) (hz:aQ σ (.o z)=none) (h:iz σ (.o z) (.zone (kL e es [])) (SW P io c Q)):SW P io c Q σ:=by
 rw[lQ] at h
 intro cx ι S a w hio hw hf
 exact h cx _ S a w hio (hw.newFam e es hz) hf
def bB.rowX (h:bB) (v:Value):List D:=[.i h.frm,.i h.num,.i h.to,.i h.til,.i h.size,.x v]
def cI:List bB→List Value→List (List D)
 | [],_=>[]
 |h::hs,[]=>h.row::aP hs
 |h::hs,v::vs=>h.rowX v::cI hs vs
def gI:List bB→List Value→List (Value×List (List D))
 |h::hs,v::vs=>(v,aR h.got)::gI hs vs
 |_,_=>[]
theorem uQ (hs:List bB):cI hs []=aP hs:=by cases hs<;>rfl
theorem eH: ∀(hs:List bB) (vs:List Value),(cI hs vs).length=hs.length
 | [],_=>rfl
 |h::hs,[]=>by simp[cI,aP]
 |h::hs,v::vs=>by simp[cI,eH hs vs]
theorem af: ∀(hs:List bB) (vs:List Value) (i:Nat),vs.length≤i→i<hs.length→(cI hs vs).getD i []=(hs.getD i .zero).row
 | [],_,i,_,h=>absurd h (Nat.not_lt_zero _)
 |h::hs,[],0,_,_=>rfl
 |h::hs,[],i+1,_,h2=>by
  have h3:=af hs [] i (aVv _) (by simpa using h2)
  rw[uQ] at h3
  simpa[cI] using h3
 |h::hs,v::vs,0,h1,_=>absurd h1 (by simp)
 |h::hs,v::vs,i+1,h1,h2=>by
  have h3:=af hs vs i (by simpa using h1) (by simpa using h2)
  simpa[cI] using h3
theorem aBs: ∀(hs:List bB) (vs:List Value) (v:Value),vs.length<hs.length→(cI hs vs).set vs.length ((hs.getD vs.length .zero).rowX v)=cI hs (vs++[v])
 | [],_,_,h=>absurd h (Nat.not_lt_zero _)
 |h::hs,[],v,_=>by simp[cI,uQ]
 |h::hs,u::vs,v,h1=>by
  have h3:=aBs hs vs v (by simpa using h1)
  simpa[cI] using h3
theorem nr: ∀(hs:List bB) (vs:List Value) (v:Value),vs.length<hs.length→gI hs vs++[(v,aR (hs.getD vs.length .zero).got)]=gI hs (vs++[v])
 | [],_,_,h=>absurd h (Nat.not_lt_zero _)
 |h::hs,[],v,_=>by simp[gI]
 |h::hs,u::vs,v,h1=>by
  have h3:=nr hs vs v (by simpa using h1)
  simpa[gI] using h3
theorem nV: ∀(hs:List bB) (vs:List Value) (l:List (Value×List (List D))),(∀x∈gI hs vs,x∈l)→uU l (cI hs vs) (aP hs)
 | [],_,l,_=>⟨rfl,fun i r r2 h=>by simp[cI] at h⟩
 |h::hs,[],l,_=>by
  refine⟨by simp[cI,aP],fun i r r2 h1 h2=> ?_⟩
  rw[uQ,h2] at h1
  cases h1
  exact⟨rfl,fun k d d2 q1 q2=>by rw[q1] at q2;cases q2;exact .inl rfl⟩
 |h::hs,v::vs,l,hl=>by
  obtain⟨i1,i2⟩:=nV hs vs l (fun x hx=>hl x (List.mem_cons_of_mem _ hx))
  refine⟨by simp only[cI,aP,List.map_cons,aVw] at i1 ⊢; rw[i1],fun i r r2 h1 h2=> ?_⟩
  cases i with
  |zero=>
   simp[cI] at h1;simp[aP] at h2
   subst h1;subst h2
   refine⟨rfl,fun k d d2 q1 q2=> ?_⟩
   match k,q1,q2 with
   |0,q1,q2=>cases q1;cases q2;exact .inl rfl
   |1,q1,q2=>cases q1;cases q2;exact .inl rfl
   |2,q1,q2=>cases q1;cases q2;exact .inl rfl
   |3,q1,q2=>cases q1;cases q2;exact .inl rfl
   |4,q1,q2=>cases q1;cases q2;exact .inl rfl
   |5,q1,q2=>cases q1;cases q2;exact .inr ⟨v,aR h.got,hl _ (List.mem_cons_self ..),rfl,rfl⟩
   |k+6,q1,q2=>simp[bB.rowX] at q1
  |succ i=>exact i2 i r r2 (by simpa[cI] using h1) (by simpa[aP] using h2)
section
variable {P:Program} {f:FuncId} {n:Nat} {σin σout:St} {rl:List (Nat×Nat)} {bor:List Nat} {σ:St} {Xs:List V} {Ra:List (cL×Option K)} {robj:List (Nat×K)}
variable {o:Oper} {c:Call} {e:TypeId} {es:Nat} {l:List (Value×List (List D))} {g:List (List D)} {X:V}
theorem aHx {k:List (cL×Option K)→List (cL×K)→Prop} (z j s:Nat) (hs:Spec P f n σin σout) (ho:o.op= .call c) (hc:c.callee= .value (.func f)) (hx:ri σ c.args.toList=some (Xs,Ra)) (hn:Xs.length=n)
 (hm:jX (dJ 0 Xs++kP robj) σin rl bor) (hk:gV rl σin σout=true) (hb:bor=[]∨gU σout) (h1: ∀p∈robj,aQ σ (.o p.1)=some p.2) (h2: ∀j∈fI σin σout,aQ σ (.o (iO rl j))=none)
 (hz:aQ σ (.o z)=some (.zone (kL e es l))) (hj:wr (iB rl σin σout o.dst) (.o j)=some (.row e es g)) (hX:wr (iB rl σin σout o.dst) (.t s)=some (.v X)) (hz2:wr (iB rl σin σout o.dst) (.o z)=none) (hok:okV j g.length X=true)
 (h: ∀v,k ((.o z,some (.zone (kL e es l)))::rF Ra robj rl σin σout) (iB rl σin σout o.dst++[(.o z,.zone (kL e es (l++[(v,g)]))),(.o j,.dead),(.t s,.v (aNo j v X))])): ∃R Ws,OpE P o R Ws∧bO R σ∧(∃W,Ws W)∧ ∀W,Ws W→k R W:=by
 refine⟨_,_,(bs hs ho hc hx hn hm hk hb).absorb (l:=l) hj hX hz2 hok,fun p hp=> ?_,⟨_,undef,rfl⟩,fun W ⟨v,e⟩=>e▸h v⟩
 rcases aV6.1 hp with rfl|hp
 · exact hz
 · exact yS hx h1 h2 p hp
end
theorem aFj (hs:List bB):gI hs []=[]:=by cases hs<;>rfl
theorem aT0 {o m n:Nat} (h:n=m):okV o m (.e (.c (.own o n)))=true:=by subst h;simp[okV,okE,okC]
end Go.Ab
namespace Go.Proofs.YtmabaopgkimfmaaGreatDoor
open Int renaming toNat_natCast→aVr
open Nat renaming le_of_ble_eq_true→aVs,zero_le→aVv,le_refl→aVz
open List renaming length_append→aVt,length_cons→aVw,length_nil→aVx,getD_eq_getElem?_getD→aVy,length_take→aV0,getElem?_eq_getElem→aV1,getElem?_eq_some_iff→aV2,take_length→aV3,length_drop→aV4,mem_map→aV5,mem_cons→aV6,range→aV7,all_eq_true→aV8,length_set→aV9,mem_singleton→aWa,replicate→aWb
open Bool renaming and_eq_true→aVu,or_eq_true→aWc
open Go Go.Ab Go.RowKit
set_option linter.unusedVariables false
set_option linter.unusedSimpArgs false
set_option maxRecDepth 9000
theorem zk (l:List cU) (hl:l.length≤1000000):Sp 140 1 [tD 0 (.sl (aR l))] [tO 0 0 l.length,oR 0 86 2 (aR l)]:=by
 refine sb Tryz.func140 rfl (sq (rT [0] (s1 (sq (sq (rT [0,6] (s3 (cd rfl (fun c6=> ?_) fun c6=> ?_))))))))
 · refine sq (rT [2] (s1 (SW.nilOwn 2 0 86 2 rfl rfl (rt (rq [] [] rfl ?_)))))
   repeat' apply ai
   all_goals try exact qx
   all_goals(simp[aK] at c6;simp[c6,aR])
 refine sk (sq (rT [0,3] (s2 (ai (by refine⟨rfl,by omega,?_⟩;rw[aK];show((24:Nat):Int)*_≤_;omega) (s1 (sq (rT [3] (s2 (ai (by refine⟨trivial,by simp,qO l⟩) (sq (rT [2] (s2 (rt (rq [(0,9)] [] rfl ?_))))))))))))))
 repeat' apply ai
 all_goals try exact qx
 all_goals first|(simp[aK];done)|(simp;done)
theorem fp (k:aT) (hb:k.halves.length≤100000∧ ∀x∈k.halves,x.got.length≤100000):SpE 73 1 [tV 0 k.V] (fun s=> ∃vs:List Value,vs.length=k.halves.length∧s=[tV 0 (.e (.agg [.d (.i k.id),.d (.b k.up),.d (.s k.log),.d (.i k.forced),.own 0 k.halves.length])),oR 0 138 6 (cI k.halves vs),(.o 1,.zone (kL 86 2 (gI k.halves vs)))]):=by
 refine sbE Tryz.func73 rfl (sq (rT [1,2] (s2 (sq (rT [1,2,3] (s3 (sq (rT [2,3] (s2 (eX (robj:=[]) (rl:=[(0,8)]) (bor:=[]) (wn k.halves (by omega)) rfl rfl rfl rfl ⟨iG rfl rfl trivial,rfl⟩ rfl (.inl rfl) (fun p hp=>nomatch hp) (fun j hj=>by(obtain rfl:j=0:=by simpa[fI,bJ,gB] using hj);rfl) (s2 (sq (sq (SW.newFam 90 86 2 rfl (rT [2,3,12,13] (s2 (ai (by exact aE _) (s1 (bk (SW.loopW (n:=k.halves.length) (fun m q=> ∃vs:List Value,(m=k.halves.length - vs.length∧vs.length≤k.halves.length)∧q=[tP 2 2,tP 3 3,tI 12 (k.halves.length:Nat),tI 13 (vs.length:Nat),oB 2 31 [.d (.i 0),.d (.b false),.d (.s []),.d (.i 0),.nil],oB 3 31 [.d (.i k.id),.d (.b k.up),.d (.s k.log),.d (.i k.forced),.own 8 k.halves.length],oR 8 138 6 (cI k.halves vs),(.o 90,.zone (kL 86 2 (gI k.halves vs)))]) ?_ ?_))))))))))))))))))))
 · refine wq (σ':=[tP 2 2,tP 3 3,tI 12 (k.halves.length:Nat),tI 13 (([]:List Value).length:Nat),oB 2 31 [.d (.i 0),.d (.b false),.d (.s []),.d (.i 0),.nil],oB 3 31 [.d (.i k.id),.d (.b k.up),.d (.s k.log),.d (.i k.forced),.own 8 k.halves.length],oR 8 138 6 (cI k.halves ([]:List Value)),(.o 90,.zone (kL 86 2 (gI k.halves ([]:List Value))))]) [] [] (⟨[],⟨rfl,aVv _⟩,rfl⟩) ?_
   repeat' apply ai
   all_goals first|exact qx|exact(uQ _).symm|(rw[aFj];done)|rfl|exact qz
 rintro n s ⟨vs,⟨rfl,hi⟩,rfl⟩
 refine sq (rT [2,3,12,13,14] (s1 (sq (cd rfl (fun c14=> ?_) fun c14=> ?_))))
 · have hi2:vs.length<k.halves.length:=by simpa using c14
   have hg:=af k.halves vs vs.length (aVz _) hi2
   have hmem:k.halves.getD vs.length .zero∈k.halves:=cM hi2
   refine sk (sq (bk (sq (rT [2,3,4,12,13] (s2 (SW.regDE kX mo [2,3,12,13] 9 (fun _=>none) rfl rfl (by kernel_rfl) ?_))))))
   refine s6 (ai (by exact⟨eH _ _,by omega,by omega⟩) (ai (by exact eH _ _) (ai (by rw[aVr,hg];exact⟨⟨eH _ _,by omega⟩,aVs rfl,rfl⟩) (aHx (robj:=[]) (rl:=[(0,91)]) (bor:=[]) 90 91 25 (zk (k.halves.getD vs.length .zero).got (by have:=hb.2 _ hmem;omega)) rfl rfl rfl rfl ⟨iG rfl (by rw[aVr,hg];rfl) trivial,rfl⟩ rfl (.inl rfl) (fun p hp=>nomatch hp) (fun j hj=>by(obtain rfl:j=0:=by simpa[fI,bJ,gB] using hj);rfl) rfl rfl rfl rfl (aT0 (aK _).symm) ?_))))
   intro v
   have hvl: (vs++[v]).length=vs.length+1:=by simp
   refine ai (by exact⟨eH _ _,by omega,by omega⟩) (s1 (ai (by exact eH _ _) (s1 (ai (by rw[aVr,hg];exact⟨eH _ _,by omega,rfl,aVz _⟩) (s1 (ai (by kernel_rfl) (rT [2,3,12,13] (s2 (wq [] [] (⟨k.halves.length - (vs++[v]).length,by rw[hvl];omega,vs++[v],⟨rfl,by rw[hvl];omega⟩,rfl⟩) ?_)))))))))
   repeat' apply ai
   all_goals first|exact qx|exact aA D.i (by rw[aF (by omega),hvl];omega)|(rw[aVr,hg];exact aBs _ _ _ hi2)|(rw[← nr _ _ _ hi2];done)|rfl|exact qz
 have hi3:vs.length=k.halves.length:=by simp at c14;omega
 exact xt (sq (rT [2] (s2 (rt (aq [tV 0 (.e (.agg [.d (.i k.id),.d (.b k.up),.d (.s k.log),.d (.i k.forced),.own 0 k.halves.length])),oR 0 138 6 (cI k.halves vs),(.o 1,.zone (kL 86 2 (gI k.halves vs)))] ⟨vs,hi3,rfl⟩ (dO _ [(0,8),(1,90)] [] rfl (dS rfl (aN rfl (aN rfl (aN rfl (aN rfl (dP rfl rfl rfl bG))))) (cJ rfl rfl (gH rfl rfl trivial))) rfl rfl))))))
end Go.Proofs.YtmabaopgkimfmaaGreatDoor
namespace Go.Ab
open Int renaming toNat_natCast→aVr
open Nat renaming le_of_ble_eq_true→aVs,zero_le→aVv,le_refl→aVz
open List renaming length_append→aVt,length_cons→aVw,length_nil→aVx,getD_eq_getElem?_getD→aVy,length_take→aV0,getElem?_eq_getElem→aV1,getElem?_eq_some_iff→aV2,take_length→aV3,length_drop→aV4,mem_map→aV5,mem_cons→aV6,range→aV7,all_eq_true→aV8,length_set→aV9,mem_singleton→aWa,replicate→aWb
open Bool renaming and_eq_true→aVu,or_eq_true→aWc
structure KG (k:aT):Prop where
 log:k.log.length≤140737488355328
 hal:k.halves.length≤100000∧ ∀x∈k.halves,x.got.length≤100000
theorem KG.of {k x:aT} (h:KG k) (hl:x.log.length≤140737488355328) (hh:x.halves=k.halves∨x.halves=[]):KG x:=by
 refine⟨hl,?_⟩
 rcases hh with e|e
 · rw[e];exact h.hal
 · rw[e];exact⟨aVv _,fun _ hx=>nomatch hx⟩
theorem KQ.kg {k:aT} (h:KQ k):KG k:=⟨h.log,by have:=h.2.1;omega,fun x hx=>by have:=h.2.2 x hx;omega⟩
theorem KSm.kg {k:aT} (h:KSm k):KG k:=h.kq.kg
theorem KG.start (n:Int):KG (cw n):=(lc n).kg
theorem aHy {k:aT} (h:k.log.length≤140737488355328): (jT k).log.length≤140737488355328:=Nat.le_trans (rg _ _) h
theorem kZ {k:aT} {rec:List UInt8} (h:k.log.length≤140737488355328): (dx k rec).1.log.length≤140737488355328∧(dx k rec).1.halves=k.halves:=by
 obtain⟨h1,h2⟩:=kj (rec:=rec) h
 unfold dx
 split
 · exact⟨aHy h1,h2⟩
 · exact⟨h,rfl⟩
theorem KG.time {k:aT} (h:KG k):KG (rS k).1:=by
 refine h.of ?_ ?_
 · unfold rS
   split
   · split
     · exact(kZ h.log).1
     · exact h.log
   · exact aVv _
 · unfold rS
   split
   · split
     · exact .inl (kZ h.log).2
     · exact .inl rfl
   · exact .inr rfl
theorem KG.own {k:aT} (h:KG k) (tu til:Int) (tx:List UInt8):KG (uO k tu til tx).1:=by
 refine h.of ?_ ?_
 · unfold uO
   split
   · split
     · split
       · exact(kZ h.log).1
       · exact h.log
     · exact h.log
   · exact aVv _
 · unfold uO
   split
   · split
     · split
       · exact .inl (kZ h.log).2
       · exact .inl rfl
     · exact .inl rfl
   · exact .inr rfl
open Go Go.RowKit
set_option linter.unusedVariables false
set_option linter.unusedSimpArgs false
section
variable {P:Program} {f:FuncId} {n:Nat} {σin σout:St} {rl:List (Nat×Nat)} {bor:List Nat} {σ:St} {Xs Ys:List V} {Ra:List (cL×Option K)} {robj:List (Nat×K)}
variable {e:TypeId} {es:Nat} {l l' l1 l2:List (Value×List (List D))} {v:Value} {g g':List (List D)}
theorem aT1 {k:List (cL×Option K)→List (cL×K)→Prop} (z j i:Nat) (hs:Spec P f n σin σout) {o:Oper} {c:Call} (ho:o.op= .call c) (hc:c.callee= .value (.func f)) (hx:ri σ c.args.toList=some (Xs,Ra)) (hY:rA v g.length j Xs Ys) (hn:Ys.length=n)
 (hm:jX (dJ 0 Ys++kP ((j,.row e es g)::robj)) σin rl bor) (hk:gV rl σin σout=true) (hb:bor=[]∨gU σout)
 (hi:aQ σin (.o i)=some (.row e es g)) (hi':aQ σout (.o i)=some (.row e es g')) (hij:iO rl i=j) (hg:g'.length=g.length)
 (hfR: ∀p∈rF Ra robj rl σin σout,p.1≠ .o z∧p.1≠ .o j) (hfW: ∀p∈iB rl σin σout o.dst,p.1≠ .o z)
 (hz:aQ σ (.o z)=some (.zone (kL e es l))) (hl:l=l1++(v,g)::l2) (hl':l1++(v,g')::l2=l') (hj:aQ σ (.o j)=none) (h1: ∀p∈robj,aQ σ (.o p.1)=some p.2) (h2: ∀j∈fI σin σout,aQ σ (.o (iO rl j))=none)
 (h:k ((.o z,some (.zone (kL e es l)))::(.o j,none)::rF Ra robj rl σin σout) (iB rl σin σout o.dst++[(.o z,.zone (kL e es l')),(.o j,.dead)])): ∃R W,yE P o R W∧bO R σ∧k R W:=by
 subst hl;subst hl'
 refine⟨_,_,aQe hs ho hc hx hY hn hm hk hb hi hi' hij hg hfR hfW,fun p hp=> ?_,h⟩
 rcases aV6.1 hp with rfl|hp
 · exact hz
 · rcases aV6.1 hp with rfl|hp
   · exact hj
   · exact yS hx h1 h2 p hp
end
theorem xx: ∀(hs:List bB) (vs:List Value) (i:Nat),vs.length=hs.length→i<hs.length→ ∃v,vs[i]? =some v∧gI hs vs=gI (hs.take i) (vs.take i)++(v,aR (hs.getD i .zero).got)::gI (hs.drop (i+1)) (vs.drop (i+1))
 | [],_,i,_,h=>absurd h (Nat.not_lt_zero _)
 |h::hs,[],_,h1,_=>by cases h1
 |h::hs,v::vs,0,_,_=>⟨v,rfl,by simp[gI]⟩
 |h::hs,v::vs,i+1,h1,h2=>by
  obtain⟨u,q1,q2⟩:=xx hs vs i (by simpa using h1) (by simpa using h2)
  refine⟨u,by simpa using q1,?_⟩
  simp only[gI,List.take_succ_cons,List.drop_succ_cons,List.cons_append]
  rw[q2]
  simp
open Go Go.RowKit
set_option linter.unusedVariables false
set_option linter.unusedSimpArgs false
def iN:List cU→Int→List cU
 | [],_=>[]
 |_::r,k=>⟨k,qG (k+1)⟩::iN r (k+2)
def lZ (h:bB) (k:Int):bB:=⟨k,k+1,k+2,k+3,k+4,iN h.got (k+5)⟩
def nW (h:bB):Int:=5+2*h.got.length
def cW:List bB→Int→List bB
 | [],_=>[]
 |h::r,k=>lZ h k::cW r (k+nW h)
def aL:List bB→Int
 | []=>0
 |h::r=>nW h+aL r
theorem iT: ∀(l:List cU) (k:Int),(iN l k).length=l.length
 | [],_=>rfl
 |_::r,k=>by simp[iN,iT r]
theorem dR: ∀(l:List bB) (k:Int),(cW l k).length=l.length
 | [],_=>rfl
 |_::r,k=>by simp[cW,dR r]
theorem iJ: ∀l:List bB,0≤aL l
 | []=>Int.le_refl _
 |h::r=>by have:=iJ r;simp only[aL,nW];omega
theorem li: ∀(l:List cU) (k:Int) (i:Nat),i<l.length→(iN l k).getD i .zero=⟨k+2*i,qG (k+2*i+1)⟩
 | [],_,_,h=>absurd h (Nat.not_lt_zero _)
 |_::r,k,0,_=>by simp[iN]
 |_::r,k,i+1,h=>by
  have:=li r (k+2) i (by simpa using h)
  simp only[iN,List.getD_cons_succ,this]
  congr 1<;>first|(push_cast;omega)|(congr 1;push_cast;omega)
theorem rB: ∀(l:List bB) (i:Nat),i<l.length→aL (l.take (i+1))=aL (l.take i)+nW (l.getD i .zero)
 | [],_,h=>absurd h (Nat.not_lt_zero _)
 |h::r,0,_=>by simp[aL]
 |h::r,i+1,q=>by
  have:=rB r i (by simpa using q)
  simp only[List.take_succ_cons,aL,List.getD_cons_succ] at this ⊢
  omega
theorem be: ∀(l:List bB) (k:Int) (i:Nat),i<l.length→(cW l k).getD i .zero=lZ (l.getD i .zero) (k+aL (l.take i))
 | [],_,_,h=>absurd h (Nat.not_lt_zero _)
 |h::r,k,0,_=>by simp[cW,aL]
 |h::r,k,i+1,q=>by
  have:=be r (k+nW h) i (by simpa using q)
  simp only[cW,List.getD_cons_succ,List.take_succ_cons,aL,this]
  congr 1
  omega
open Go Go.RowKit
set_option linter.unusedVariables false
set_option linter.unusedSimpArgs false
theorem aFk {e:TypeId} {es:Nat} {l:List (Value×List (List D))} (h: ∀x∈l,∀r∈x.2,∀d∈r,sA d):pY (.zone (kL e es l)):=by
 intro w S S' p hp
 obtain⟨h1,h2,h3⟩:aB3 e es l w S p:=hp
 refine⟨h1,fun x hx=> ?_,h3⟩
 rcases h2 x hx with hn|⟨g,off,cap,cur,fz,hp,hh,hfz,q1,q2,q3,q4⟩
 · exact .inl hn
 · refine .inr ⟨g,off,cap,cur,fz,hp,hh,hfz,q1,q2,q3,fun i r hr=>⟨(q4 i r hr).1,fun k d hd=> ?_⟩⟩
   obtain⟨u,hu,hdr⟩:=(q4 i r hr).2 k d hd
   exact⟨u,hu,DR.scalar (h x hx r (List.mem_of_getElem? hr) d (List.mem_of_getElem? hd)) hdr⟩
theorem aFl {h:bB} {v:Value}: ∀d∈h.rowX v,sA d:=by
 intro d hd
 simp only[bB.rowX,aV6,List.not_mem_nil,or_false] at hd
 rcases hd with rfl|rfl|rfl|rfl|rfl|rfl<;>trivial
theorem qf: ∀(hs:List bB) (vs:List Value),vs.length=hs.length→ ∀r∈cI hs vs,∀d∈r,sA d
 | [],_,_,r,hr=>by cases hr
 |h::hs,[],e,r,hr=>by cases e
 |h::hs,v::vs,e,r,hr=>by
  rcases aV6.1 hr with rfl|hr
  · exact aFl
  · exact qf hs vs (by simpa using e) r hr
theorem aHz (l:List cU): ∀r∈aR l,∀d∈r,sA d:=by
 intro r hr d hd
 obtain⟨m,_,rfl⟩:=aV5.1 hr
 simp only[cU.row,aV6,List.not_mem_nil,or_false] at hd
 rcases hd with rfl|rfl<;>trivial
theorem qg: ∀(hs:List bB) (vs:List Value),∀x∈gI hs vs,∀r∈x.2,∀d∈r,sA d
 | [],_,x,hx=>by simp[gI] at hx
 |h::hs,[],x,hx=>by simp[gI] at hx
 |h::hs,v::vs,x,hx=>by
  rcases aV6.1 hx with rfl|hx
  · exact aHz _
  · exact qg hs vs x hx
theorem ig: ∀(hs:List bB) (vs:List Value) (i:Nat) (v:Value),vs[i]? =some v→i<hs.length→(cI hs vs).getD i []=(hs.getD i .zero).rowX v
 | [],_,_,_,_,h=>absurd h (Nat.not_lt_zero _)
 |h::hs,[],i,v,hv,_=>by simp at hv
 |h::hs,u::vs,0,v,hv,_=>by simp at hv;subst hv;rfl
 |h::hs,u::vs,i+1,v,hv,hl=>by
  have:=ig hs vs i v (by simpa using hv) (by simpa using hl)
  simpa[cI] using this
theorem ah: ∀(hs:List bB) (vs:List Value) (i:Nat) (v:Value) (x:bB),vs[i]? =some v→i<hs.length→(cI hs vs).set i (x.rowX v)=cI (hs.set i x) vs
 | [],_,_,_,_,_,h=>absurd h (Nat.not_lt_zero _)
 |h::hs,[],i,v,x,hv,_=>by simp at hv
 |h::hs,u::vs,0,v,x,hv,_=>by simp at hv;subst hv;rfl
 |h::hs,u::vs,i+1,v,x,hv,hl=>by
  have:=ah hs vs i v x (by simpa using hv) (by simpa using hl)
  simpa[cI] using this
theorem zl (hs:List bB) (i:Nat) (x:bB): (aP hs).set i x.row=aP (hs.set i x):=by
 simp[aP,List.map_set]
theorem xy: ∀(hs:List bB) (vs:List Value) (v:Value) (x:bB),vs.length<hs.length→(cI hs vs).set vs.length (x.rowX v)=cI (hs.set vs.length x) (vs++[v])
 | [],_,_,_,h=>absurd h (Nat.not_lt_zero _)
 |h::hs,[],v,x,_=>by simp[cI,uQ]
 |h::hs,u::vs,v,x,h1=>by
  have h3:=xy hs vs v x (by simpa using h1)
  simpa[cI] using h3
theorem xz: ∀(hs:List bB) (vs:List Value) (i:Nat) (v:Value) (x:bB),vs[i]? =some v→i<hs.length→gI (hs.set i x) vs=gI (hs.take i) (vs.take i)++(v,aR x.got)::gI (hs.drop (i+1)) (vs.drop (i+1))
 | [],_,_,_,_,_,h=>absurd h (Nat.not_lt_zero _)
 |h::hs,[],i,v,x,hv,_=>by simp at hv
 |h::hs,u::vs,0,v,x,hv,_=>by simp at hv;subst hv;simp[gI]
 |h::hs,u::vs,i+1,v,x,hv,hl=>by
  have:=xz hs vs i v x (by simpa using hv) (by simpa using hl)
  simp only[List.set_cons_succ,gI,List.take_succ_cons,List.drop_succ_cons,List.cons_append]
  rw[this]
theorem sH {α:Type}: ∀(l:List α) (i:Nat) (z:α),l.set i (l.getD i z)=l
 | [],_,_=>rfl
 |x::r,0,z=>by simp
 |x::r,i+1,z=>by have:=sH r i z;simpa using this
theorem aQh (hs:List bB) (vs:List Value) (i:Nat) (v:Value) (hv:vs[i]? =some v) (hi:i<hs.length):gI hs vs=gI (hs.take i) (vs.take i)++(v,aR (hs.getD i .zero).got)::gI (hs.drop (i+1)) (vs.drop (i+1)):=by
 rw[← xz hs vs i v (hs.getD i .zero) hv hi,sH]
def pQ (l:List bB) (i:Nat):List bB:=l.take i++aWb (l.length - i) .zero
theorem aH0 (l:List bB):pQ l 0=aWb l.length .zero:=by simp[pQ]
theorem aK5 (l:List bB):pQ l l.length=l:=by simp[pQ]
theorem uI {l:List bB} {i:Nat} (h:i≤l.length): (pQ l i).length=l.length:=by simp[pQ];omega
theorem aBt: ∀(l:List bB) (i:Nat),i<l.length→(pQ l i).set i (l.getD i .zero)=pQ l (i+1)
 | [],_,h=>absurd h (Nat.not_lt_zero _)
 |h::r,0,_=>by simp[pQ,List.replicate_succ]
 |h::r,i+1,q=>by
  have:=aBt r i (by simpa using q)
  simp only[pQ] at this ⊢
  simpa using this
theorem aK6 {l:List bB} {vs:List Value} (v:Value) (h:vs.length<l.length): (cI (pQ l vs.length) vs).set vs.length ((l.getD vs.length .zero).rowX v)=cI (pQ l (vs++[v]).length) (vs++[v]):=by
 rw[xy _ _ _ _ (by rw[uI (by omega)];exact h),aBt l _ h,aVt]
 rfl
theorem aBu (l:List bB):cI (pQ l 0) []=aWb l.length bB.zero.row:=by
 rw[uQ,aH0,aP,List.map_replicate]
def fH (l:List bB) (k:Int) (i:Nat):List bB:=cW (l.take i) k++l.drop i
theorem aH1 (l:List bB) (k:Int):fH l k 0=l:=by simp[fH,cW]
theorem aK7 (l:List bB) (k:Int):fH l k l.length=cW l k:=by simp[fH]
theorem lj (l:List bB) (k:Int) (i:Nat): (fH l k i).length=l.length:=by simp[fH,dR];omega
theorem ya: ∀(l:List bB) (k:Int) (i:Nat),i<l.length→(fH l k i).getD i .zero=l.getD i .zero
 | [],_,_,h=>absurd h (Nat.not_lt_zero _)
 |h::r,k,0,_=>by simp[fH,cW]
 |h::r,k,i+1,q=>by
  have:=ya r (k+nW h) i (by simpa using q)
  simp only[fH,List.take_succ_cons,List.drop_succ_cons,cW,List.cons_append,List.getD_cons_succ] at this ⊢
  exact this
theorem nt: ∀(l:List bB) (k:Int) (i:Nat),i<l.length→(fH l k i).set i (lZ (l.getD i .zero) (k+aL (l.take i)))=fH l k (i+1)
 | [],_,_,h=>absurd h (Nat.not_lt_zero _)
 |h::r,k,0,_=>by simp[fH,cW,aL]
 |h::r,k,i+1,q=>by
  have:=nt r (k+nW h) i (by simpa using q)
  simp only[fH,List.take_succ_cons,List.drop_succ_cons,cW,List.cons_append,List.getD_cons_succ,aL,List.set_cons_succ] at this ⊢
  rw[← this,show k+(nW h+aL (List.take i r))=k+nW h+aL (List.take i r) by omega]
def iX (l:List cU) (k:Int) (i:Nat):List cU:=iN (l.take i) k++l.drop i
theorem aFm (l:List cU) (k:Int):iX l k 0=l:=by simp[iX,iN]
theorem aH2 (l:List cU) (k:Int):iX l k l.length=iN l k:=by simp[iX]
theorem sI (l:List cU) (k:Int) (i:Nat): (iX l k i).length=l.length:=by simp[iX,iT];omega
theorem qh: ∀(l:List cU) (k:Int) (i:Nat),i<l.length→(iX l k i).getD i .zero=l.getD i .zero
 | [],_,_,h=>absurd h (Nat.not_lt_zero _)
 |h::r,k,0,_=>by simp[iX,iN]
 |h::r,k,i+1,q=>by
  have:=qh r (k+2) i (by simpa using q)
  simp only[iX,List.take_succ_cons,List.drop_succ_cons,iN,List.cons_append,List.getD_cons_succ] at this ⊢
  exact this
theorem yb: ∀(l:List cU) (k:Int) (i:Nat),i<l.length→(iX l k i).set i ⟨k+2*i,qG (k+2*i+1)⟩=iX l k (i+1)
 | [],_,_,h=>absurd h (Nat.not_lt_zero _)
 |h::r,k,0,_=>by simp[iX,iN]
 |h::r,k,i+1,q=>by
  have:=yb r (k+2) i (by simpa using q)
  simp only[iX,List.take_succ_cons,List.drop_succ_cons,iN,List.cons_append,List.set_cons_succ] at this ⊢
  rw[← this,show k+2*((i+1:Nat):Int)=k+2+2*i by omega]
theorem lA (l:List cU) (i:Nat) (x:cU): (aR l).set i x.row=aR (l.set i x):=by
 simp[aR,List.map_set]
def ii:List bB→Nat
 | []=>0
 |h::r=>h.got.length+ii r
theorem uJ: ∀l:List bB,aL l=5*l.length+2*ii l
 | []=>rfl
 |h::r=>by
  have:=uJ r
  simp only[aL,nW,ii,aVw,this]
  push_cast
  omega
theorem aBv: ∀(l:List bB) (i:Nat),i<l.length→ii (l.take (i+1))=ii (l.take i)+(l.getD i .zero).got.length
 | [],_,h=>absurd h (Nat.not_lt_zero _)
 |h::r,0,_=>by simp[ii]
 |h::r,i+1,q=>by
  have:=aBv r i (by simpa using q)
  simp only[List.take_succ_cons,ii,List.getD_cons_succ] at this ⊢
  omega
theorem lk: ∀(l:List bB) (i:Nat),aL (l.take i)≤aL l
 | [],i=>by simp[aL]
 |h::r,0=>by simpa[aL] using iJ (h::r)
 |h::r,i+1=>by have:=lk r i;simp only[List.take_succ_cons,aL];omega
theorem ll {l:List bB} {i:Nat} (h:i<l.length):aL (l.take i)+5+2*((l.getD i .zero).got.length:Int)≤aL l:=by
 have h1:=rB l i h
 have h2:=lk l (i+1)
 simp only[nW] at h1
 omega
theorem aI1 {l:List bB}:5*(l.length:Int)≤aL l:=by rw[uJ];omega
theorem aFn {l:List bB} {vs:List Value} (h:vs.length<l.length): (cI (pQ l vs.length) vs).getD vs.length []=bB.zero.row:=by
 rw[af _ _ _ (aVz _) (by rw[uI (by omega)];exact h)]
 congr 1
 unfold pQ
 rw[aVy,List.getElem?_append_right (by simp;omega),List.getElem?_replicate,aC (by simp;omega)]
 rfl
theorem aK8 {l:List bB} {vs:List Value} {v:Value} (h:vs.length<l.length): (cI (pQ l vs.length) vs).set vs.length (cT ((cI (pQ l vs.length) vs).getD vs.length []) 0 ((l.getD vs.length .zero).rowX v))=cI (pQ l (vs++[v]).length) (vs++[v]):=by
 rw[aFn h]
 exact aK6 v h
def aT2 (B:Nat) (k:aT):Prop:=k.log.length≤B∧k.halves.length*64≤B∧ ∀h∈k.halves,h.got.length*24≤B∧ ∀m∈h.got,m.data.length≤B
def KRW (k:aT):Prop:=aT2 140737488355328 k
theorem aT3 {B:Nat} {k:aT} (hB:B≤140737488355328) (h:aT2 B k):KRW k:=⟨by have:=h.1;omega,by have:=h.2.1;omega,fun x hx=>⟨by have:=(h.2.2 x hx).1;omega,fun m hm=>by have:=(h.2.2 x hx).2 m hm;omega⟩⟩
theorem aFo {k:aT} (h:KRW k):KRB k:=⟨h.1,h.2.1,fun x hx=>(h.2.2 x hx).1⟩
open Go Go.RowKit
set_option linter.unusedVariables false
set_option linter.unusedSimpArgs false
structure LH (k x:aT):Prop where
 log:x.log.length≤140737488355328
 hal:x.halves=k.halves∨x.halves=[]
theorem LH.time {k:aT} (h:KRB k):LH k (rS k).1:=by
 refine⟨?_,?_⟩
 · unfold rS
   split
   · split
     · exact(kZ h.1).1
     · exact h.1
   · exact aVv _
 · unfold rS
   split
   · split
     · exact .inl (kZ h.1).2
     · exact .inl rfl
   · exact .inr rfl
theorem LH.own {k:aT} (h:KRB k) (tu til:Int) (tx:List UInt8):LH k (uO k tu til tx).1:=by
 refine⟨?_,?_⟩
 · unfold uO
   split
   · split
     · split
       · exact(kZ h.1).1
       · exact h.1
     · exact h.1
   · exact aVv _
 · unfold uO
   split
   · split
     · split
       · exact .inl (kZ h.1).2
       · exact .inl rfl
     · exact .inl rfl
   · exact .inr rfl
open Go Go.RowKit
set_option linter.unusedVariables false
theorem aH3 {P:Program} {ops:Array Oper} {o:Oper} {σ:St} {R:List (cL×Option K)} {W:List (cL×K)} {j s:Nat} {want:Bool} (hg:o.guard=some (j,want)) (hs: (ops[j]?).bind (·.dst)=some s) (hl:gOf want (aQ σ (.t s))=some true) (h:yE P o R W):
 ItT P ops o ((.t s,aQ σ (.t s))::R,W):=by
 intro cx σ1 ι S a w hr hw hb next Q hn
 have hls:aQ σ1 (.t s)=aQ σ (.t s):=hr (.t s,aQ σ (.t s)) (List.mem_cons_self ..)
 rw[so hw hg hs (by rw[hls];exact hl),aC rfl]
 exact .inl (h cx σ1 ι S a w (fun p hp=>hr p (List.mem_cons_of_mem _ hp)) hw hb next Q hn)
def aH4 (P:Program) (ops:List Oper):List Oper→St→List ej→(St→List ej→Prop)→Prop
 | [],σ,acc,k=>k σ acc
 |o::os,σ,acc,k=>match o.guard with
  |none=> ∃R W,yE P o R W∧bO R σ∧mJ σ W fun σ'=>aH4 P ops os σ' (acc++[oP (R,W)]) k
  |some (j,want)=>match(ops[j]?).bind (·.dst),o.dst with
   |some s,some d=>match gOf want (aQ σ (.t s)) with
    |some g=>(g=true→ ∃R W,yE P o R W∧bO R σ∧mJ σ W fun σ'=>aH4 P ops os σ' (acc++[oP ((.t s,aQ σ (.t s))::R,W)]) k)∧
     (g=false→ ∃X,iz σ (.t d) (.cv s want false X) fun σ'=>aH4 P ops os σ' (acc++[oP ([(.t s,aQ σ (.t s))],[(.t d,.cv s want false X)])]) k)
    |none=>False
   |_,_=>False
theorem aj {P:Program} {ops:Array Oper} {k:St→List ej→Prop}: ∀(l:List Oper) (σ:St) (acc:List ej),aH4 P ops.toList l σ acc k→ ∃ts:List lO,ao P ops l ts∧jP ts σ∧k (eM ts σ) (acc++ts.map oP)
 | [],σ,acc,h=>⟨[],trivial,trivial,by simpa[aH4,eM] using h⟩
 |o::os,σ,acc,h=>by
  simp only[aH4] at h
  split at h
  · rename_i hg
    obtain⟨R,W,h1,h2,h3⟩:=h
    rw[kA] at h3
    obtain⟨ts,q1,q2,q4⟩:=aj os _ _ h3
    exact⟨(R,W)::ts,⟨bj hg h1,q1⟩,⟨h2,q2⟩,by simpa[eM] using q4⟩
  · rename_i j want hg
    split at h<;>try(exact h.elim)
    rename_i s d hs hd
    split at h<;>try(exact h.elim)
    rename_i g hl
    have hs': (ops[j]?).bind (·.dst)=some s:=by simpa using hs
    cases g with
    |true=>
     obtain⟨R,W,h1,h2,h3⟩:=h.1 rfl
     rw[kA] at h3
     obtain⟨ts,q1,q2,q4⟩:=aj os _ _ h3
     refine⟨((.t s,aQ σ (.t s))::R,W)::ts,⟨aH3 hg hs' hl h1,q1⟩,⟨?_,q2⟩,by simpa[eM] using q4⟩
     intro p hp
     rcases aV6.1 hp with rfl|hp
     · rfl
     · exact h2 p hp
    |false=>
     obtain⟨X,h3⟩:=h.2 rfl
     rw[lQ] at h3
     obtain⟨ts,q1,q2,q4⟩:=aj os _ _ h3
     have hi:=aCf (P:=P) (o:=o) (R:=[]) (X:=X) hg hs' hd hl (by simp) (by simp)
     refine⟨([(.t s,aQ σ (.t s))],[(.t d,.cv s want false X)])::ts,⟨hi,q1⟩,⟨?_,by simpa[fT] using q2⟩,by simpa[eM,fT] using q4⟩
     intro p hp
     rw[aWa.1 hp]
open Go Go.RowKit
set_option linter.unusedVariables false
theorem SW.regTX {P:Program} {io:List Nat} {Q:Ex→St→Prop} {σ:St} (ks:List Nat) {id:Nat} {ops:Array Oper} (h:aH4 P ops.toList ops.toList σ [] fun σ' _=>uW ks σ' (Q .norm)):SW P io (.region id ops false) Q σ:=by
 intro cx ι S a w hio hw hf
 have hfit: ∀o∈ops.toList,∀d,o.dst=some d→d<cx.N:=fun o ho=>bl (by simpa[tQ] using hf) ho
 obtain⟨ts,h1,h2,h5⟩:=aj (ops:=ops) ops.toList σ [] h
 rw[nH] at h5
 exact wp_region_list (uS (Q:=_) ops.toList ts σ ι S a w h1 h2 hw hfit fun ι' S' a' w' hw'=>⟨_,ι',S',h5,hw'.keep ks⟩)
def pH (es k:Nat):Value→Value
 | .slice a0 len cap=> .slice (if cap=k then a0 else a0.map (·.add (k*es))) (len - k) (cap - k)
 |v=>v
theorem aNp {σ σ':St} {ι ι':Nat→Value} {w:World} {S:Nat→Prop} {p:Value} {e:TypeId} {es k:Nat} {rows:List (List D)} (h:OR σ ι w S p (.row e es rows)) (hk:k≤rows.length):OR σ' ι' w S (pH es k p) (.row e es (rows.drop k)):=by
 rcases h with⟨rfl,rfl⟩|⟨g,off,cap,cur,fz,rfl,hh,hf,h1,h2,h3,h4⟩
 · obtain rfl:k=0:=by simpa using hk
   exact .inl ⟨by simp[pH],rfl⟩
 · right
   by_cases hc:cap=k
   · have hlen:rows.drop k=[]:=List.drop_eq_nil_iff.2 (by omega)
     refine⟨g,off,cap - k,cur,fz,?_,hh,hf,by rw[hlen];exact aVv _,by omega,?_,fun i r hr=> ?_⟩
     · rw[hlen]
       simp only[pH,aC hc,aVx]
       rw[show rows.length - k=0 by omega]
     · have: (cap - k)*es≤cap*es:=Nat.mul_le_mul_right _ (by omega)
       omega
     · rw[hlen] at hr;simp at hr
   · refine⟨g,off+k*es,cap - k,cur,fz,?_,hh,hf,by rw[aV4];omega,by omega,?_,fun i r hr=> ?_⟩
     · simp only[pH,aB hc,Option.map_some,mS,aV4]
     · have:k*es+(cap - k)*es=cap*es:=by rw[← Nat.add_mul];congr 1;omega
       omega
     · rw[List.getElem?_drop] at hr
       obtain⟨q1,q2⟩:=h4 (k+i) r hr
       refine⟨q1,fun j d hd=> ?_⟩
       obtain⟨u,hu,hd2⟩:=q2 j d hd
       exact⟨u,by rw[← hu];congr 1;rw[Nat.add_mul];omega,hd2⟩
theorem aK9 {es k:Nat} {σ:St} {ι:Nat→Value} {w:World} {S:Nat→Prop} {p:Value} {e:TypeId} {rows:List (List D)} (h:OR σ ι w S p (.row e es rows)) {b:Nat} (hb:sJ (pH es k p) b):sJ p b:=by
 rcases h with⟨rfl,rfl⟩|⟨g,off,cap,cur,fz,rfl,_⟩
 · simp[pH,sJ] at hb
 · by_cases hc:cap=k
   · simpa[pH,hc,sJ] using hb
   · simpa[pH,hc,sJ,mS] using hb
section
variable {P:Program} {cx:Cx P} {σ:St} {ι:Nat→Value} {S:Nat→Prop} {a:Act} {w:World}
theorem RW.front (h:RW cx σ ι S a w) {o o2:Nat} {e:TypeId} {es k:Nat} {rows:List (List D)} (hl:aQ σ (.o o)=some (.row e es rows)) (hn:aQ σ (.o o2)=none) (hk:k≤rows.length):
 RW cx (jN (jN σ (.o o) .dead) (.o o2) (.row e es (rows.drop k))) (fun i=>if i=o2 then pH es k (ι o) else ι i) S a w:=by
 have hne:o≠o2:=fun e=>by rw[e,hn] at hl;cases hl
 have hR:=h.vr.objs o _ hl
 have hlk: ∀i,aQ (jN (jN σ (.o o) .dead) (.o o2) (.row e es (rows.drop k))) (.o i)=if i=o2 then some (.row e es (rows.drop k)) else if i=o then some .dead else aQ σ (.o i):=fun i=>by
  rw[eD]
  by_cases h1:i=o2
  · subst h1;simp
  · rw[aB (by simpa using fun e=>h1 e.symm),aB h1,eD]
    by_cases h2:i=o
    · subst h2;simp
    · rw[aB (by simpa using fun e=>h2 e.symm),aB h2]
 have hmu: ∀i b,jL (jN (jN σ (.o o) .dead) (.o o2) (.row e es (rows.drop k))) (fun i=>if i=o2 then pH es k (ι o) else ι i) i b→jL σ ι (if i=o2 then o else i) b∧i≠o:=by
  rintro i b ⟨⟨k',hk',hlv⟩,hb⟩
  rw[hlk] at hk'
  dsimp only at hb
  by_cases h1:i=o2
  · rw[aC h1] at hb ⊢
    exact⟨⟨⟨_,hl,trivial⟩,aK9 hR hb⟩,fun e=>hne (e.symm.trans h1)⟩
  · rw[aB h1] at hk' hb ⊢
    by_cases h2:i=o
    · rw[aC h2] at hk';cases hk';exact hlv.elim
    · rw[aB h2] at hk'
      exact⟨⟨⟨k',hk',hlv⟩,hb⟩,h2⟩
 refine h.reobj _ _ (fun i k' hk'=> ?_) (fun s=> ?_) (fun i k' hk'=> ?_) (fun i b hm=>⟨_,(hmu i b hm).1⟩) (fun i i' b hm hm'=> ?_)
 · rw[hlk]
   by_cases h1:i=o2
   · subst h1;rw[hn] at hk';cases hk'
   · rw[aB h1]
     by_cases h2:i=o
     · rw[aC h2];exact⟨_,rfl,by cases k'<;>trivial⟩
     · rw[aB h2];exact⟨k',hk',by rw[aB h1];exact lB.refl' _ k'⟩
 · rw[bZ _ _ (by simp),bZ _ _ (by simp)]
 · rw[hlk] at hk'
   by_cases h1:i=o2
   · rw[aC h1] at hk' ⊢
     cases hk'
     exact .inr (aNp hR hk)
   · rw[aB h1] at hk' ⊢
     by_cases h2:i=o
     · rw[aC h2] at hk';cases hk';exact .inr trivial
     · rw[aB h2] at hk';exact .inl ⟨hk',rfl⟩
 · obtain⟨m1,n1⟩:=hmu i b hm
   obtain⟨m2,n2⟩:=hmu i' b hm'
   have e:=h.vr.inj _ _ b m1 m2
   by_cases h1:i=o2<;>by_cases h2:i'=o2
   · rw[h1,h2]
   · rw[aC h1,aB h2] at e;exact absurd e.symm n2
   · rw[aB h1,aC h2] at e;exact absurd e n1
   · rw[aB h1,aB h2] at e;exact e
end
theorem aFp {P:Program} {T:gJ} (hT:eC P T) {o:Oper} {σ:St} {t e:TypeId} {x:Operand} {lo:Option Operand} {d oo n es s1 s2:Nat} {s3:List C} {ti:TI} {rows:List (List D)} {R R2:List (cL×Option K)} {K0:List (cL×Option K)→List (cL×K)→Prop} (o2 k:Nat)
 (ho:o.op= .slice t x lo none none) (hd:o.dst=some d) (ht:T t=some ⟨.sl e,s1,s2,s3⟩) (hte:T e=some ti) (hes:ti.size=es) (hx:ev σ x=some (.e (.c (.own oo n)),R)) (hlo:evI σ lo=some (some (k:Int),R2)) (hl:aQ σ (.o oo)=some (.row e es rows)) (hr:rows.length=n) (hk:k≤n) (h2:aQ σ (.o o2)=none)
 (h:K0 (R++R2++[(.o oo,some (.row e es rows)),(.o o2,none)]) [(.o oo,.dead),(.o o2,.row e es (rows.drop k)),(.t d,.v (.e (.c (.own o2 (n - k)))))]): ∃R W,yE P o R W∧bO R σ∧K0 R W:=by
 have hu:=(hT t _ ht).kind
 simp only[mR] at hu
 have hok:=hT e ti hte
 refine⟨_,_,?_,(((eE hx).append (xH hlo)).append (fun p hp=> ?_)),h⟩
 · intro cx σ' ι S a w hrd hw hb next Q hn
   have hl':=hrd.right (.o oo,some (.row e es rows)) (by simp)
   have h2':=hrd.right (.o o2,none) (by simp)
   dsimp only at hl' h2'
   have h1:=xI hlo hrd.left.right hw
   have hX:=eF hx hrd.left.left hw
   simp only[lM,ER,CR] at hX
   obtain⟨hone,hX⟩:=hX
   have hv:a.eval x=ι oo:=by
    rcases hX with⟨e',es',rows',hl2,_,hv⟩|hd2
    · rw[hl'] at hl2;cases hl2;exact hv hr
    · rw[hl'] at hd2;cases hd2
   have hR:=hw.vr.objs oo _ hl'
   have hrun: (execOp a.eval o).run P w= .ok (.value (pH es k (ι oo))) w:=by
    have hbn:bnd (some (k:Int)) none n:=⟨by simp;try omega,by simp;try omega,by simp;try omega⟩
    rcases hR with⟨hp,hrows⟩|⟨g,off,cap,cur,fz,hp,hh,hf,q1,q2,q3,q4⟩
    · have hn0:n=0:=by rw[← hr,hrows];rfl
      have hk0:k=0:=by omega
      subst hn0;subst hk0
      have hb2:=yL (P:=P) (w:=w) (isSl:=true) (len:=0) (cap:=0) (aVz _) hbn
      have e0: ((0:Nat):Int)=0:=rfl
      rw[e0] at hb2 h1
      simp only[Option.map_some,Option.map_none] at hb2
      simp[execOp,ho,hv,hp,pH,Instr.sliceAt,run_underlying hu,Instr.slice,h1,hb2,fK hok,gD,iE]
    · have hb2:=yL (P:=P) (w:=w) (isSl:=true) (len:=n) (cap:=cap) (by omega) hbn
      have e1:gD (some (k:Int))=k:=by simp[gD]
      have e2:iE none n=n:=by simp[iE]
      rw[e1,e2] at hb2
      simp only[Option.map_some,Option.map_none] at hb2
      subst hr
      simp[execOp,ho,hv,hp,pH,Instr.sliceAt,run_underlying hu,Instr.slice,h1,hb2,fK hok,hes]
   unfold Oper.wp
   rw[hrun]
   simp only[Oper.upon,hd]
   have hf:=hw.front hl' h2' (k:=k) (by omega)
   refine hn _ S _ w (hf.put (hb d hd) ?_)
   have hne:oo≠o2:=fun e=>by rw[e,h2'] at hl';cases hl'
   have hof: (pH es k (ι oo)).oneCell'=true:=by
    rcases hR with⟨hp,_⟩|⟨g,off,cap,cur,fz,hp,_⟩<;>rw[hp]<;>simp[pH,Value.oneCell']
   exact⟨hof,.inl ⟨e,es,rows.drop k,dE _ _ _,by rw[aV4];omega,fun _=>(aC rfl).symm⟩⟩
 · simp only[aV6,List.mem_nil_iff,or_false] at hp
   rcases hp with rfl|rfl
   · exact hl
   · exact h2
open Go Go.RowKit
set_option linter.unusedVariables false
set_option linter.unusedSimpArgs false
section
variable {P:Program} {f:FuncId} {n:Nat} {σin:St} {X:V} {o:Oper} {c:Call} {d:Nat} {σ:St} {Xs:List V} {Ra:List (cL×Option K)} {bor:List Nat} {robj:List (Nat×K)}
def yc (Ra:List (cL×Option K)) (robj:List (Nat×K)):List (cL×Option K):=Ra++robj.map fun p=>(.o p.1,some p.2)
theorem aFq (hs:Spec P f n σin [(.t 0,.v X)]) (ho:o.op= .call c) (hc:c.callee= .value (.func f)) (hd:o.dst=some d) (hx:ri σ c.args.toList=some (Xs,Ra)) (hn:Xs.length=n) (hm:jX (dJ 0 Xs++kP robj) σin [] bor) (hob:bJ σin=[]) (hX:mF X=true) (hsc:mn X=true):
 yE P o (yc Ra robj) [(.t d,.v X)]:=by
 have:=bs (robj:=robj) (rl:=[]) (bor:=bor) hs ho hc hx hn hm (by simp[gV,bJ,lC,hob,uV,pX]) (.inr (aG0 hsc))
 have e1:rF Ra robj [] σin [(.t 0,.v X)]=yc Ra robj:=by simp[rF,fI,bJ,yc]
 have e2:iB [] σin [(.t 0,.v X)] o.dst=[(.t d,.v X)]:=by
  simp[iB,wN,rZ,lC,hob,hd,bp,aQ,ta hX]
 rw[e1,e2] at this
 exact this
theorem yd {σ:St} (hx:ri σ c.args.toList=some (Xs,Ra)) (h1: ∀p∈robj,aQ σ (.o p.1)=some p.2):bO (yc Ra robj) σ:=by
 refine(rM hx).append fun p hp=> ?_
 obtain⟨q,hq,rfl⟩:=aV5.1 hp
 exact h1 q hq
theorem wH {k:List (cL×Option K)→List (cL×K)→Prop} (hs:Spec P f n σin [(.t 0,.v X)]) (ho:o.op= .call c) (hc:c.callee= .value (.func f)) (hd:o.dst=some d) (hx:ri σ c.args.toList=some (Xs,Ra)) (hn:Xs.length=n) (hm:jX (dJ 0 Xs++kP robj) σin [] bor) (hob:bJ σin=[]) (hX:mF X=true) (hsc:mn X=true)
 (h1: ∀p∈robj,aQ σ (.o p.1)=some p.2) (h:k (yc Ra robj) [(.t d,.v X)]): ∃R W,yE P o R W∧bO R σ∧k R W:=
 ⟨_,_,aFq hs ho hc hd hx hn hm hob hX hsc,yd hx h1,h⟩
theorem lm {σ1:St} {g:Bool} {k:List (cL×Option K)→V→Prop} (hs:g=true→Spec P f n σin [(.t 0,.v X)]) (ho:o.op= .call c) (hc:c.callee= .value (.func f)) (hd:o.dst=some d) (hx:ri σ1 c.args.toList=some (Xs,Ra)) (hn:Xs.length=n) (hm:jX (dJ 0 Xs++kP robj) σin [] bor) (hob:bJ σin=[]) (hX:mF X=true) (hsc:mn X=true)
 (h1: ∀p∈robj,aQ σ1 (.o p.1)=some p.2) (hr:g=true→qA σ (yc Ra robj)) (h:k (yc Ra robj) X): ∃R X,(g=true→yE P o R [(.t d,.v X)]∧bO R σ1)∧(g=true→qA σ R)∧k R X:=
 ⟨_,X,fun hg=>⟨aFq (hs hg) ho hc hd hx hn hm hob hX hsc,yd hx h1⟩,hr,h⟩
end
theorem aQi {o m n:Nat} {a b c d e:D} (h:n=m):okV o m (.e (.agg [.d a,.d b,.d c,.d d,.d e,.own o n]))=true:=by
 subst h;simp[okV,okE,okC]
theorem aT4 {P:Program} {T:gJ} (hT:eC P T) {o:Oper} {σ:St} {t:TypeId} {x:Operand} {d ob n i k es:Nat} {e:TypeId} {rows:List (List D)} {v:Value} {ti:TI} {Rx:List (cL×Option K)} {kk:List (cL×Option K)→List (cL×K)→Prop}
 (ho:o.op= .load t x) (hd:o.dst=some d) (hx:ev σ x=some (.e (.c (.pe ob n i k)),Rx)) (hl:aQ σ (.o ob)=some (.row e es rows)) (ht:T t=some ti) (hk:ti.kind.agg=false)
 (h1:rows.length=n∧i<n∧k< (rows.getD i []).length) (hv: (rows.getD i []).getD k (.i 0)= .x v) (h:kk (Rx++[(.o ob,some (.row e es rows))]) [(.t d,.v (Dv (.x v)))]): ∃R W,yE P o R W∧bO R σ∧kk R W:=by
 have hr:iF σ x o.dst (ip T σ t)=some ((rows.length=n∧i<n∧k< (rows.getD i []).length),Rx++[(.o ob,some (.row e es rows))],[(.t d,.v (Dv (.x v)))]):=by
  simp only[iF,hx,hd,ip,ht,hl,hk,hv,if_false,Bool.false_eq_true]
 obtain⟨q1,q2⟩:=lu hT ho _ _ _ hr h1
 exact⟨_,_,q1,q2,h⟩
end Go.Ab
