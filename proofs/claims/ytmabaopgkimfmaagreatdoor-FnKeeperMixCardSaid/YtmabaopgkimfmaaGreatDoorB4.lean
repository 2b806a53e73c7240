/- Plain functions, and contracts of the functions that the law reaches. -/
import Derived.Shelf.Vars
import Derived.Stop.LaidErr
import Derived.MakeChecks
import Derived.Test.YtmabaopgkimfmaaGreatDoorB3
set_option maxHeartbeats 12800000
namespace Go.Proofs.YtmabaopgkimfmaaGreatDoor
open Int renaming toNat_natCast→aVy,tmod→aWe
open List renaming length_append→aVz,length_nil→aV2,length_cons→aV3,length_take→aV4,getD_eq_getElem?_getD→aV6,length_drop→aV7,getElem?_eq_getElem→aV8,getElem?_eq_some_iff→aV9,range→aWb,mem_map→aWc,take_length→aWd,all_eq_true→aWf,mem_singleton→aWg
open Nat renaming le_of_ble_eq_true→aV0,zero_le→aV5,le_refl→aWa,add_mul→aWh
open Bool renaming and_eq_true→aV1
open Go Go.Ab Go.RowKit
set_option linter.unusedVariables false
set_option linter.unusedSimpArgs false
set_option maxRecDepth 9000
theorem re (a b c:Int) (h:R1 a∧R1 b∧R1 c):xd 95 3 [tI 0 a,tI 1 b,tI 2 c] (fun s=> ∃x:List UInt8,x.length≤60∧s=[tD 0 (.s x)]):=by
 have q1:=pa h.1
 have q2:=pa h.2.1
 have q3:=pa h.2.2
 refine yf Tryz.func95 rfl (sq (rT [0,1,2] (s1 (sq (rT [6] (s1 (xp (xU a (by omega)) (ai rfl ?_))))))))
 refine ai (by first|trivial|(show _≤9223372036854775807;(try simp only[aVz,aV3,aV2]);omega)) (s1 (xp (xU b (by omega)) (ai rfl ?_)))
 refine ai (by first|trivial|(show _≤9223372036854775807;(try simp only[aVz,aV3,aV2]);omega)) (ai (by first|trivial|(show _≤9223372036854775807;(try simp only[aVz,aV3,aV2]);omega)) (s1 (xp (xU c (by omega)) (ai rfl ?_))))
 refine ai (by first|trivial|(show _≤9223372036854775807;(try simp only[aVz,aV3,aV2]);omega)) (s1 (rt ?_))
 exact cW _ ⟨nl a++[32]++nl b++[32]++nl c,by simp only[aVz,aV3,aV2];omega,rfl⟩ (bL rfl rfl)
theorem fv (l:List UInt8) (p:Int) (hp:0≤p∧p≤790000) (hl:l.length≤2000):xd 167 1 [tP 0 0,oB 0 177 [.d (.sl (aA l)),.d (.i (p))]] (fun s=> ∃(x:List UInt8) (q:Int),(p≤q∧q≤p+70∧x.length≤130)∧s=[tD 0 (.s x),oB 0 177 [.d (.sl (aA l)),.d (.i (q))]]):=by
 have hall: ∀y∈([[111,119,110,32],[116,97,107,101,32],[116,97,107,101,32],[104,101,108,100,32],[105,110,98,111,120,32]]:List (List UInt8)),y.length≤10:=by decide
 refine yf Tryz.func167 rfl (sq (rT [0] (s1 (sq (sq (rT [0,4] (s1 (bH (robj:=[(0,.box 177 [.d (.sl (aA (l))),.d (.i (p))])]) (rl:=[(0,0)]) (bor:=[]) (cN (l) (p) _ (by omega) hl) rfl rfl rfl rfl ⟨bQ rfl rfl rfl rfl (cJ rfl rfl (aS rfl (aC rfl (aC rfl aG)) trivial)),rfl⟩ rfl (.inl rfl) (aH ⟨rfl,trivial⟩) (fun _ hj=>nomatch hj) (bk (sq (rT [0,4,5] (ai (by first|trivial|(show _≤9223372036854775807;(try simp only[aVz,aV3,aV2]);omega)) (s1 (cd rfl (fun c5=> ?_) fun c5=> ?_))))))))))))))
 · refine sq (rT [2] (s1 (bH (robj:=[(0,.box 177 [.d (.sl (aA (l))),.d (.i (p+1))])]) (rl:=[(0,0)]) (bor:=[]) (cN (l) (p+1) _ (by omega) hl) rfl rfl rfl rfl ⟨bQ rfl rfl rfl rfl (cJ rfl rfl (aS rfl (aC rfl (aC rfl aG)) trivial)),rfl⟩ rfl (.inl rfl) (aH ⟨rfl,trivial⟩) (fun _ hj=>nomatch hj) ?_)))
   have hpv:=cF l (p:=p+1) (n:=30) (by omega) (by omega)
   have q1:=cL (k:=6) (n:=(bN l (p+1) 30).toNat) (by simp;omega)
   refine xp (jZ (bN l (p+1) 30) (by omega)) (ai rfl ?_)
   refine ai (by first|trivial|(show _≤9223372036854775807;(try simp only[aVz,aV3,aV2]);omega)) (s1 (rt (cW _ ⟨[116,105,109,101,32]++kE (bN l (p+1) 30).toNat,p+1+1,⟨by omega,by omega,by simp only[aVz,aV3,aV2];omega⟩,rfl⟩ (dQ _ [] [] rfl ?_ rfl rfl))))
   refine qs ?_
   repeat' first|exact qx|apply ai
   all_goals rfl
 refine sq (rT [0,4,11] (ai (by first|trivial|(show _≤9223372036854775807;(try simp only[aVz,aV3,aV2]);omega)) (s1 (cd rfl (fun c11=> ?_) fun c11=> ?_))))
 · refine sq (rE [2] (s1 (gW (bH (robj:=[(0,.box 177 [.d (.sl (aA (l))),.d (.i (p+1))])]) (rl:=[(0,0)]) (bor:=[]) (cN (l) (p+1) _ (by omega) hl) rfl rfl rfl rfl ⟨bQ rfl rfl rfl rfl (cJ rfl rfl (aS rfl (aC rfl (aC rfl aG)) trivial)),rfl⟩ rfl (.inl rfl) (aH ⟨rfl,trivial⟩) (fun _ hj=>nomatch hj) (s1 (gW (bH (robj:=[(0,.box 177 [.d (.sl (aA (l))),.d (.i (p+1+1))])]) (rl:=[(0,0)]) (bor:=[]) (cN (l) (p+1+1) _ (by omega) hl) rfl rfl rfl rfl ⟨bQ rfl rfl rfl rfl (cJ rfl rfl (aS rfl (aC rfl (aC rfl aG)) trivial)),rfl⟩ rfl (.inl rfl) (aH ⟨rfl,trivial⟩) (fun _ hj=>nomatch hj) (ai (by first|trivial|(show _≤9223372036854775807;(try simp only[aVz,aV3,aV2]);omega)) (s1 (gW (bH (robj:=[(0,.box 177 [.d (.sl (aA (l))),.d (.i (p+1+1+1))])]) (rl:=[(0,0)]) (bor:=[]) (cN (l) (p+1+1+1) _ (by omega) hl) rfl rfl rfl rfl ⟨bQ rfl rfl rfl rfl (cJ rfl rfl (aS rfl (aC rfl (aC rfl aG)) trivial)),rfl⟩ rfl (.inl rfl) (aH ⟨rfl,trivial⟩) (fun _ hj=>nomatch hj) ?_)))))))))))
   refine ai (by first|trivial|(show _≤9223372036854775807;(try simp only[aVz,aV3,aV2]);omega)) (cY (robj:=[]) (rl:=[]) (bor:=[]) (news:=[]) (re (bN l (p+1) 4) (wrap64 (1+bN l (p+1+1) 3)) (wrap64 (1+bN l (p+1+1+1) 30)) (by have:=cF l (p:=p+1) (n:=4) (by omega) (by omega);have:=cF l (p:=p+1+1) (n:=3) (by omega) (by omega);have:=cF l (p:=p+1+1+1) (n:=30) (by omega) (by omega);rw[aB (by omega),aB (by omega)];omega)) rfl rfl rfl rfl ⟨cJ rfl rfl (cJ rfl rfl (cJ rfl rfl (trivial))),rfl⟩ (by rintro _ ⟨y,hy,rfl⟩;exact⟨rfl,.inl rfl,fun j hj=>nomatch hj⟩) (fun p hp=>nomatch hp) (fun j hj=>nomatch hj) ?_)
   rintro _ ⟨y,hy,rfl⟩
   refine ai (by first|trivial|(show _≤9223372036854775807;(try simp only[aVz,aV3,aV2]);omega)) (s1 (rt (cW _ ⟨[108,101,116,32]++y,p+1+1+1+1,⟨by omega,by omega,by simp only[aVz,aV3,aV2];omega⟩,rfl⟩ (dQ _ [] [] rfl ?_ rfl rfl))))
   refine qs ?_
   repeat' first|exact qx|apply ai
   all_goals rfl
 refine sq (rT [0,4,23] (ai (by first|trivial|(show _≤9223372036854775807;(try simp only[aVz,aV3,aV2]);omega)) (s1 (cd rfl (fun c23=> ?_) fun c23=> ?_))))
 · refine sq (rE [2] (s1 (gW (bH (robj:=[(0,.box 177 [.d (.sl (aA (l))),.d (.i (p+1))])]) (rl:=[(0,0)]) (bor:=[]) (cN (l) (p+1) _ (by omega) hl) rfl rfl rfl rfl ⟨bQ rfl rfl rfl rfl (cJ rfl rfl (aS rfl (aC rfl (aC rfl aG)) trivial)),rfl⟩ rfl (.inl rfl) (aH ⟨rfl,trivial⟩) (fun _ hj=>nomatch hj) (s1 (gW (bH (robj:=[(0,.box 177 [.d (.sl (aA (l))),.d (.i (p+1+1))])]) (rl:=[(0,0)]) (bor:=[]) (cN (l) (p+1+1) _ (by omega) hl) rfl rfl rfl rfl ⟨bQ rfl rfl rfl rfl (cJ rfl rfl (aS rfl (aC rfl (aC rfl aG)) trivial)),rfl⟩ rfl (.inl rfl) (aH ⟨rfl,trivial⟩) (fun _ hj=>nomatch hj) (ai (by first|trivial|(show _≤9223372036854775807;(try simp only[aVz,aV3,aV2]);omega)) (s1 (gW (bH (robj:=[(0,.box 177 [.d (.sl (aA (l))),.d (.i (p+1+1+1))])]) (rl:=[(0,0)]) (bor:=[]) (cN (l) (p+1+1+1) _ (by omega) hl) rfl rfl rfl rfl ⟨bQ rfl rfl rfl rfl (cJ rfl rfl (aS rfl (aC rfl (aC rfl aG)) trivial)),rfl⟩ rfl (.inl rfl) (aH ⟨rfl,trivial⟩) (fun _ hj=>nomatch hj) ?_)))))))))))
   refine ai (by first|trivial|(show _≤9223372036854775807;(try simp only[aVz,aV3,aV2]);omega)) (cY (robj:=[]) (rl:=[]) (bor:=[]) (news:=[]) (re (bN l (p+1) 4) (wrap64 (1+bN l (p+1+1) 3)) (wrap64 (1+bN l (p+1+1+1) 30)) (by have:=cF l (p:=p+1) (n:=4) (by omega) (by omega);have:=cF l (p:=p+1+1) (n:=3) (by omega) (by omega);have:=cF l (p:=p+1+1+1) (n:=30) (by omega) (by omega);rw[aB (by omega),aB (by omega)];omega)) rfl rfl rfl rfl ⟨cJ rfl rfl (cJ rfl rfl (cJ rfl rfl (trivial))),rfl⟩ (by rintro _ ⟨y,hy,rfl⟩;exact⟨rfl,.inl rfl,fun j hj=>nomatch hj⟩) (fun p hp=>nomatch hp) (fun j hj=>nomatch hj) ?_)
   rintro _ ⟨y,hy,rfl⟩
   refine ai (by first|trivial|(show _≤9223372036854775807;(try simp only[aVz,aV3,aV2]);omega)) (s1 (rt (cW _ ⟨[101,97,116,32]++y,p+1+1+1+1,⟨by omega,by omega,by simp only[aVz,aV3,aV2];omega⟩,rfl⟩ (dQ _ [] [] rfl ?_ rfl rfl))))
   refine qs ?_
   repeat' first|exact qx|apply ai
   all_goals rfl
 refine sq (rT [0,35] (ai (by first|trivial|(show _≤9223372036854775807;(try simp only[aVz,aV3,aV2]);omega)) (s1 (cd rfl (fun c35=> ?_) fun c35=> ?_))))
 · refine sq (rE [2] (s1 (cY (robj:=[]) (rl:=[]) (bor:=[]) (news:=[]) (oV [122] 60 rfl (by omega)) rfl rfl rfl rfl ⟨cJ rfl rfl (cJ rfl rfl (trivial)),rfl⟩ (by rintro _ ⟨x1,hx1,rfl⟩;exact⟨rfl,.inl rfl,fun j hj=>nomatch hj⟩) (fun p hp=>nomatch hp) (fun j hj=>nomatch hj) ?_)))
   rintro _ ⟨x1,hx1,rfl⟩
   refine cY (robj:=[]) (rl:=[]) (bor:=[]) (news:=[]) (oV [122] 61 rfl (by omega)) rfl rfl rfl rfl ⟨cJ rfl rfl (cJ rfl rfl (trivial)),rfl⟩ (by rintro _ ⟨x2,hx2,rfl⟩;exact⟨rfl,.inl rfl,fun j hj=>nomatch hj⟩) (fun p hp=>nomatch hp) (fun j hj=>nomatch hj) ?_
   rintro _ ⟨x2,hx2,rfl⟩
   refine ai (by exact⟨by simp,aV0 rfl⟩) (yQ 40 40 rfl rfl rfl rfl (cY (robj:=[(0,.box 177 [.d (.sl (aA (l))),.d (.i (p+1))])]) (rl:=[(0,0)]) (bor:=[]) (news:=[]) (aLq (l) (p+1) (([[],[119,104,97,116],[116,105,109,101],[116,105,109,101,32,48],[116,105,109,101,32,48,49],[110,101,120,116,32,51],[110,101,120,116,32,49],[109,97,114,107,32,48,32,49,32,53],[109,97,114,107,32,48,32,49],[109,97,114,107,32,48,32,49,32,53,32],[104,101,108,100,32,48,32,49,32,50,32,57,32,120],[105,110,98,111,120,32,48,32,49,32,50,32,57,32,120],x1,x2]:List (List UInt8))) (by simp) (by omega) hl) rfl rfl rfl rfl ⟨bQ rfl rfl rfl rfl (cJ rfl rfl (aS rfl (aC rfl (aC rfl aG)) trivial)),rfl⟩ (by rintro _ ⟨x,hx,rfl⟩;exact⟨rfl,.inl rfl,fun j hj=>nomatch hj⟩) (aH ⟨rfl,trivial⟩) (fun j hj=>nomatch hj) ?_))
   rintro _ ⟨x,hx,rfl⟩
   refine s1 (rt (cW _ ⟨x,p+1+1,⟨by omega,by omega,?_⟩,rfl⟩ (dQ _ [] [] rfl ?_ rfl rfl)))
   · simp at hx;rcases hx with rfl|rfl|rfl|rfl|rfl|rfl|rfl|rfl|rfl|rfl|rfl|rfl|rfl|rfl<;>first|omega|(simp;done)
   refine qs ?_
   repeat' first|exact qx|apply ai
   all_goals rfl
 refine sk (sq (rE [2] (s1 (ai (by exact⟨by simp,by decide⟩) (yQ 43 43 rfl rfl rfl rfl (cY (robj:=[(0,.box 177 [.d (.sl (aA (l))),.d (.i (p+1))])]) (rl:=[(0,0)]) (bor:=[]) (news:=[]) (aLq (l) (p+1) (([[111,119,110,32],[116,97,107,101,32],[116,97,107,101,32],[104,101,108,100,32],[105,110,98,111,120,32]]:List (List UInt8))) (by simp) (by omega) hl) rfl rfl rfl rfl ⟨bQ rfl rfl rfl rfl (cJ rfl rfl (aS rfl (aC rfl (aC rfl aG)) trivial)),rfl⟩ (by rintro _ ⟨x,hx,rfl⟩;exact⟨rfl,.inl rfl,fun j hj=>nomatch hj⟩) (aH ⟨rfl,trivial⟩) (fun j hj=>nomatch hj) ?_))))))
 rintro _ ⟨x,hx,rfl⟩
 have hxl:=hall x hx
 refine s1 (cY (robj:=[(0,.box 177 [.d (.sl (aA (l))),.d (.i (p+1+1))])]) (rl:=[(0,0)]) (bor:=[]) (news:=[]) (xv l (p+1+1) (by omega) hl) rfl rfl rfl rfl ⟨bQ rfl rfl rfl rfl (aS rfl (aC rfl (aC rfl aG)) trivial),rfl⟩ (by rintro _ ⟨n1,q1,hn1,hq1,rfl⟩;exact⟨rfl,.inl rfl,fun j hj=>nomatch hj⟩) (aH ⟨rfl,trivial⟩) (fun j hj=>nomatch hj) ?_)
 rintro _ ⟨n1,q1,hn1,hq1,rfl⟩
 have hwl:=rP n1
 have hnt:=hn1.2
 refine gW (xp (jV n1 (by omega)) (ai rfl ?_))
 refine ai (by first|trivial|(show _≤9223372036854775807;(try simp only[aVz,aV3,aV2]);omega)) (s1 (rt (cW _ ⟨x++iF n1,q1,⟨by omega,by omega,by simp only[aVz,aV3,aV2];omega⟩,rfl⟩ (dQ _ [] [] rfl ?_ rfl rfl))))
 refine qs ?_
 repeat' first|exact qx|apply ai
 all_goals rfl
theorem xw (l:List dT) (f m:Int) (hl:l.length≤1000000):Sp 198 3 [tD 0 (.sl (bC l)),tI 1 f,tI 2 m] [tI 0 (gM l f m)]:=by
 refine sb Tryz.func198 rfl (sq (rT [0,1,2] (s1 (sq (sq (rT [0,1,2,7] (s1 (bk (SW.loopW (n:=l.length) (fun n q=> ∃i:Nat,n=l.length - i∧i≤l.length∧(∀k,k<i→hP l f m k=false)∧q=[tD 0 (.sl (bC l)),tI 1 f,tI 2 m,tI 7 (i:Nat)]) ?_ ?_)))))))))
 · exact wq (σ':=[tD 0 (.sl (bC l)),tI 1 f,tI 2 m,tI 7 (0:Nat)]) [] [] (⟨0,rfl,aV5 _,fun k h=>absurd h (by omega),rfl⟩) qz
 rintro n s ⟨i,rfl,hi,hk,rfl⟩
 refine sq (sq (rT [0,1,2,7,11] (s4 (cd rfl (fun c11=> ?_) fun c11=> ?_))))
 · have hi2:i<l.length:=by simpa[aK] using c11
   have hg:=gT (l:=l) hi2
   refine sk (sq (bk (sq (rT [0,1,2,7,29] (s2 (ai (by rw[aVy,hg];exact⟨⟨by omega,by rw[aK];omega⟩,rfl⟩) (s1 (ai (by rw[aVy,hg];exact⟨aV0 rfl,rfl⟩) (s3 (y2 (ai (fun h=>(by rw[aVy,hg];exact⟨⟨by omega,by rw[aK];omega⟩,rfl⟩)) (ai rk (y1 (ai (fun h=>(by rw[aVy,hg];exact⟨aV0 rfl,rfl⟩)) (ai rk (y2 (ai pk (cd rfl (fun c29=> ?_) fun c29=> ?_))))))))))))))))))
   · refine sq (rT [6] (s2 (rt (bL rfl (congrArg D.i ?_)))))
     have hs:hP l f m i=true:=by
      have h9:=c29
      rw[aVy,hg] at h9
      exact h9
     exact(lM (aV5 _) (by omega) (fun j _ h=>hk j h) hs).symm
   refine sk (rT [0,1,2,7] (s3 ?_))
   have hs:hP l f m i=false:=by
    have h9:=c29
    rw[aVy,hg] at h9
    exact h9
   refine wq [] [] (⟨l.length - (i+1),by omega,i+1,rfl,by omega,fun k h=>by by_cases e:k=i;exact e▸hs;exact hk k (by omega),rfl⟩) ?_
   repeat' apply ai
   all_goals first|exact qx|exact congrArg D.i (aB (by omega))|exact qz
 have hi3:i=l.length:=by simp[aK] at c11;omega
 refine xt (sq (rT [6] (s1 (rt (bL rfl (congrArg D.i ?_))))))
 exact(lP (fun j _ h=>hk j (by omega))).symm
theorem xx (l:List dT) (a:Int) (ha:0≤a∧a<l.length) (hl:l.length≤100000):Sp 160 2 [tD 0 (.sl (bC l)),tI 1 a] [tO 0 0 (hF l a.toNat).length,oR 0 138 6 (bC (hF l a.toNat))]:=by
 obtain⟨i,rfl⟩:=Int.eq_ofNat_of_zero_le ha.1
 have hw:wrap64 ((i:Int)+1)=((i+1:Nat):Int):=by rw[aB (by omega)];omega
 refine sb Tryz.func160 rfl (sq (rT [0,1] (s1 (sq (rD [4] (ai (by simp) (s2 (ai (by exact⟨by rw[aK];exact⟨by first|(simp;done)|(simp;omega),by first|(simp;done)|(simp;omega),by first|(simp;done)|(simp;omega)⟩,wW _⟩) (ai (by exact⟨by first|trivial|rfl|(simp;done),by first|rfl|(simp[aK];done),by first|exact ke l _ _|(simp;done),by(try simp only[aVz,aV3,aV2,aV4,aV7,aK,jA,jB,jC,jD]);show _*64≤_;omega⟩) (s3 (ai (by rw[hw];exact⟨by rw[aK];exact⟨by first|(simp;done)|(simp;omega),by first|(simp;done)|(simp;omega),by first|(simp;done)|(simp;omega)⟩,wW _⟩) (ai (by exact⟨by first|trivial|rfl|(simp;done),by first|rfl|(simp[aK];done),by first|exact ke l _ _|(simp;done),by(try simp only[hw]);(try simp only[aVz,aV3,aV2,aV4,aV7,aK,jA,jB,jC,jD]);show _*64≤_;omega⟩) (s1 (ai (by kernel_rfl) (rt (dQ _ [(0,5)] [] rfl (fN rfl rfl ?_ rfl (bR rfl ?_ trivial)) rfl rfl))))))))))))))))
 · rw[hw,vK,zD];simp[bC,hF]
 rw[hw,vK,zD];simp[bC,hF,List.map_take,List.map_drop]
theorem xy (l:List dT) (a:Int) (ha:0≤a∧a<l.length) (hl:l.length≤100000):Ab.Spec Tryz.prog 160 2 [(.t 0,.v (Dv (.sl (bC l)))),(.t 1,.v (I a))] [(.t 0,.v (Dv (.sl (bC (hF l a.toNat)))))]:=
 Spec.told (rl:=[]) (bor:=[0]) (xx l a ha hl) (eD rfl rfl rfl (aK _) rfl trivial) rfl rfl
theorem aLr (k:aJ) (hl:k.log.length≤900000):Sp 76 1 [tV 0 (.e (.agg [.d (.i (k).id),.d (.b (k).up),.d (.s (k).log),.d (.i (k).forced),.own 0 k.halves.length])),oR 0 138 6 (bC k.halves)] [tV 0 (.tup [.agg [.d (.i (bB k).1.id),.d (.i (bB k).1.time),.d (.i (bB k).1.next),.d (.sl (aE (bB k).1.held)),.d (.sl (aQ (bB k).1.marks)),.d (.sl (aE (bB k).1.inbox))],.c (.d (.b (bB k).2))]),oR 0 138 6 (bC k.halves)]:=by
 refine sb Tryz.func76 rfl (sq (rT [1,2] (s3 (sq (rT [1,2,4] (s3 (xp (fY k.log (by omega)) (ai rfl ?_))))))))
 refine s5 (sq (rT [2,3] (s3 (xp (xC k.id (cG k.log).1 (nK k.log hl).1 (nK k.log hl).2) (ai rfl ?_)))))
 exact s4 (rt (dQ _ [] [] rfl (aTy rfl (aP6 (aC rfl (aC rfl (aC rfl (aC rfl (aC rfl (aC rfl aG)))))) (aVo rfl aNf)) (bR rfl rfl trivial)) rfl rfl))
theorem rU (a:Int) (f:cI):Sp 154 2 [tI 0 a,tV 1 f.V] [tV 0 ((ba a f).V)]:=by
 exact sb Tryz.func154 rfl (sq (rT [0,3,4] (s2 (sq (rT [4] (s9 (s6 (rt (dQ _ [] [] rfl (dB rfl (aC rfl (aC rfl (aC rfl (aC rfl (aC rfl (aC rfl (aC rfl (aC rfl (aC rfl (aC rfl aG)))))))))) trivial) rfl rfl)))))))))
theorem zq (k:aJ) (f:cI) (hb:k.halves.length≤3) (hb2: ∀x∈k.halves,x.got.length≤14):Sp 158 2 [tV 0 (.e (.agg [.d (.i (k).id),.d (.b (k).up),.d (.s (k).log),.d (.i (k).forced),.own 0 k.halves.length])),(.t 1,.v f.V),oR 0 138 6 (bC k.halves)] [tV 0 (.tup [.agg [.d (.i ((dV k (bY k.halves f).1)).id),.d (.b ((dV k (bY k.halves f).1)).up),.d (.s ((dV k (bY k.halves f).1)).log),.d (.i ((dV k (bY k.halves f).1)).forced),.d (.sl (bC ((dV k (bY k.halves f).1)).halves))],.c (.d (.i (bY k.halves f).2))])]:=by
 have hlt:=wt (f:=f) hb
 have hg14:=aC5 (f:=f) hb2
 refine sb Tryz.func158 rfl (sq (rT [2,3,4] (s4 (sq (wa [tP 2 2,tP 3 3,tP 4 4,oB 2 31 [.d (.i (k).id),.d (.b (k).up),.d (.s (k).log),.d (.i (k).forced),.own 0 k.halves.length],oB 3 63 [.d (.i f.kind),.d (.i f.src),.d (.i f.dst),.d (.i f.frm),.d (.i f.num),.d (.i f.to),.d (.i f.til),.d (.i f.size),.d (.i f.mix),.d (.s f.data)],oB 4 31 [.d (.i 0),.d (.b false),.d (.s []),.d (.i 0),.nil],oR 0 138 6 (bC k.halves)] [] [] qz (rT [2,3,4,6] (s6 (bH (robj:=[(0,.row 138 6 (bC k.halves))]) (rl:=[]) (bor:=[0]) (xw k.halves f.frm f.num (by omega)) rfl rfl rfl rfl ⟨eD rfl rfl rfl (aK _) rfl (cJ rfl rfl (cJ rfl rfl trivial)),rfl⟩ rfl (.inr (fun p hp=>by simp at hp;subst hp;trivial)) (aH ⟨rfl,trivial⟩) (fun j hj=>nomatch hj) ?_))))))))
 refine s1 (SW.midW (fun q=>q=[tP 2 2,tP 3 3,tP 4 4,tI 6 ((dL k.halves f).2:Nat),oB 2 31 [.d (.i (k).id),.d (.b (k).up),.d (.s (k).log),.d (.i (k).forced),.own 50 (dL k.halves f).1.length],oB 3 63 [.d (.i f.kind),.d (.i f.src),.d (.i f.dst),.d (.i f.frm),.d (.i f.num),.d (.i f.to),.d (.i f.til),.d (.i f.size),.d (.i f.mix),.d (.s f.data)],oB 4 31 [.d (.i 0),.d (.b false),.d (.s []),.d (.i 0),.nil],oR 50 138 6 (bC (dL k.halves f).1)]) ?_ ?_)
 · refine sq (rT [2,3,4,6,18] (s2 (cd rfl (fun c18=> ?_) fun c18=> ?_)))
   · have hneg:gM k.halves f.frm f.num<0:=by simpa using c18
     have hput:=cm hneg
     refine SW.midW (fun q=>q=[tP 2 2,tP 3 3,tP 4 4,oB 2 31 [.d (.i (k).id),.d (.b (k).up),.d (.s (k).log),.d (.i (k).forced),.own 50 (gJ k.halves).length],oB 3 63 [.d (.i f.kind),.d (.i f.src),.d (.i f.dst),.d (.i f.frm),.d (.i f.num),.d (.i f.to),.d (.i f.til),.d (.i f.size),.d (.i f.mix),.d (.s f.data)],oB 4 31 [.d (.i 0),.d (.b false),.d (.s []),.d (.i 0),.nil],oR 50 138 6 (bC (gJ k.halves))]) ?_ ?_
     · refine sq (rT [2,3,4,22] (s2 (ai (by exact aK _) (s1 (cd rfl (fun c22=> ?_) fun c22=> ?_)))))
       · have h3:3≤k.halves.length:=by simp[aK] at c22;omega
         have hcut:gJ k.halves=hF k.halves (0:Int).toNat:=by unfold gJ;rw[if_pos h3];rfl
         refine rE [2,3,4] (s2 (yQ 24 0 rfl rfl (aK _) (by rfl) (gW (bH (robj:=[]) (rl:=[(0,25)]) (bor:=[]) (xx k.halves 0 (by omega) (by omega)) rfl rfl rfl rfl ⟨cJ rfl rfl (cJ rfl rfl trivial),rfl⟩ rfl (.inl rfl) (fun p hp=>nomatch hp) (fun j hj=>by(obtain rfl:j=0:=by simpa[kI,cE,iM] using hj);rfl) (s2 ?_)))))
         first
         |(refine wq [(50,25)] [] (rfl) ?_
           repeat' apply ai
           all_goals first|exact qx|(rw[hcut];done)|(rw[hcut];simp[aK];done)|(simp[aK];done)|exact qz)
         |(refine wq [(50,0)] [] (rfl) ?_
           repeat' apply ai
           all_goals first|exact qx|(rw[hcut];done)|(rw[hcut];simp[aK];done)|(simp[aK];done)|exact qz)
       have h3: ¬3≤k.halves.length:=by simp[aK] at c22;omega
       have hcut:gJ k.halves=k.halves:=by unfold gJ;rw[if_neg h3]
       refine sk ?_
       first
       |(refine wq [(50,25)] [] (rfl) ?_
         repeat' apply ai
         all_goals first|exact qx|(rw[hcut];done)|(rw[hcut];simp[aK];done)|(simp[aK];done)|exact qz)
       |(refine wq [(50,0)] [] (rfl) ?_
         repeat' apply ai
         all_goals first|exact qx|(rw[hcut];done)|(rw[hcut];simp[aK];done)|(simp[aK];done)|exact qz)
     rintro s rfl
     have hc2:=li k.halves hb
     refine sq (rT [2,3,4] (s9 (s5 (ai (by exact⟨rfl,aK _,by intro r hr;rw[aWg.1 hr];rfl,by show(_+1)*64≤_;omega⟩) (s2 (rT [2,3,4,6] (s2 (ai (by first|rfl|(simp[aK];done)) (s2 ?_)))))))))
     first
     |(refine wq [] [] (rfl) ?_
       repeat' apply ai
       all_goals first|exact qx|(rw[hput];done)|(rw[hput];rfl)|(rw[hput];simp[aK];done)|(rw[hput];exact oS _ (sE f))|(simp[aK];done)|(rw[hput];show D.i _=D.i (((gJ k.halves).length:Nat):Int);refine congrArg D.i ?_;simp only[aVz,aV3,aV2,aK];rw[aB (by omega)];omega)|(rw[hput];show D.i _=D.i (((gM k.halves f.frm f.num).toNat:Nat):Int);exact congrArg D.i (Int.toNat_of_nonneg (by omega)).symm)|exact qz)
     |(refine wq [(50,0)] [] (rfl) ?_
       repeat' apply ai
       all_goals first|exact qx|(rw[hput];done)|(rw[hput];rfl)|(rw[hput];simp[aK];done)|(rw[hput];exact oS _ (sE f))|(simp[aK];done)|(rw[hput];show D.i _=D.i (((gJ k.halves).length:Nat):Int);refine congrArg D.i ?_;simp only[aVz,aV3,aV2,aK];rw[aB (by omega)];omega)|(rw[hput];show D.i _=D.i (((gM k.halves f.frm f.num).toNat:Nat):Int);exact congrArg D.i (Int.toNat_of_nonneg (by omega)).symm)|exact qz)
   have hneg: ¬gM k.halves f.frm f.num<0:=by simpa using c18
   have hput:=gz hneg
   refine sk ?_
   first
   |(refine wq [] [] (rfl) ?_
     repeat' apply ai
     all_goals first|exact qx|(rw[hput];done)|(rw[hput];rfl)|(rw[hput];simp[aK];done)|(rw[hput];exact oS _ (sE f))|(simp[aK];done)|(rw[hput];show D.i _=D.i (((gJ k.halves).length:Nat):Int);refine congrArg D.i ?_;simp only[aVz,aV3,aV2,aK];rw[aB (by omega)];omega)|(rw[hput];show D.i _=D.i (((gM k.halves f.frm f.num).toNat:Nat):Int);exact congrArg D.i (Int.toNat_of_nonneg (by omega)).symm)|exact qz)
   |(refine wq [(50,0)] [] (rfl) ?_
     repeat' apply ai
     all_goals first|exact qx|(rw[hput];done)|(rw[hput];rfl)|(rw[hput];simp[aK];done)|(rw[hput];exact oS _ (sE f))|(simp[aK];done)|(rw[hput];show D.i _=D.i (((gJ k.halves).length:Nat):Int);refine congrArg D.i ?_;simp only[aVz,aV3,aV2,aK];rw[aB (by omega)];omega)|(rw[hput];show D.i _=D.i (((gM k.halves f.frm f.num).toNat:Nat):Int);exact congrArg D.i (Int.toNat_of_nonneg (by omega)).symm)|exact qz)
 rintro s rfl
 refine sq (rT [2,3,4,6,7] (s3 (ai (by exact⟨aK _,by omega,by omega⟩) (ai (by rw[aVy,gT hlt.1];exact⟨⟨aK _,hlt.1⟩,aV0 rfl,rfl⟩) (s2 (sq (sq (wa [tP 2 2,tP 3 3,tP 4 4,tP 7 7,tI 6 ((dL k.halves f).2:Nat),oB 2 31 [.d (.i (k).id),.d (.b (k).up),.d (.s (k).log),.d (.i (k).forced),.own 50 (dL k.halves f).1.length],oB 3 63 [.d (.i f.kind),.d (.i f.src),.d (.i f.dst),.d (.i f.frm),.d (.i f.num),.d (.i f.to),.d (.i f.til),.d (.i f.size),.d (.i f.mix),.d (.s f.data)],oB 4 31 [.d (.i 0),.d (.b false),.d (.s []),.d (.i 0),.nil],oB 7 138 [.d (.i ((bW k.halves f)).frm),.d (.i ((bW k.halves f)).num),.d (.i ((bW k.halves f)).to),.d (.i ((bW k.halves f)).til),.d (.i ((bW k.halves f)).size),.d (.sl (cC ((bW k.halves f)).got))],oR 50 138 6 (bC (dL k.halves f).1)] [] [] ?_ ?_))))))))
 · repeat' apply ai
   all_goals first|exact qx|(rw[aVy,gT hlt.1];rfl)|rfl|exact qz
 refine rT [2,3,4,6,7,70] (s6 (y4 (y1 (ai pk (s1 (y4 (y1 (ai pk (cd rfl (fun c70=> ?_) fun c70=> ?_)))))))))
 · have hno: ¬qQ (bW k.halves f) f=true:=by intro h;simp only[qQ,aV1,beq_iff_eq] at h;simp[h.1.1,h.1.2,h.2] at c70
   have hadd:=ia hno
   refine sq (rT [4,5] (s3 (rt (rq [] [50] rfl ?_))))
   repeat' apply ai
   all_goals try exact qx
   all_goals(first|with_reducible rfl|(rw[hadd];done)|(rw[hadd];rfl)|exact aK _)
 have hyes:qQ (bW k.halves f) f=true:=by simp at c70;simp[qQ,c70]
 have hadd:=cn hyes
 refine sk (sq (rT [2,3,4,6,7,8] (s2 (sq (sq (rT [2,3,4,6,7,8,9] (s1 (bk (SW.loopW (n:=(bW k.halves f).got.length) (fun m q=> ∃i:Nat,m=(bW k.halves f).got.length - i∧i≤(bW k.halves f).got.length∧q=[tP 2 2,tP 3 3,tP 4 4,tP 7 7,tI 6 ((dL k.halves f).2:Nat),tO 8 72 (iK ((bW k.halves f).got.take (i)) f.mix).length,tI 9 (i:Nat),oB 2 31 [.d (.i (k).id),.d (.b (k).up),.d (.s (k).log),.d (.i (k).forced),.own 50 (dL k.halves f).1.length],oB 3 63 [.d (.i f.kind),.d (.i f.src),.d (.i f.dst),.d (.i f.frm),.d (.i f.num),.d (.i f.to),.d (.i f.til),.d (.i f.size),.d (.i f.mix),.d (.s f.data)],oB 4 31 [.d (.i 0),.d (.b false),.d (.s []),.d (.i 0),.nil],oB 7 138 [.d (.i ((bW k.halves f)).frm),.d (.i ((bW k.halves f)).num),.d (.i ((bW k.halves f)).to),.d (.i ((bW k.halves f)).til),.d (.i ((bW k.halves f)).size),.d (.sl (cC ((bW k.halves f)).got))],oR 50 138 6 (bC (dL k.halves f).1),oR 72 86 2 (cC (iK ((bW k.halves f).got.take (i)) f.mix))]) ?_ ?_)))))))))
 · refine wq (σ':=[tP 2 2,tP 3 3,tP 4 4,tP 7 7,tI 6 ((dL k.halves f).2:Nat),tO 8 72 (iK ((bW k.halves f).got.take (0)) f.mix).length,tI 9 (0:Nat),oB 2 31 [.d (.i (k).id),.d (.b (k).up),.d (.s (k).log),.d (.i (k).forced),.own 50 (dL k.halves f).1.length],oB 3 63 [.d (.i f.kind),.d (.i f.src),.d (.i f.dst),.d (.i f.frm),.d (.i f.num),.d (.i f.to),.d (.i f.til),.d (.i f.size),.d (.i f.mix),.d (.s f.data)],oB 4 31 [.d (.i 0),.d (.b false),.d (.s []),.d (.i 0),.nil],oB 7 138 [.d (.i ((bW k.halves f)).frm),.d (.i ((bW k.halves f)).num),.d (.i ((bW k.halves f)).to),.d (.i ((bW k.halves f)).til),.d (.i ((bW k.halves f)).size),.d (.sl (cC ((bW k.halves f)).got))],oR 50 138 6 (bC (dL k.halves f).1),oR 72 86 2 (cC (iK ((bW k.halves f).got.take (0)) f.mix))]) [] [] (⟨0,rfl,aV5 _,rfl⟩) ?_
   repeat' apply ai
   all_goals first|exact qx|rfl|exact qz
 rintro n s ⟨i,rfl,hi,rfl⟩
 refine sq (sq (rT [2,3,4,6,7,8,9,77] (s5 (cd rfl (fun c77=> ?_) fun c77=> ?_))))
 · have hi2:i< (bW k.halves f).got.length:=by simpa[bI] using c77
   have hg:=lR (l:=(bW k.halves f).got) hi2
   have hts:=fB (z:=gC.zero) hi2
   have hle:=wu ((bW k.halves f).got.take i) f.mix
   rw[aV4] at hle
   refine sk (sq (bk (sq (rD [2,3,4,6,7,8,9,88] (s3 (ai (by rw[aVy,hg];exact⟨⟨by omega,by rw[bI];omega⟩,rfl⟩) (s1 (ai (by rw[aVy,hg];exact⟨aV0 rfl,rfl⟩) (s3 (ai (by kernel_rfl) (cd rfl (fun c88=> ?_) fun c88=> ?_)))))))))))
   · have hlg:=aFl (l:=(bW k.halves f).got.take i) (m:=(bW k.halves f).got.getD i .zero) (n:=f.mix) (by rw[aVy,hg] at c88;exact c88)
     refine rT [2,3,4,6,7,8,9] (s4 (ai (by rw[aVy,hg];exact⟨⟨by omega,by rw[bI];omega⟩,rfl⟩) (ai (by rw[aVy,hg];exact⟨aV0 rfl,rfl⟩) (s1 (ai (by exact⟨rfl,bI _,by intro r hr;rw[aWg.1 hr];rfl,by show(_+1)*24≤_;omega⟩) (s1 (rT [2,3,4,6,7,8,9] (s3 (wq [] [] (⟨(bW k.halves f).got.length - (i+1),by omega,i+1,rfl,by omega,rfl⟩) ?_)))))))))
     repeat' apply ai
     all_goals first|exact qx|exact congrArg D.i (by rw[aB (by omega)];omega)|(rw[hts,hlg];done)|(rw[hts,hlg,aVz];rfl)|(rw[hts,hlg];simp[bI];done)|(rw[hts,hlg,aVy,hg];exact uC _ _)|exact qz
   have hlg:=aHz (l:=(bW k.halves f).got.take i) (m:=(bW k.halves f).got.getD i .zero) (n:=f.mix) (by rw[aVy,hg] at c88;exact c88)
   refine sk (rT [2,3,4,6,7,8,9] (s3 (wq [] [] (⟨(bW k.halves f).got.length - (i+1),by omega,i+1,rfl,by omega,rfl⟩) ?_)))
   repeat' apply ai
   all_goals first|exact qx|exact congrArg D.i (by rw[aB (by omega)];omega)|(rw[hts,hlg];done)|(rw[hts,hlg,aVz];rfl)|(rw[hts,hlg];simp[bI];done)|(rw[hts,hlg,aVy,hg];exact uC _ _)|exact qz
 have hi3:i=(bW k.halves f).got.length:=by simp[bI] at c77;omega
 subst hi3
 clear hi
 have hle:=wu (bW k.halves f).got f.mix
 refine xt (SW.midW (fun q=>q=[tP 2 2,tP 3 3,tP 4 4,tP 7 7,tI 6 ((dL k.halves f).2:Nat),tO 8 60 (rQ (iK (bW k.halves f).got f.mix)).length,oB 2 31 [.d (.i (k).id),.d (.b (k).up),.d (.s (k).log),.d (.i (k).forced),.own 50 (dL k.halves f).1.length],oB 3 63 [.d (.i f.kind),.d (.i f.src),.d (.i f.dst),.d (.i f.frm),.d (.i f.num),.d (.i f.to),.d (.i f.til),.d (.i f.size),.d (.i f.mix),.d (.s f.data)],oB 4 31 [.d (.i 0),.d (.b false),.d (.s []),.d (.i 0),.nil],oB 7 138 [.d (.i ((bW k.halves f)).frm),.d (.i ((bW k.halves f)).num),.d (.i ((bW k.halves f)).to),.d (.i ((bW k.halves f)).til),.d (.i ((bW k.halves f)).size),.d (.sl (cC ((bW k.halves f)).got))],oR 50 138 6 (bC (dL k.halves f).1),oR 60 86 2 (cC (rQ (iK (bW k.halves f).got f.mix)))]) ?_ ?_)
 · refine sq (rT [2,3,4,6,7,8,99] (s1 (ai (by exact bI _) (s1 (cd rfl (fun c99=> ?_) fun c99=> ?_)))))
   · have h14:14≤(iK (bW k.halves f).got f.mix).length:=by rw[aWd] at c99;simp[bI] at c99;omega
     have hcg:rQ (iK (bW k.halves f).got f.mix)=(iK (bW k.halves f).got f.mix).drop 1:=by unfold rQ;rw[if_pos h14]
     refine rE [2,3,4,6,7,8] (s2 (yQ 101 72 rfl rfl (by simp[bI]) (by rfl) (gW (sx dA rfl (by exact⟨⟨by simp,by simp[bI] at *; omega,by simp⟩,uB _⟩) (ai (by rw[aWd];exact⟨trivial,rfl,aE4 _ _ _,by have h9:=Nat.le_trans (show(((cC (iK (bW k.halves f).got f.mix)).take (fM none (cC (iK (bW k.halves f).got f.mix)).length)).drop (eK (some 1))).length≤(cC (iK (bW k.halves f).got f.mix)).length by rw[aV7,aV4];omega) (Nat.le_of_eq (bI _));simp only[aV2];show _*24≤_;omega⟩) (s1 ?_))))))
     first
     |(refine wq [(60,72)] [] (rfl) ?_
       repeat' apply ai
       all_goals first|exact qx|(rw[hcg];done)|(rw[hcg,aWd];done)|(rw[hcg];simp[bI,fM,eK];done)|(simp[bI];done)|(rw[hcg];simp[fM,eK,cC,List.map_drop];done)|(rw[hcg];simp[fM,eK,cC,List.map_drop];rw[List.take_of_length_le (by simp)];done)|exact qz)
     |(refine wq [(60,100)] [] (rfl) ?_
       repeat' apply ai
       all_goals first|exact qx|(rw[hcg];done)|(rw[hcg,aWd];done)|(rw[hcg];simp[bI,fM,eK];done)|(simp[bI];done)|(rw[hcg];simp[fM,eK,cC,List.map_drop];done)|(rw[hcg];simp[fM,eK,cC,List.map_drop];rw[List.take_of_length_le (by simp)];done)|exact qz)
   have h14: ¬14≤(iK (bW k.halves f).got f.mix).length:=by rw[aWd] at c99;simp[bI] at c99;omega
   have hcg:rQ (iK (bW k.halves f).got f.mix)=(iK (bW k.halves f).got f.mix):=by unfold rQ;rw[if_neg h14]
   refine sk ?_
   first
   |(refine wq [(60,72)] [] (rfl) ?_
     repeat' apply ai
     all_goals first|exact qx|(rw[hcg];done)|(rw[hcg,aWd];done)|(rw[hcg];simp[bI,fM,eK];done)|(simp[bI];done)|(rw[hcg];simp[fM,eK,cC,List.map_drop];done)|(rw[hcg];simp[fM,eK,cC,List.map_drop];rw[List.take_of_length_le (by simp)];done)|exact qz)
   |(refine wq [(60,100)] [] (rfl) ?_
     repeat' apply ai
     all_goals first|exact qx|(rw[hcg];done)|(rw[hcg,aWd];done)|(rw[hcg];simp[bI,fM,eK];done)|(simp[bI];done)|(rw[hcg];simp[fM,eK,cC,List.map_drop];done)|(rw[hcg];simp[fM,eK,cC,List.map_drop];rw[List.take_of_length_le (by simp)];done)|exact qz)
 rintro s rfl
 have hcl: (rQ (iK (bW k.halves f).got f.mix)).length≤14:=by unfold rQ;split<;>(try rw[aV7])<;>omega
 refine sq (rT [2,4,6,7] (s7 (ai (by exact⟨rfl,bI _,by intro r hr;rw[aWg.1 hr];rfl,by show(_+1)*24≤_;omega⟩) (s2 (sq (wa [tP 2 2,tP 4 4,tP 7 7,tI 6 ((dL k.halves f).2:Nat),oB 2 31 [.d (.i (k).id),.d (.b (k).up),.d (.s (k).log),.d (.i (k).forced),.own 50 (dL k.halves f).1.length],oB 3 63 [.d (.i f.kind),.d (.i f.src),.d (.i f.dst),.d (.i f.frm),.d (.i f.num),.d (.i f.to),.d (.i f.til),.d (.i f.size),.d (.i f.mix),.d (.s f.data)],oB 4 31 [.d (.i 0),.d (.b false),.d (.s []),.d (.i 0),.nil],oB 7 138 [.d (.i ((uK (bW k.halves f) f)).frm),.d (.i ((uK (bW k.halves f) f)).num),.d (.i ((uK (bW k.halves f) f)).to),.d (.i ((uK (bW k.halves f) f)).til),.d (.i ((uK (bW k.halves f) f)).size),.d (.sl (cC ((uK (bW k.halves f) f)).got))],oR 50 138 6 (bC (dL k.halves f).1)] [] [60] ?_ ?_))))))
 · repeat' apply ai
   all_goals first|exact qx|rfl|(exact congrArg D.sl (uC _ ⟨f.mix,f.data⟩).symm)|(simp[bI];done)|exact qz
 refine rT [2,4,6] (s4 (ai (by exact⟨aK _,by omega,by omega⟩) (ai (by rw[aVy,gT hlt.1];exact⟨aK _,hlt.1,rfl,aV0 rfl⟩) (sq (rT [4,5] (s4 (rt (rq [] [50] rfl ?_))))))))
 repeat' apply ai
 all_goals try exact qx
 all_goals(first|with_reducible rfl|(rw[hadd];done)|(rw[hadd];rfl)|(rw[aVy,hadd];exact congrArg D.sl (aC4 (h:=uK (bW k.halves f) f) hlt.1).symm)|(simp[aK];done))
theorem rx (k:aJ) (f:cI) (hok:aZ k=true) (hu:k.up=true) (hf:dJ f=true) (hkd:f.kind=1):Sp 99 2 [tV 0 (.e (.agg [.d (.i (k).id),.d (.b (k).up),.d (.s (k).log),.d (.i (k).forced),.own 0 k.halves.length])),(.t 1,.v f.V),oR 0 138 6 (bC k.halves)] [tV 0 (.tup [.agg [.d (.i ((dS k f).1).id),.d (.b ((dS k f).1).up),.d (.s ((dS k f).1).log),.d (.i ((dS k f).1).forced),.d (.sl (bC ((dS k f).1).halves))],.c (.d (.sl (mT (dS k f).2)))])]:=by
 have hlg:=fP hok
 have hkb:=sT hok
 have hfh:=ib hf hkd
 have hH:=aI7 (lj hok) hlg.2.2.2.1 hf hkd
 have h6:=fC (gU hok)
 refine sb Tryz.func99 rfl (sq (rT [2,3,4] (s4 (sq (rT [2,3,4,6] (s2 (sq (rT [2,3,4,6,7] (s1 (bH (robj:=[(0,.row 138 6 (bC k.halves))]) (rl:=[(0,0)]) (bor:=[]) (aLr k (by omega)) rfl rfl rfl rfl ⟨dB rfl (aC rfl (aC rfl (aC rfl (aC rfl (bJ rfl rfl rfl aG))))) (bR rfl rfl trivial),rfl⟩ rfl (.inl rfl) (aH ⟨rfl,trivial⟩) (fun _ hj=>nomatch hj) (s6 (sq (sq (rT [2,3,4,6,7,25] (s5 (cd rfl (fun c25=> ?_) fun c25=> ?_))))))))))))))))
 · have hlate:f.til≤(bB k).1.time:=by simpa using c25
   refine sq (rD [4,5] (s2 (xp (rU _ f) (ai rfl ?_))))
   refine s3 (ai (by kernel_rfl) (rt ?_))
   have hr:dS k f=(k,[ba 3 f]):=by rw[dS,if_pos hlate]
   refine rq [] [0,29] rfl ?_
   repeat' apply ai
   all_goals try exact qx
   all_goals(first|with_reducible rfl|(rw[hr];done)|(rw[hr];rfl)|exact aK _|rfl)
 have hlate: ¬f.til≤(bB k).1.time:=by simpa using c25
 refine sk (sq (sq (rT [2,3,4,6,47] (s6 (xp (fU (bB k).1.held f.frm f.num (by have:=h6.1.1;omega)) (ai rfl ?_))))))
 refine s2 (y4 (y2 (xc (fun h=>(nT (bB k).1.marks f.frm f.num (by have:=h6.1.2.1;omega))) (ai rfl (ai rk ?_)))))
 refine y1 (ai pk (cd rfl (fun c47=> ?_) fun c47=> ?_))
 · have hhave:0≤aW (bB k).1.held f.frm f.num∨0≤iT (bB k).1.marks f.frm f.num:=by simpa using c47
   refine sq (rT [2,3,4] (s2 (xp (iL k.log k.forced (by omega)) (ai rfl ?_))))
   refine s2 (sq (rD [4,5] (s2 (xp (rU _ f) (ai rfl ?_)))))
   refine s3 (ai (by kernel_rfl) (rt ?_))
   have hr:dS k f=(lF k,[ba 2 f]):=by rw[dS,if_neg hlate,if_pos hhave]
   refine rq [] [0,55] rfl ?_
   repeat' apply ai
   all_goals try exact qx
   all_goals(first|with_reducible rfl|(rw[hr];done)|(rw[hr];rfl)|exact aK _|rfl)
 have hhave: ¬(0≤aW (bB k).1.held f.frm f.num∨0≤iT (bB k).1.marks f.frm f.num):=by simpa using c47
 refine sk (sq (sq (rD [2,3,4,6,69] (s6 (y2 (xc (fun h=>(pB f.size (by omega))) (ai rfl (ai rk ?_))))))))
 refine y2 (xc (fun h=>(wK _ f.mix)) (ai rfl (ai rk ?_)))
 refine y1 (ai pk (ai (by kernel_rfl) (cd rfl (fun c69=> ?_) fun c69=> ?_)))
 · have hskip:f.frm=k.id∨ ¬mD ((f.size+3) / 4) f.mix=true:=by simpa using c69
   refine sq (rT [4,5] (s4 (rt ?_)))
   have hr:dS k f=(k,[]):=by rw[dS,if_neg hlate,if_neg hhave,if_pos hskip]
   refine rq [] [0,15] rfl ?_
   repeat' apply ai
   all_goals try exact qx
   all_goals(first|with_reducible rfl|(rw[hr];done)|(rw[hr];rfl)|exact aK _|rfl)
 have hskip: ¬(f.frm=k.id∨ ¬mD ((f.size+3) / 4) f.mix=true):=by simpa using c69
 refine sk (sq (rT [2,3,4,6,9] (s2 (bH (robj:=[(0,.row 138 6 (bC k.halves))]) (rl:=[]) (bor:=[]) (zq k f hlg.2.2.2.1 hlg.2.2.2.2.2) rfl rfl rfl rfl ⟨dB rfl (aC rfl (aC rfl (aC rfl (aC rfl (bJ rfl rfl rfl aG))))) (dB rfl (aC rfl (aC rfl (aC rfl (aC rfl (aC rfl (aC rfl (aC rfl (aC rfl (aC rfl (aC rfl aG)))))))))) (bR rfl rfl trivial)),rfl⟩ rfl (.inl rfl) (aH ⟨rfl,trivial⟩) (fun _ hj=>nomatch hj) (s5 (sq (sq (rT [2,3,4,6,9,79] (s2 (cd rfl (fun c79=> ?_) fun c79=> ?_))))))))))
 · have hneg: (bY k.halves f).2<0:=by simpa using c79
   refine sq (rT [4,5] (s4 (rt ?_)))
   have hr:dS k f=(dV k (bY k.halves f).1,[]):=by rw[dS,if_neg hlate,if_neg hhave,if_neg hskip,if_pos hneg]
   refine rq [] [15] rfl ?_
   repeat' apply ai
   all_goals try exact qx
   all_goals(first|with_reducible rfl|(rw[hr];done)|(rw[hr];rfl)|exact aK _|rfl)
 have hge: ¬(bY k.halves f).2<0:=by simpa using c79
 obtain⟨i,hi⟩: ∃i:Nat,(bY k.halves f).2=(i:Int):=⟨(bY k.halves f).2.toNat,by omega⟩
 have hil:i< (bY k.halves f).1.length:=aH1 hi
 have hgi: (bC (dV k (bY k.halves f).1).halves).getD i []=((bY k.halves f).1.getD i .zero).row:=gT hil
 have hr1:dS k f=oE k f (bY k.halves f).1 i:=by rw[dS,if_neg hlate,if_neg hhave,if_neg hskip,if_neg hge,hi];rfl
 have hgl: ((bY k.halves f).1.getD i .zero).got.length≤14:=by have h9:=(vO _).1 (hH.1.1 _ (dH (z:=dT.zero) hil));exact(lE h9.1).2.2.2.2.2
 refine sk (sq (rD [2,3,4,6,9,10,11] (s5 (ai (by rw[hi];exact⟨⟨by omega,by rw[aK];show((i:Nat):Int)< (((bY k.halves f).1.length:Nat):Int);omega⟩,by rw[aVy,hgi];rfl⟩) (s1 (ai (by rw[hi,aVy,hgi];exact⟨aV0 rfl,rfl⟩) (xp (xn f.size ((bY k.halves f).1.getD i .zero).got (by omega)) (ai (by rw[hi,aVy,hgi];rfl) ?_))))))))
 refine s5 (ai (by kernel_rfl) (sq (sq (rT [2,3,4,6,9,10,95] (s2 (cd rfl (fun c95=> ?_) fun c95=> ?_))))))
 · have hno: ¬(dK f.size ((bY k.halves f).1.getD i .zero).got).2=true:=by exact sU c95
   refine sq (rT [4,5] (s4 (rt ?_)))
   have hr:dS k f=(dV k (bY k.halves f).1,[]):=hr1.trans (ll hno)
   refine rq [] [15] rfl ?_
   repeat' apply ai
   all_goals try exact qx
   all_goals(first|with_reducible rfl|(rw[hr];done)|(rw[hr];rfl)|exact aK _|rfl)
 have hyes: (dK f.size ((bY k.halves f).1.getD i .zero).got).2=true:=by exact jY c95
 refine sk (sq (rT [2,3,4,6,9,12] (s9 (s3 (sq (rT [2,3,4,6,12] (s3 (xp (xy (bY k.halves f).1 (i:Nat) (by omega) (by omega)) (ai (by rw[hi];rfl) ?_)))))))))
 refine s2 (sq (rT [2,3,4,6,13] (s1 (xp (jV (eM f (dK f.size ((bY k.halves f).1.getD i .zero).got).1) (by have:=aFo f.size ((bY k.halves f).1.getD i .zero).got;show(dK f.size ((bY k.halves f).1.getD i .zero).got).1.length≤_;omega)) (ai rfl ?_)))))
 refine s1 (sq (sq (rT [2,3,4,6,13,116] (s2 (cd rfl (fun c116=> ?_) fun c116=> ?_)))))
 · have hemp:iF (eM f (dK f.size ((bY k.halves f).1.getD i .zero).got).1)=[]:=by exact beq_iff_eq.1 c116
   refine sq (rT [4,5] (s4 (rt ?_)))
   have hr:dS k f=(dV k (hF (bY k.halves f).1 i),[]):=hr1.trans (eg hyes hemp)
   refine rq [] [15] rfl ?_
   repeat' apply ai
   all_goals try exact qx
   all_goals(first|with_reducible rfl|(rw[hr];done)|(rw[hr];rfl)|exact aK _|rfl)
 have hemp: ¬iF (eM f (dK f.size ((bY k.halves f).1.getD i .zero).got).1)=[]:=by exact beq_eq_false_iff_ne.1 c116
 refine sk (sq (rT [2,3,4,6,14] (s2 (ai (by have:=rP (eM f (dK f.size ((bY k.halves f).1.getD i .zero).got).1);show _≤9223372036854775807;(try simp only[aVz,aV3,aV2]);omega) (xp (mN (dV k (hF (bY k.halves f).1 i)) (fH gD (eM f (dK f.size ((bY k.halves f).1.getD i .zero).got).1)) true (lk hok hu (by have:=xP (bY k.halves f).1 i;omega) (aI6 hH.1 i)) (by have h9:=wH gD (eM f (dK f.size ((bY k.halves f).1.getD i .zero).got).1);have h8:gD.length=4:=rfl;omega)) (ai rfl ?_))))))
 refine s5 (sq (sq (rT [2,3,4,6,127] (s2 (cd rfl (fun c127=> ?_) fun c127=> ?_)))))
 · have hw: ¬(fQ (dV k (hF (bY k.halves f).1 i)) (fH gD (eM f (dK f.size ((bY k.halves f).1.getD i .zero).got).1)) true).2=true:=sU c127
   refine sq (rT [4,5] (s4 (rt ?_)))
   have hr:dS k f=((fQ (dV k (hF (bY k.halves f).1 i)) (fH gD (eM f (dK f.size ((bY k.halves f).1.getD i .zero).got).1)) true).1,[]):=hr1.trans (zP hyes hemp hw)
   refine rq [] [15] rfl ?_
   repeat' apply ai
   all_goals try exact qx
   all_goals(first|with_reducible rfl|(rw[hr];done)|(rw[hr];rfl)|exact aK _|rfl)
 have hw: (fQ (dV k (hF (bY k.halves f).1 i)) (fH gD (eM f (dK f.size ((bY k.halves f).1.getD i .zero).got).1)) true).2=true:=jY c127
 refine sk (sq (rD [4,5] (s2 (xp (rU _ f) (ai rfl ?_)))))
 refine s3 (ai (by kernel_rfl) (rt ?_))
 have hr:dS k f=((fQ (dV k (hF (bY k.halves f).1 i)) (fH gD (eM f (dK f.size ((bY k.halves f).1.getD i .zero).got).1)) true).1,[ba 2 f]):=hr1.trans (lm hyes hemp hw)
 refine rq [] [133] rfl ?_
 repeat' apply ai
 all_goals try exact qx
 all_goals(first|with_reducible rfl|(rw[hr];done)|(rw[hr];rfl)|exact aK _|rfl)
theorem ma (k:aJ) (f:cI) (hl:k.log.length≤140737488355328):Sp 41 2 [tV 0 k.V,tV 1 f.V] [tV 0 (.tup [.agg [.d (.i ((dC k f).1).id),.d (.b ((dC k f).1).up),.d (.s ((dC k f).1).log),.d (.i ((dC k f).1).forced),.d (.sl (bC ((dC k f).1).halves))],.c (.d (.sl (mT (dC k f).2)))])]:=by
 refine sb Tryz.func41 rfl (sq (rT [2,3,4] (s4 (sq (rT [2,3,4,6] (s2 (sq (sq (rT [2,3,4,6,18] (s1 (xp (gX k hl) (ai rfl ?_))))))))))))
 refine s1 (cd rfl (fun c18=> ?_) fun c18=> ?_)
 · have hno: ¬aZ k=true:=sU c18
   refine sq (rT [4,5] (s4 (rt ?_)))
   have hr:dC k f=(.zero,[]):=wv hno
   refine rq [] [15] rfl ?_
   repeat' apply ai
   all_goals try exact qx
   all_goals(first|with_reducible rfl|(rw[hr];done)|(rw[hr];rfl)|exact aK _|rfl)
 have hok:aZ k=true:=jY c18
 have hlg:=fP hok
 have hK:=kY hok
 have h6:=fC (gU hok)
 have hkb:=sT hok
 have hsk:eJ k.log k.forced=true:=(fX hlg.1).2.1
 obtain⟨⟨_,htm,hnx,_⟩,_⟩:=(cH _).1 (gU hok)
 refine sk (sq (rT [2,3,4,6,7] (s1 (bH (robj:=[]) (rl:=[(0,22)]) (bor:=[]) (ij k (⟨by omega,fun x hx=>by have:=hlg.2.2.2.2.2 x hx;omega⟩)) rfl rfl rfl rfl ⟨dB rfl (aC rfl (aC rfl (aC rfl (aC rfl (aC rfl aG))))) trivial,rfl⟩ rfl (.inl rfl) (fun p hp=>nomatch hp) (fun j hj=>by(obtain rfl:j=0:=by simpa[kI,cE,iM] using hj);rfl) (s2 (sq (sq (rT [2,3,4,6,7,37] (s4 (y1 (xc (fun h=>(db f)) (ai rfl (ai rk ?_)))))))))))))
 refine y1 (ai pk (s1 (y4 (y1 (ai pk (cd rfl (fun c37=> ?_) fun c37=> ?_))))))
 · have hnot: ¬(k.up&&dJ f&&f.dst==k.id)=true:=by intro h;simp at h;simp[h.1.1,h.1.2,h.2] at c37
   refine sq (rT [4,5] (s4 (rt ?_)))
   have hr:dC k f=(k,[]):=ww hok hnot
   refine rq [] [22,15] rfl ?_
   repeat' apply ai
   all_goals try exact qx
   all_goals(first|with_reducible rfl|(rw[hr];done)|(rw[hr];rfl)|exact aK _|rfl)
 have hgo: (k.up&&dJ f&&f.dst==k.id)=true:=by simp at c37;simp[c37]
 have hu:k.up=true:=by simp at hgo;exact hgo.1.1
 have hf:dJ f=true:=by simp at hgo;exact hgo.1.2
 refine sk (sq (sq (rT [2,3,4,6,7,42] (s3 (cd rfl (fun c42=> ?_) fun c42=> ?_)))))
 · have hkd:f.kind=1:=by simpa using c42
   have hhh:=qy hok hu hf hkd
   refine sq (rT [4,8,9] (s2 (bH (robj:=[(22,.row 138 6 (bC k.halves))]) (rl:=[(0,22)]) (bor:=[]) (rx k f hok hu hf hkd) rfl rfl rfl rfl ⟨dB rfl (aC rfl (aC rfl (aC rfl (aC rfl (bJ rfl rfl rfl aG))))) (dB rfl (aC rfl (aC rfl (aC rfl (aC rfl (aC rfl (aC rfl (aC rfl (aC rfl (aC rfl (aC rfl aG)))))))))) (bR rfl rfl trivial)),rfl⟩ rfl (.inl rfl) (aH ⟨rfl,trivial⟩) (fun _ hj=>nomatch hj) (s6 (sq (rT [4,5] (s1 (xp (fV (dS k f).1 ⟨by have:=hhh.2;omega,fun x hx=>by have:=aI8 hhh.1 x hx;omega⟩) (ai rfl ?_)))))))))
   refine s3 (rt ?_)
   have hr:dC k f=dS k f:=ic hok hgo hkd
   refine rq [] [] rfl ?_
   repeat' apply ai
   all_goals try exact qx
   all_goals(first|with_reducible rfl|(rw[hr];done)|(rw[hr];rfl)|exact aK _|rfl)
 have hkd: ¬f.kind=1:=by simpa using c42
 have hfs:=lO hf
 refine sk (sq (rT [3,4,6,7,10] (s1 (xp (gV k (by omega)) (ai rfl ?_)))))
 refine s6 (sq (rT [3,4,6,7,10,12] (s6 (xp (fU (bB k).1.held f.frm f.num (by have:=h6.1.1;omega)) (ai rfl ?_)))))
 refine s1 (sq (sq (rD [3,4,6,7,92] (s4 (y2 (ai pk (s1 (y3 (ai (fun h=>(by simp[gb] at h;obtain⟨j,hj,hjl,_⟩:=pR hok (f:=f.frm) (n:=f.num) (by omega);rw[hj,aVy,aT hjl];exact⟨⟨by omega,by rw[aD];omega⟩,rfl⟩)) (ai rk (y1 (ai (fun h=>(by simp[gb] at h;obtain⟨j,hj,hjl,_⟩:=pR hok (f:=f.frm) (n:=f.num) (by omega);rw[hj,aVy,aT hjl];exact⟨aV0 rfl,rfl⟩)) (ai rk (y3 (ai pk (s1 (y3 (ai (fun h=>(by simp[gb] at h;obtain⟨j,hj,hjl,_⟩:=pR hok (f:=f.frm) (n:=f.num) (by omega);rw[hj,aVy,aT hjl];exact⟨⟨by omega,by rw[aD];omega⟩,rfl⟩)) (ai rk (y1 (ai (fun h=>(by simp[gb] at h;obtain⟨j,hj,hjl,_⟩:=pR hok (f:=f.frm) (n:=f.num) (by omega);rw[hj,aVy,aT hjl];exact⟨aV0 rfl,rfl⟩)) (ai rk (y3 (ai pk (ai (by kernel_rfl) (cd rfl (fun c92=> ?_) fun c92=> ?_))))))))))))))))))))))))))
 · have hno: ¬cl k f=true:=aN2 hok c92
   refine sq (rT [4,5] (s4 (rt ?_)))
   have hr:dC k f=(k,[]):=oa hok hgo hkd hno
   refine rq [] [22,15] rfl ?_
   repeat' apply ai
   all_goals try exact qx
   all_goals(first|with_reducible rfl|(rw[hr];done)|(rw[hr];rfl)|exact aK _|rfl)
 have hyes:cl k f=true:=aLf hok c92
 refine sk (sq (wa [tP 3 3,tP 4 4,tP 7 7,tO 6 15 0,oB 2 31 [.d (.i (k).id),.d (.b (k).up),.d (.s (k).log),.d (.i (k).forced),.d (.sl (bC (k).halves))],oB 3 63 [.d (.i f.kind),.d (.i f.src),.d (.i f.dst),.d (.i f.frm),.d (.i f.num),.d (.i f.to),.d (.i f.til),.d (.i f.size),.d (.i f.mix),.d (.s f.data)],oB 4 31 [.d (.i 0),.d (.b false),.d (.s []),.d (.i 0),.nil],oB 7 31 [.d (.i (k).id),.d (.b (k).up),.d (.s (k).log),.d (.i (k).forced),.d (.sl (bC (k).halves))],oR 15 63 10 []] [] [22] ?_ ?_))
 · repeat' apply ai
   all_goals first|exact qx|exact aK _|rfl|exact qz
 have q1:=cL (k:=6) (n:=f.frm.toNat) (by simp;omega)
 have q2:=cL (k:=6) (n:=f.num.toNat) (by simp;omega)
 have q3:=cL (k:=6) (n:=f.til.toNat) (by simp;omega)
 have hll: (nz f).length≤100:=by simp[nz,sB,oI];omega
 refine rD [4,6,13] (s7 (xp (ax f.frm f.num f.til (by have:=hfs;omega)) (ai rfl ?_)))
 refine ai (by show _≤9223372036854775807;(try simp only[aVz,aV3,aV2]);omega) (xp (mN k (nz f) false hok (by omega)) (ai rfl ?_))
 refine s6 (ai (by kernel_rfl) (sq (rT [4,5] (s4 (rt ?_)))))
 have hr:dC k f=((fQ k (nz f) false).1,[]):=wx hok hgo hkd hyes
 refine rq [] [15] rfl ?_
 repeat' apply ai
 all_goals try exact qx
 all_goals(first|with_reducible rfl|(rw[hr];done)|(rw[hr];rfl)|exact aK _|rfl)
theorem mb (k:aJ) (keep:Int) (hl:k.log.length≤140737488355328):Sp 16 2 [tV 0 k.V,tI 1 keep] [tV 0 ((nL k keep).V)]:=by
 refine sb Tryz.func16 rfl (sq (rT [1,2,4] (s2 (sq (sq (rT [1,2,4,7] (s1 (xp (gX k hl) (ai rfl ?_)))))))))
 refine s1 (cd rfl (fun c7=> ?_) fun c7=> ?_)
 · have hno: ¬aZ k=true:=sU c7
   refine sq (rT [4] (s2 (rt ?_)))
   have hr:nL k keep= .zero:=if_neg hno
   refine rq [] [] rfl ?_
   repeat' apply ai
   all_goals try exact qx
   all_goals(first|with_reducible rfl|(rw[hr];done)|(rw[hr];rfl)|rfl)
 have hok:aZ k=true:=jY c7
 have hlg:=fP hok
 refine sk (sq (rD [4] (s5 (xp (ot k.log k.forced keep (by omega)) (ai rfl ?_)))))
 refine s2 (ai (by kernel_rfl) (rt ?_))
 have hr:nL k keep=⟨k.id,false,(jU k.log k.forced keep).1,(jU k.log k.forced keep).2,[]⟩:=if_pos hok
 refine rq [] [] rfl ?_
 repeat' apply ai
 all_goals try exact qx
 all_goals(first|with_reducible rfl|(rw[hr];done)|(rw[hr];rfl)|rfl)
theorem mc (k:aJ) (hl:k.log.length≤140737488355328):Sp 22 1 [tV 0 k.V] [tV 0 ((jX k).V)]:=by
 refine sb Tryz.func22 rfl (sq (rT [1,2] (s2 (sq (sq (rT [1,2,5] (s1 (xp (gX k hl) (ai rfl ?_)))))))))
 refine s1 (cd rfl (fun c5=> ?_) fun c5=> ?_)
 · have hno: ¬aZ k=true:=sU c5
   refine sq (rT [2] (s2 (rt ?_)))
   have hr:jX k= .zero:=if_neg hno
   refine rq [] [] rfl ?_
   repeat' apply ai
   all_goals try exact qx
   all_goals(first|with_reducible rfl|(rw[hr];done)|(rw[hr];rfl)|rfl)
 have hok:aZ k=true:=jY c5
 have hlg:=fP hok
 refine sk (sq (sq (rT [1,2,8] (s2 (cd rfl (fun c8=> ?_) fun c8=> ?_)))))
 · have hu:k.up=true:=c8
   refine sq (rT [2] (s1 (xp (fV k (⟨by omega,fun x hx=>by have:=hlg.2.2.2.2.2 x hx;omega⟩)) (ai rfl ?_))))
   refine s1 (rt ?_)
   have hr:jX k=k:=by rw[jX,if_pos hok];cases k;simp at hu;simp[hu]
   refine rq [] [] rfl ?_
   repeat' apply ai
   all_goals try exact qx
   all_goals(first|with_reducible rfl|(rw[hr];done)|(rw[hr];rfl)|rfl)
 have hu:k.up=false:=c8
 refine sk (sq (rT [2] (s6 (rt ?_))))
 have hr:=aK1 hok hu
 refine rq [] [] rfl ?_
 repeat' apply ai
 all_goals try exact qx
 all_goals(first|with_reducible rfl|(rw[hr];done)|(rw[hr];rfl)|rfl)
theorem il (k:aJ) (hl:k.log.length≤140737488355328):Sp 24 1 [tV 0 k.V] [tV 0 (.tup [.agg [.d (.i ((eI k).1).id),.d (.b ((eI k).1).up),.d (.s ((eI k).1).log),.d (.i ((eI k).1).forced),.d (.sl (bC ((eI k).1).halves))],.c (.d (.b (eI k).2))])]:=by
 refine sb Tryz.func24 rfl (sq (rT [1,2] (s3 (sq (sq (rT [1,2,7] (s1 (xp (gX k hl) (ai rfl ?_)))))))))
 refine s1 (cd rfl (fun c7=> ?_) fun c7=> ?_)
 · have hno: ¬aZ k=true:=sU c7
   refine sq (rT [2,3] (s3 (rt ?_)))
   have hr:eI k=(.zero,false):=if_neg hno
   refine rq [] [] rfl ?_
   repeat' apply ai
   all_goals try exact qx
   all_goals(first|with_reducible rfl|(rw[hr];done)|(rw[hr];rfl)|rfl)
 have hok:aZ k=true:=jY c7
 have hlg:=fP hok
 refine sk (sq (rT [1,2,4] (s1 (xp (fV k (⟨by omega,fun x hx=>by have:=hlg.2.2.2.2.2 x hx;omega⟩)) (ai rfl ?_)))))
 refine s2 (sq (sq (rT [1,2,4,23] (s4 (y4 (y4 (ai pk (cd rfl (fun c23=> ?_) fun c23=> ?_))))))))
 · refine sq (rT [2,3] (s3 (rt ?_)))
   have hr:eI k=(k,false):=by rw[eI,if_pos hok,if_pos c23]
   refine rq [] [] rfl ?_
   repeat' apply ai
   all_goals try exact qx
   all_goals(first|with_reducible rfl|(rw[hr];done)|(rw[hr];rfl)|rfl)
 refine sk (sq (rT [2,4] (s2 (xp (iL k.log k.forced (by omega)) (ai rfl ?_)))))
 refine s2 (sq (rT [2,3] (s3 (rt ?_))))
 have hr:eI k=(lF k,true):=by rw[eI,if_pos hok,if_neg (by rw[c23];decide)]
 refine rq [] [] rfl ?_
 repeat' apply ai
 all_goals try exact qx
 all_goals(first|with_reducible rfl|(rw[hr];done)|(rw[hr];rfl)|rfl)
theorem dc (a:Nat) (l:List cI) (ha:a≤30) (hl:l.length≤1000) (hp: ∀f∈l,FP f):Sp 268 2 [tV 0 (.e (.c (ps 804 4 (a)))),tD 1 (.sl (mT l)),(.o 804,aI 260 4 eY)] [tV 0 (.e (.c (ps 804 4 (fk a l.length)))),(.o 804,aI 260 4 eY)]:=by
 refine sb Tryz.func268 rfl (sq (rT [0,1] (s1 (sq (sq (rT [0,1,5] (s1 (bk (SW.loopW (n:=l.length) (fun m q=> ∃i:Nat,m=l.length - i∧(i≤l.length∧a+i≤30)∧q=[tV 0 (.e (.c (ps 804 4 (a+i)))),tD 1 (.sl (mT l)),tI 5 (i:Nat),(.o 804,aI 260 4 eY)]) ?_ ?_)))))))))
 · exact wq (σ':=[tV 0 (.e (.c (ps 804 4 (a+0)))),tD 1 (.sl (mT l)),tI 5 (0:Nat),(.o 804,aI 260 4 eY)]) [] [] (⟨0,rfl,⟨aV5 _,ha⟩,rfl⟩) qz
 rintro n s ⟨i,rfl,hi,rfl⟩
 refine sq (sq (rT [0,1,5,14] (s5 (y1 (aC9 dA rfl rfl rfl rfl rfl rk (y1 (ai pk (cd rfl (fun c14=> ?_) fun c14=> ?_))))))))
 · have hi2:i<l.length∧a+i<30:=by simp[lH] at c14;omega
   have hg:=wz (l:=l) hi2.1
   have hfp:=hp _ (dH (z:=cI.zero) hi2.1)
   refine sk (sq (bk (rD [0,1,5] (s3 (ai (by rw[aVy,hg];exact⟨⟨by omega,by rw[lH];omega⟩,rfl⟩) (s1 (ai (by rw[aVy,hg];exact⟨aV0 rfl,rfl⟩) (s2 (ai (by rw[aVy,hg];exact⟨⟨by omega,by rw[lH];omega⟩,rfl⟩) (s1 (ai (by rw[aVy,hg];exact⟨aV0 rfl,rfl⟩) (s2 (ai (by rw[aVy,hg];exact⟨⟨by omega,by rw[lH];omega⟩,rfl⟩) (ai (by rw[aVy,hg];exact⟨aV0 rfl,rfl⟩) (bH (robj:=[]) (rl:=[(0,32)]) (bor:=[]) (rR (l.getD i .zero)) rfl rfl rfl rfl ⟨dB rfl (by rw[aVy,hg];exact(aC rfl (aC rfl (aC rfl (aC rfl (aC rfl (aC rfl (aC rfl (aC rfl (aC rfl (aC rfl aG))))))))))) trivial,rfl⟩ rfl (.inl rfl) (fun p hp=>nomatch hp) (fun j hj=>by(obtain rfl:j=0:=by simpa[kI,cE,iM] using hj);rfl) ?_)))))))))))))))
   refine ai (by exact⟨aP _,by rw[bZ]⟩) (s2 (nd (m:=1) (z:=[.i 0,.i 0,.s [],.b false]) dA rfl rfl rfl rfl rfl rfl rfl rfl wy (jh dA (by decide) rfl rfl rfl (fun r hr=> ?_) rfl) ?_ ?_))
   · rw[aWg.1 hr,aVy,hg]
     exact⟨rfl,⟨_,_,_,_⟩,rfl,hfp.1,by have:=yk (l.getD i .zero);show(iZ (aA (pP (l.getD i .zero)))).length≤1000;rw[bZ];omega⟩
   · show(a+i+1)*40≤_;omega
   refine s1 (ai (by kernel_rfl) (rT [0,1,5] (s3 (wq [] [] (⟨l.length - (i+1),by omega,i+1,rfl,by omega,rfl⟩) ?_))))
   repeat' apply ai
   all_goals first|exact qx|exact congrArg D.i (by rw[aB (by omega)];omega)|omega|exact qz
 have hi3:i=l.length∨a+i=30:=by simp[lH] at c14;omega
 refine xt (sq (rT [4] (s2 (rt (dQ _ [] [] rfl (aMv rfl rfl ?_ rfl (aV rfl rfl trivial)) rfl rfl)))))
 unfold fk;omega
theorem xz (a b:Int):Sp 266 2 [tI 0 a,tI 1 b] [tI 0 (co a b)]:=by
 refine sb Tryz.func266 rfl (sq (rT [0,1] (s1 (sq (sq (rT [0,1,7] (s3 (cd rfl (fun c7=> ?_) fun c7=> ?_))))))))
 · refine sq (rT [4] (s2 (rt (bL rfl (congrArg D.i ?_)))))
   simp[co] at *; omega
 refine sk (sq (rT [4] (s2 (rt (bL rfl (congrArg D.i ?_))))))
 simp[co] at *; omega
theorem zr (tm:Int) (ks:List aJ) (ls:List Bool) (a b c:Nat) (e:EvR) (hw:ye ks ls a b c) (htx:e.text.length≤1000) (hat:0≤e.at_∧e.at_≤3):xd 269 2 [tV 0 (.e (.agg [.d (.i (tm)),.own 802 4,.own 803 3,ps 804 4 (a),ps 805 5 (b),ps 806 5 (c)])),(.t 1,.v e.V),oR 802 31 5 (aF ks),oR 803 4 1 (aL ls),(.o 804,aI 260 4 eY),(.o 805,aI 52 5 cO),(.o 806,aI 52 5 cO)] (fun s=> ∃(tm:Int) (ks:List aJ) (ls:List Bool) (a b c:Nat) (ok:Bool),ye ks ls a b c∧s=[tV 0 (.tup [.agg [.d (.i (tm)),.own 802 4,.own 803 3,ps 804 4 (a),ps 805 5 (b),ps 806 5 (c)],.c (.d (.b (ok)))]),oR 802 31 5 (aF ks),oR 803 4 1 (aL ls),(.o 804,aI 260 4 eY),(.o 805,aI 52 5 cO),(.o 806,aI 52 5 cO)]):=by
 obtain⟨i,hi,hil⟩:=wJ hat
 have hks:=hw.at hil
 refine yf Tryz.func269 rfl (sq (rT [2,3,4] (s4 (sq (sq (rT [2,3,4,11] (s2 (gm dA rfl rfl rfl rfl rfl (s1 (cd rfl (fun c11=> ?_) fun c11=> ?_))))))))))
 · refine sq (rT [4,5] (s3 (rt (cW [tV 0 (.tup [.agg [.d (.i (tm)),.own 802 4,.own 803 3,ps 804 4 (a),ps 805 5 (b),ps 806 5 (c)],.c (.d (.b (false)))]),oR 802 31 5 (aF ks),oR 803 4 1 (aL ls),(.o 804,aI 260 4 eY),(.o 805,aI 52 5 cO),(.o 806,aI 52 5 cO)] ⟨tm,ks,ls,a,b,c,false,hw,rfl⟩ (rq [] [] rfl ?_)))))
   repeat' apply ai
   all_goals try exact qx
   all_goals(first|with_reducible rfl|(rw[hi,aVy];exact bM (by rw[hw.four];exact hil))|rfl)
 have hb6:b<6:=by simp at c11;omega
 refine sk (sq (rD [2,3,4,6,7] (s4 (ai (by rw[hi];exact⟨by rw[bE];exact hw.four,by omega,by omega⟩) (ai (by rw[hi,aVy,cD (by rw[hw.four];exact hil)];exact⟨⟨by rw[bE];exact hw.four,hil⟩,aV0 rfl,rfl⟩) (s6 (xp (ow (ks.getD i .zero) e.dst e.til e.text (by have:=hks.1;omega) (by omega)) (ai (by rw[hi,aVy,cD (by rw[hw.four];exact hil)];rfl) ?_))))))))
 refine s6 (ai (by kernel_rfl) (sq (sq (rT [2,3,4,6,7,30] (s2 (cd rfl (fun c30=> ?_) fun c30=> ?_))))))
 · refine sq (rT [4,5] (s3 (rt (cW [tV 0 (.tup [.agg [.d (.i (tm)),.own 802 4,.own 803 3,ps 804 4 (a),ps 805 5 (b),ps 806 5 (c)],.c (.d (.b (false)))]),oR 802 31 5 (aF ks),oR 803 4 1 (aL ls),(.o 804,aI 260 4 eY),(.o 805,aI 52 5 cO),(.o 806,aI 52 5 cO)] ⟨tm,ks,ls,a,b,c,false,hw,rfl⟩ (rq [] [] rfl ?_)))))
   repeat' apply ai
   all_goals try exact qx
   all_goals(first|with_reducible rfl|(rw[hi,aVy];exact bM (by rw[hw.four];exact hil))|rfl)
 refine sk (sq (rT [2,3,4,7] (s5 (ai (by rw[hi];exact⟨by rw[bE];exact hw.four,by omega,by omega⟩) (ai (by rw[hi,aVy,cD (by rw[hw.four];exact hil)];exact⟨by rw[bE];exact hw.four,hil,rfl,aV0 rfl⟩) (sq (wa [tP 2 2,tP 3 3,tP 4 4,tI 7 ((dR (ks.getD i .zero) e.dst e.til e.text).2),oB 2 123 [.d (.i (tm)),.own 802 4,.own 803 3,ps 804 4 (a),ps 805 5 (b),ps 806 5 (c)],oB 3 204 [.d (.i e.kind),.d (.i e.at_),.d (.i e.frm),.d (.i e.num),.d (.i e.word),.d (.i e.mix),.d (.i e.keep),.d (.i e.dst),.d (.i e.til),.d (.s e.text)],oB 4 123 [.d (.i 0),.nil,.nil,.nil,.nil,.nil],oB 6 31 [.d (.i (((dR (ks.getD i .zero) e.dst e.til e.text).1)).id),.d (.b (((dR (ks.getD i .zero) e.dst e.til e.text).1)).up),.d (.s (((dR (ks.getD i .zero) e.dst e.til e.text).1)).log),.d (.i (((dR (ks.getD i .zero) e.dst e.til e.text).1)).forced),.d (.sl (bC (((dR (ks.getD i .zero) e.dst e.til e.text).1)).halves))],oR 802 31 5 (aF (ks.set i (dR (ks.getD i .zero) e.dst e.til e.text).1)),oR 803 4 1 (aL ls),(.o 804,aI 260 4 eY),(.o 805,aI 52 5 cO),(.o 806,aI 52 5 cO)] [] [] ?_ ?_)))))))
 · repeat' apply ai
   all_goals first|exact qx|(rw[hi,aVy];exact bM (k:=(dR (ks.getD i .zero) e.dst e.til e.text).1) (by rw[hw.four];exact hil))|rfl|exact qz
 refine rT [2,4] (s9 (s4 (nd (m:=1) (z:=[.i 0,.i 0,.i 0,.i 0,.s []]) dA rfl rfl rfl rfl rfl rfl rfl rfl aFp (jh dA (by decide) rfl rfl rfl (fun r hr=> ?_) rfl) ?_ ?_)))
 · rw[aWg.1 hr]
   exact⟨rfl,⟨_,_,_,_,_⟩,rfl,by show e.text.length≤1000000;omega⟩
 · have:=hw.rb;show(_+1)*48≤_;omega
 refine s2 (sq (rT [4,5] (s3 (rt (cW [tV 0 (.tup [.agg [.d (.i (tm)),.own 802 4,.own 803 3,ps 804 4 (a),ps 805 5 ((b+1)),ps 806 5 (c)],.c (.d (.b (true)))]),oR 802 31 5 (aF (ks.set i (dR (ks.getD i .zero) e.dst e.til e.text).1)),oR 803 4 1 (aL ls),(.o 804,aI 260 4 eY),(.o 805,aI 52 5 cO),(.o 806,aI 52 5 cO)] ⟨tm,(ks.set i (dR (ks.getD i .zero) e.dst e.til e.text).1),ls,a,(b+1),c,true,((hw.set (aLg hks) i).to hw.ra (by omega) hw.rc),rfl⟩ (rq [] [] rfl ?_))))))
 repeat' apply ai
 all_goals try exact qx
 all_goals(first|with_reducible rfl|(rw[hi,aVy];exact bM (by rw[hw.four];exact hil))|rfl)
theorem pb (tm:Int) (ks:List aJ) (ls:List Bool) (a b c:Nat) (e:EvR) (hw:ye ks ls a b c) (htx:e.text.length≤1000) (hat:0≤e.at_∧e.at_≤3):xd 259 2 [tV 0 (.e (.agg [.d (.i (tm)),.own 802 4,.own 803 3,ps 804 4 (a),ps 805 5 (b),ps 806 5 (c)])),(.t 1,.v e.V),oR 802 31 5 (aF ks),oR 803 4 1 (aL ls),(.o 804,aI 260 4 eY),(.o 805,aI 52 5 cO),(.o 806,aI 52 5 cO)] (fun s=> ∃(tm:Int) (ks:List aJ) (ls:List Bool) (a b c:Nat) (ok:Bool),ye ks ls a b c∧s=[tV 0 (.tup [.agg [.d (.i (tm)),.own 802 4,.own 803 3,ps 804 4 (a),ps 805 5 (b),ps 806 5 (c)],.c (.d (.b (ok)))]),oR 802 31 5 (aF ks),oR 803 4 1 (aL ls),(.o 804,aI 260 4 eY),(.o 805,aI 52 5 cO),(.o 806,aI 52 5 cO)]):=by
 obtain⟨i,hi,hil⟩:=wJ hat
 have hks:=hw.at hil
 refine yf Tryz.func259 rfl (sq (rT [2,3,4] (s4 (sq (rT [2,3,4,6] (s4 (ai (by rw[hi];exact⟨by rw[bE];exact hw.four,by omega,by omega⟩) (ai (by rw[hi,aVy,cD (by rw[hw.four];exact hil)];exact⟨⟨by rw[bE];exact hw.four,hil⟩,aV0 rfl,rfl⟩) (s2 (sq (wa [tP 2 2,tP 3 3,tP 4 4,tP 6 6,oB 2 123 [.d (.i (tm)),.own 802 4,.own 803 3,ps 804 4 (a),ps 805 5 (b),ps 806 5 (c)],oB 3 204 [.d (.i e.kind),.d (.i e.at_),.d (.i e.frm),.d (.i e.num),.d (.i e.word),.d (.i e.mix),.d (.i e.keep),.d (.i e.dst),.d (.i e.til),.d (.s e.text)],oB 4 123 [.d (.i 0),.nil,.nil,.nil,.nil,.nil],oB 6 31 [.d (.i ((ks.getD i .zero)).id),.d (.b ((ks.getD i .zero)).up),.d (.s ((ks.getD i .zero)).log),.d (.i ((ks.getD i .zero)).forced),.d (.sl (bC ((ks.getD i .zero)).halves))],oR 802 31 5 (aF ks),oR 803 4 1 (aL ls),(.o 804,aI 260 4 eY),(.o 805,aI 52 5 cO),(.o 806,aI 52 5 cO)] [] [] ?_ ?_)))))))))))
 · repeat' apply ai
   all_goals first|exact qx|(rw[hi,aVy,cD (by rw[hw.four];exact hil)];rfl)|exact qz
 refine rT [2,3,4,6,7] (s1 (SW.midW (fun q=> ∃(ks2:List aJ) (ok2:Bool),ye ks2 ls a b c∧q=[tP 2 2,tP 4 4,tB 7 ok2,oB 2 123 [.d (.i (tm)),.own 802 4,.own 803 3,ps 804 4 (a),ps 805 5 (b),ps 806 5 (c)],oB 3 204 [.d (.i e.kind),.d (.i e.at_),.d (.i e.frm),.d (.i e.num),.d (.i e.word),.d (.i e.mix),.d (.i e.keep),.d (.i e.dst),.d (.i e.til),.d (.s e.text)],oB 4 123 [.d (.i 0),.nil,.nil,.nil,.nil,.nil],oR 802 31 5 (aF ks2),oR 803 4 1 (aL ls),(.o 804,aI 260 4 eY),(.o 805,aI 52 5 cO),(.o 806,aI 52 5 cO)]) ?_ ?_))
 · refine sq (rT [2,3,4,6,7,20] (s2 (bk (sq (rT [2,3,4,6,7,20,21] (s2 (cd rfl (fun c21=> ?_) fun c21=> ?_)))))))
   · refine sq (rE [4,5] (s2 (cY (robj:=[(802,.row 31 5 (aF ks)),(803,.row 4 1 (aL ls)),(804,aI 260 4 eY),(805,aI 52 5 cO),(806,aI 52 5 cO)]) (rl:=[]) (bor:=[]) (news:=[]) (zr tm ks ls a b c e hw htx hat) rfl rfl rfl rfl ⟨dB rfl (aC rfl (bJ rfl rfl rfl (bJ rfl rfl rfl (bF rfl rfl rfl (bF rfl rfl rfl (bF rfl rfl rfl aG)))))) (dB rfl (aC rfl (aC rfl (aC rfl (aC rfl (aC rfl (aC rfl (aC rfl (aC rfl (aC rfl (aC rfl aG)))))))))) (bR rfl rfl (bR rfl rfl (aV rfl rfl (aV rfl rfl (aV rfl rfl trivial)))))),rfl⟩ (by rintro _ ⟨tm2,ks2,ls2,a2,b2,c2,ok2,hw2,rfl⟩;exact⟨rfl,.inl rfl,fun j hj=>nomatch hj⟩) (aH ⟨rfl,rfl,rfl,rfl,rfl,trivial⟩) (fun j hj=>nomatch hj) ?_)))
     rintro _ ⟨tm2,ks2,ls2,a2,b2,c2,ok2,hw2,rfl⟩
     refine s4 (rt (cW [tV 0 (.tup [.agg [.d (.i (tm2)),.own 802 4,.own 803 3,ps 804 4 (a2),ps 805 5 (b2),ps 806 5 (c2)],.c (.d (.b (ok2)))]),oR 802 31 5 (aF ks2),oR 803 4 1 (aL ls2),(.o 804,aI 260 4 eY),(.o 805,aI 52 5 cO),(.o 806,aI 52 5 cO)] ⟨tm2,ks2,ls2,a2,b2,c2,ok2,hw2,rfl⟩ (rq [] [] rfl ?_)))
     repeat' apply ai
     all_goals try exact qx
     all_goals(first|with_reducible rfl|(rw[hi,aVy];exact bM (by rw[hw.four];exact hil))|rfl)
   refine sq (rT [2,3,4,6,7,20,28] (s2 (cd rfl (fun c28=> ?_) fun c28=> ?_)))
   · refine rD [2,4,7] (s5 (xp (ly (ks.getD i .zero) (by have:=hks.1;omega)) (ai rfl ?_)))
     refine s3 (ai (by rw[hi];exact⟨by rw[bE];exact hw.four,by omega,by omega⟩) (ai (by rw[hi,aVy,cD (by rw[hw.four];exact hil)];exact⟨by rw[bE];exact hw.four,hil,rfl,aV0 rfl⟩) (s1 (ai (by kernel_rfl) ?_))))
     first
     |(refine wq [] [] (⟨(ks.set i (dU (ks.getD i .zero)).1),(dU (ks.getD i .zero)).2,(hw.set (zR hks) i),rfl⟩) ?_
       repeat' apply ai
       all_goals try exact qx
       all_goals(first|with_reducible rfl|(rw[hi,aVy];exact bM (by rw[hw.four];exact hil))|rfl))
     |(refine wq [] [] (⟨(ks.set i (eC (ks.getD i .zero)).1),(eC (ks.getD i .zero)).2,(hw.set (zS hks) i),rfl⟩) ?_
       repeat' apply ai
       all_goals try exact qx
       all_goals(first|with_reducible rfl|(rw[hi,aVy];exact bM (by rw[hw.four];exact hil))|rfl))
     |(refine wq [] [] (⟨(ks.set i (eI (ks.getD i .zero)).1),(eI (ks.getD i .zero)).2,(hw.set (wI hks) i),rfl⟩) ?_
       repeat' apply ai
       all_goals try exact qx
       all_goals(first|with_reducible rfl|(rw[hi,aVy];exact bM (by rw[hw.four];exact hil))|rfl))
     |(refine wq [] [] (⟨ks,false,hw,rfl⟩) ?_
       repeat' apply ai
       all_goals try exact qx
       all_goals(first|with_reducible rfl|(rw[hi,aVy];exact bM (by rw[hw.four];exact hil))|rfl))
   refine sq (rT [2,3,4,6,7,20,40] (s2 (cd rfl (fun c40=> ?_) fun c40=> ?_)))
   · refine sq (rT [2,4,8,9] (s7 (xp (xX (ks.getD i .zero) e.frm e.num e.mix (by have:=hks.1;omega)) (ai rfl ?_))))
     refine s6 (sq (sq (rT [2,4,8,9,53] (s1 (cd rfl (fun c53=> ?_) fun c53=> ?_)))))
     · refine rE [2,4,9] (s4 (yQ 57 57 rfl rfl rfl (by rfl) (gW (bH (robj:=[(804,aI 260 4 eY)]) (rl:=[]) (bor:=[]) (dc a [(aU (ks.getD i .zero) e.frm e.num e.mix).1] hw.ra (by simp) (fun f hf=>by rw[aWg.1 hf];exact aT2 c53)) rfl rfl rfl rfl ⟨aMv rfl rfl rfl rfl (cJ rfl rfl (aV rfl rfl trivial)),rfl⟩ rfl (.inl rfl) (aH ⟨rfl,trivial⟩) (fun j hj=>nomatch hj) (s2 (sq (rT [4,5] (s4 (rt ?_)))))))))
       first
       |(refine cW [tV 0 (.tup [.agg [.d (.i (tm)),.own 802 4,.own 803 3,ps 804 4 ((fk a 1)),ps 805 5 (b),ps 806 5 (c)],.c (.d (.b ((aU (ks.getD i .zero) e.frm e.num e.mix).2)))]),oR 802 31 5 (aF ks),oR 803 4 1 (aL ls),(.o 804,aI 260 4 eY),(.o 805,aI 52 5 cO),(.o 806,aI 52 5 cO)] ⟨tm,ks,ls,(fk a 1),b,c,(aU (ks.getD i .zero) e.frm e.num e.mix).2,(hw.to (xa hw.ra) hw.rb hw.rc),rfl⟩ (rq [] [] rfl ?_)
         repeat' apply ai
         all_goals try exact qx
         all_goals(first|with_reducible rfl|(rw[hi,aVy];exact bM (by rw[hw.four];exact hil))|rfl))
       |(refine cW [tV 0 (.tup [.agg [.d (.i (tm)),.own 802 4,.own 803 3,ps 804 4 (a),ps 805 5 (b),ps 806 5 (c)],.c (.d (.b ((aU (ks.getD i .zero) e.frm e.num e.mix).2)))]),oR 802 31 5 (aF ks),oR 803 4 1 (aL ls),(.o 804,aI 260 4 eY),(.o 805,aI 52 5 cO),(.o 806,aI 52 5 cO)] ⟨tm,ks,ls,a,b,c,(aU (ks.getD i .zero) e.frm e.num e.mix).2,hw,rfl⟩ (rq [] [] rfl ?_)
         repeat' apply ai
         all_goals try exact qx
         all_goals(first|with_reducible rfl|(rw[hi,aVy];exact bM (by rw[hw.four];exact hil))|rfl))
     refine sk (sq (rT [4,5] (s4 (rt ?_))))
     first
     |(refine cW [tV 0 (.tup [.agg [.d (.i (tm)),.own 802 4,.own 803 3,ps 804 4 ((fk a 1)),ps 805 5 (b),ps 806 5 (c)],.c (.d (.b ((aU (ks.getD i .zero) e.frm e.num e.mix).2)))]),oR 802 31 5 (aF ks),oR 803 4 1 (aL ls),(.o 804,aI 260 4 eY),(.o 805,aI 52 5 cO),(.o 806,aI 52 5 cO)] ⟨tm,ks,ls,(fk a 1),b,c,(aU (ks.getD i .zero) e.frm e.num e.mix).2,(hw.to (xa hw.ra) hw.rb hw.rc),rfl⟩ (rq [] [] rfl ?_)
       repeat' apply ai
       all_goals try exact qx
       all_goals(first|with_reducible rfl|(rw[hi,aVy];exact bM (by rw[hw.four];exact hil))|rfl))
     |(refine cW [tV 0 (.tup [.agg [.d (.i (tm)),.own 802 4,.own 803 3,ps 804 4 (a),ps 805 5 (b),ps 806 5 (c)],.c (.d (.b ((aU (ks.getD i .zero) e.frm e.num e.mix).2)))]),oR 802 31 5 (aF ks),oR 803 4 1 (aL ls),(.o 804,aI 260 4 eY),(.o 805,aI 52 5 cO),(.o 806,aI 52 5 cO)] ⟨tm,ks,ls,a,b,c,(aU (ks.getD i .zero) e.frm e.num e.mix).2,hw,rfl⟩ (rq [] [] rfl ?_)
       repeat' apply ai
       all_goals try exact qx
       all_goals(first|with_reducible rfl|(rw[hi,aVy];exact bM (by rw[hw.four];exact hil))|rfl))
   refine sq (rT [2,3,4,6,7,20,62] (s2 (cd rfl (fun c62=> ?_) fun c62=> ?_)))
   · refine sq (rD [2,4,6] (s7 (xp (mb (ks.getD i .zero) e.keep (by have:=hks.1;omega)) (ai rfl ?_))))
     refine ai (by rw[hi];exact⟨by rw[bE];exact hw.four,by omega,by omega⟩) (ai (by rw[hi,aVy,cD (by rw[hw.four];exact hil)];exact⟨by rw[bE];exact hw.four,hil,rfl,aV0 rfl⟩) (ai (by kernel_rfl) (sq (rD [4,5] (s5 (ai (by kernel_rfl) (rt (cW [tV 0 (.tup [.agg [.d (.i (tm)),.own 802 4,.own 803 3,ps 804 4 (a),ps 805 5 (b),ps 806 5 (c)],.c (.d (.b ((ks.getD i .zero).up)))]),oR 802 31 5 (aF (ks.set i (nL (ks.getD i .zero) e.keep))),oR 803 4 1 (aL ls),(.o 804,aI 260 4 eY),(.o 805,aI 52 5 cO),(.o 806,aI 52 5 cO)] ⟨tm,(ks.set i (nL (ks.getD i .zero) e.keep)),ls,a,b,c,(ks.getD i .zero).up,(hw.set (aH3 hks) i),rfl⟩ (rq [] [] rfl ?_)))))))))
     repeat' apply ai
     all_goals try exact qx
     all_goals(first|with_reducible rfl|(rw[hi,aVy];exact bM (k:=(nL (ks.getD i .zero) e.keep)) (by rw[hw.four];exact hil))|rfl)
   refine sq (rT [2,3,4,6,7,20,76] (s2 (cd rfl (fun c76=> ?_) fun c76=> ?_)))
   · refine sq (rD [2,4,6] (s5 (xp (mc (ks.getD i .zero) (by have:=hks.1;omega)) (ai rfl ?_))))
     refine ai (by rw[hi];exact⟨by rw[bE];exact hw.four,by omega,by omega⟩) (ai (by rw[hi,aVy,cD (by rw[hw.four];exact hil)];exact⟨by rw[bE];exact hw.four,hil,rfl,aV0 rfl⟩) (ai (by kernel_rfl) (sq (rD [4,5] (s6 (ai (by kernel_rfl) (rt (cW [tV 0 (.tup [.agg [.d (.i (tm)),.own 802 4,.own 803 3,ps 804 4 (a),ps 805 5 (b),ps 806 5 (c)],.c (.d (.b ((!(ks.getD i .zero).up))))]),oR 802 31 5 (aF (ks.set i (jX (ks.getD i .zero)))),oR 803 4 1 (aL ls),(.o 804,aI 260 4 eY),(.o 805,aI 52 5 cO),(.o 806,aI 52 5 cO)] ⟨tm,(ks.set i (jX (ks.getD i .zero))),ls,a,b,c,(!(ks.getD i .zero).up),(hw.set (aH4 hks) i),rfl⟩ (rq [] [] rfl ?_)))))))))
     repeat' apply ai
     all_goals try exact qx
     all_goals(first|with_reducible rfl|(rw[hi,aVy];exact bM (k:=(jX (ks.getD i .zero))) (by rw[hw.four];exact hil))|rfl)
   refine sq (rT [2,3,4,6,7,20,89] (s2 (cd rfl (fun c89=> ?_) fun c89=> ?_)))
   · refine sq (rT [2,3,4,10,11,12] (s5 (xp (oz (ks.getD i .zero) e.frm e.num (by have:=hks.1;omega)) (ai rfl ?_))))
     refine s9 (sq (sq (wa [tP 2 2,tP 3 3,tP 4 4,tP 10 10,tP 11 11,tB 12 ((cP (ks.getD i .zero) e.frm e.num).2.2),oB 2 123 [.d (.i (tm)),.own 802 4,.own 803 3,ps 804 4 (a),ps 805 5 (b),ps 806 5 (c)],oB 3 204 [.d (.i e.kind),.d (.i e.at_),.d (.i e.frm),.d (.i e.num),.d (.i e.word),.d (.i e.mix),.d (.i e.keep),.d (.i e.dst),.d (.i e.til),.d (.s e.text)],oB 4 123 [.d (.i 0),.nil,.nil,.nil,.nil,.nil],oB 10 31 [.d (.i (((cP (ks.getD i .zero) e.frm e.num).1)).id),.d (.b (((cP (ks.getD i .zero) e.frm e.num).1)).up),.d (.s (((cP (ks.getD i .zero) e.frm e.num).1)).log),.d (.i (((cP (ks.getD i .zero) e.frm e.num).1)).forced),.d (.sl (bC (((cP (ks.getD i .zero) e.frm e.num).1)).halves))],oB 11 52 [.d (.i (cP (ks.getD i .zero) e.frm e.num).2.1.frm),.d (.i (cP (ks.getD i .zero) e.frm e.num).2.1.num),.d (.i (cP (ks.getD i .zero) e.frm e.num).2.1.to),.d (.i (cP (ks.getD i .zero) e.frm e.num).2.1.til),.d (.s (cP (ks.getD i .zero) e.frm e.num).2.1.text)],oR 802 31 5 (aF ks),oR 803 4 1 (aL ls),(.o 804,aI 260 4 eY),(.o 805,aI 52 5 cO),(.o 806,aI 52 5 cO)] [] [] qz (rT [2,3,4,10,11,107] (s2 (y2 (aC9 dA rfl rfl rfl rfl rfl rk ?_)))))))
     refine y1 (ai pk (cd rfl (fun c107=> ?_) fun c107=> ?_))
     · have hc6:c<6:=by simp at c107;omega
       refine sq (rT [2,4,11] (s5 (ai (by rw[hi];exact⟨by rw[bE];exact hw.four,by omega,by omega⟩) (ai (by rw[hi,aVy,cD (by rw[hw.four];exact hil)];exact⟨by rw[bE];exact hw.four,hil,rfl,aV0 rfl⟩) (sq (wa [tP 2 2,tP 4 4,tP 11 11,oB 2 123 [.d (.i (tm)),.own 802 4,.own 803 3,ps 804 4 (a),ps 805 5 (b),ps 806 5 (c)],oB 3 204 [.d (.i e.kind),.d (.i e.at_),.d (.i e.frm),.d (.i e.num),.d (.i e.word),.d (.i e.mix),.d (.i e.keep),.d (.i e.dst),.d (.i e.til),.d (.s e.text)],oB 4 123 [.d (.i 0),.nil,.nil,.nil,.nil,.nil],oB 11 52 [.d (.i (cP (ks.getD i .zero) e.frm e.num).2.1.frm),.d (.i (cP (ks.getD i .zero) e.frm e.num).2.1.num),.d (.i (cP (ks.getD i .zero) e.frm e.num).2.1.to),.d (.i (cP (ks.getD i .zero) e.frm e.num).2.1.til),.d (.s (cP (ks.getD i .zero) e.frm e.num).2.1.text)],oR 802 31 5 (aF (ks.set i (cP (ks.getD i .zero) e.frm e.num).1)),oR 803 4 1 (aL ls),(.o 804,aI 260 4 eY),(.o 805,aI 52 5 cO),(.o 806,aI 52 5 cO)] [] [] ?_ ?_))))))
       · repeat' apply ai
         all_goals first|exact qx|(rw[hi,aVy];exact bM (k:=(cP (ks.getD i .zero) e.frm e.num).1) (by rw[hw.four];exact hil))|rfl|exact qz
       refine rT [2,4] (s4 (nd (m:=1) (z:=[.i 0,.i 0,.i 0,.i 0,.s []]) dA rfl rfl rfl rfl rfl rfl rfl rfl aFp (jh dA (by decide) rfl rfl rfl (fun r hr=> ?_) rfl) ?_ ?_))
       · rw[aWg.1 hr]
         exact⟨rfl,⟨_,_,_,_,_⟩,rfl,by exact aN4 hks⟩
       · have:=hw.rc;show(_+1)*48≤_;omega
       refine s2 (sq (rT [4,5] (s3 (rt (cW [tV 0 (.tup [.agg [.d (.i (tm)),.own 802 4,.own 803 3,ps 804 4 (a),ps 805 5 (b),ps 806 5 ((c+1))],.c (.d (.b (true)))]),oR 802 31 5 (aF (ks.set i (cP (ks.getD i .zero) e.frm e.num).1)),oR 803 4 1 (aL ls),(.o 804,aI 260 4 eY),(.o 805,aI 52 5 cO),(.o 806,aI 52 5 cO)] ⟨tm,(ks.set i (cP (ks.getD i .zero) e.frm e.num).1),ls,a,b,(c+1),true,((hw.set (aLh hks) i).to hw.ra hw.rb (by omega)),rfl⟩ (rq [] [] rfl ?_))))))
       repeat' apply ai
       all_goals try exact qx
       all_goals(first|with_reducible rfl|(rw[hi,aVy];exact bM (by rw[hw.four];exact hil))|rfl)
     refine sk (sq (rT [4,5] (s3 (rt (cW [tV 0 (.tup [.agg [.d (.i (tm)),.own 802 4,.own 803 3,ps 804 4 (a),ps 805 5 (b),ps 806 5 (c)],.c (.d (.b (false)))]),oR 802 31 5 (aF ks),oR 803 4 1 (aL ls),(.o 804,aI 260 4 eY),(.o 805,aI 52 5 cO),(.o 806,aI 52 5 cO)] ⟨tm,ks,ls,a,b,c,false,hw,rfl⟩ (rq [] [] rfl ?_))))))
     repeat' apply ai
     all_goals try exact qx
     all_goals(first|with_reducible rfl|(rw[hi,aVy];exact bM (by rw[hw.four];exact hil))|rfl)
   refine sq (rT [2,3,4,6,7,20,122] (s2 (cd rfl (fun c122=> ?_) fun c122=> ?_)))
   · refine rD [2,4,7] (s5 (xp (lz (ks.getD i .zero) (by have:=hks.1;omega)) (ai rfl ?_)))
     refine s3 (ai (by rw[hi];exact⟨by rw[bE];exact hw.four,by omega,by omega⟩) (ai (by rw[hi,aVy,cD (by rw[hw.four];exact hil)];exact⟨by rw[bE];exact hw.four,hil,rfl,aV0 rfl⟩) (s1 (ai (by kernel_rfl) ?_))))
     first
     |(refine wq [] [] (⟨(ks.set i (dU (ks.getD i .zero)).1),(dU (ks.getD i .zero)).2,(hw.set (zR hks) i),rfl⟩) ?_
       repeat' apply ai
       all_goals try exact qx
       all_goals(first|with_reducible rfl|(rw[hi,aVy];exact bM (by rw[hw.four];exact hil))|rfl))
     |(refine wq [] [] (⟨(ks.set i (eC (ks.getD i .zero)).1),(eC (ks.getD i .zero)).2,(hw.set (zS hks) i),rfl⟩) ?_
       repeat' apply ai
       all_goals try exact qx
       all_goals(first|with_reducible rfl|(rw[hi,aVy];exact bM (by rw[hw.four];exact hil))|rfl))
     |(refine wq [] [] (⟨(ks.set i (eI (ks.getD i .zero)).1),(eI (ks.getD i .zero)).2,(hw.set (wI hks) i),rfl⟩) ?_
       repeat' apply ai
       all_goals try exact qx
       all_goals(first|with_reducible rfl|(rw[hi,aVy];exact bM (by rw[hw.four];exact hil))|rfl))
     |(refine wq [] [] (⟨ks,false,hw,rfl⟩) ?_
       repeat' apply ai
       all_goals try exact qx
       all_goals(first|with_reducible rfl|(rw[hi,aVy];exact bM (by rw[hw.four];exact hil))|rfl))
   refine sq (rT [2,3,4,6,7,134] (s2 (cd rfl (fun c134=> ?_) fun c134=> ?_)))
   · refine rD [2,4,7] (s5 (xp (il (ks.getD i .zero) (by have:=hks.1;omega)) (ai rfl ?_)))
     refine s3 (ai (by rw[hi];exact⟨by rw[bE];exact hw.four,by omega,by omega⟩) (ai (by rw[hi,aVy,cD (by rw[hw.four];exact hil)];exact⟨by rw[bE];exact hw.four,hil,rfl,aV0 rfl⟩) (s1 (ai (by kernel_rfl) ?_))))
     first
     |(refine wq [] [] (⟨(ks.set i (dU (ks.getD i .zero)).1),(dU (ks.getD i .zero)).2,(hw.set (zR hks) i),rfl⟩) ?_
       repeat' apply ai
       all_goals try exact qx
       all_goals(first|with_reducible rfl|(rw[hi,aVy];exact bM (by rw[hw.four];exact hil))|rfl))
     |(refine wq [] [] (⟨(ks.set i (eC (ks.getD i .zero)).1),(eC (ks.getD i .zero)).2,(hw.set (zS hks) i),rfl⟩) ?_
       repeat' apply ai
       all_goals try exact qx
       all_goals(first|with_reducible rfl|(rw[hi,aVy];exact bM (by rw[hw.four];exact hil))|rfl))
     |(refine wq [] [] (⟨(ks.set i (eI (ks.getD i .zero)).1),(eI (ks.getD i .zero)).2,(hw.set (wI hks) i),rfl⟩) ?_
       repeat' apply ai
       all_goals try exact qx
       all_goals(first|with_reducible rfl|(rw[hi,aVy];exact bM (by rw[hw.four];exact hil))|rfl))
     |(refine wq [] [] (⟨ks,false,hw,rfl⟩) ?_
       repeat' apply ai
       all_goals try exact qx
       all_goals(first|with_reducible rfl|(rw[hi,aVy];exact bM (by rw[hw.four];exact hil))|rfl))
   refine sk ?_
   first
   |(refine wq [] [] (⟨(ks.set i (dU (ks.getD i .zero)).1),(dU (ks.getD i .zero)).2,(hw.set (zR hks) i),rfl⟩) ?_
     repeat' apply ai
     all_goals try exact qx
     all_goals(first|with_reducible rfl|(rw[hi,aVy];exact bM (by rw[hw.four];exact hil))|rfl))
   |(refine wq [] [] (⟨(ks.set i (eC (ks.getD i .zero)).1),(eC (ks.getD i .zero)).2,(hw.set (zS hks) i),rfl⟩) ?_
     repeat' apply ai
     all_goals try exact qx
     all_goals(first|with_reducible rfl|(rw[hi,aVy];exact bM (by rw[hw.four];exact hil))|rfl))
   |(refine wq [] [] (⟨(ks.set i (eI (ks.getD i .zero)).1),(eI (ks.getD i .zero)).2,(hw.set (wI hks) i),rfl⟩) ?_
     repeat' apply ai
     all_goals try exact qx
     all_goals(first|with_reducible rfl|(rw[hi,aVy];exact bM (by rw[hw.four];exact hil))|rfl))
   |(refine wq [] [] (⟨ks,false,hw,rfl⟩) ?_
     repeat' apply ai
     all_goals try exact qx
     all_goals(first|with_reducible rfl|(rw[hi,aVy];exact bM (by rw[hw.four];exact hil))|rfl))
 rintro s ⟨ks2,ok2,hw2,rfl⟩
 refine sq (rT [4,5] (s4 (rt (cW [tV 0 (.tup [.agg [.d (.i (tm)),.own 802 4,.own 803 3,ps 804 4 (a),ps 805 5 (b),ps 806 5 (c)],.c (.d (.b (ok2)))]),oR 802 31 5 (aF ks2),oR 803 4 1 (aL ls),(.o 804,aI 260 4 eY),(.o 805,aI 52 5 cO),(.o 806,aI 52 5 cO)] ⟨tm,ks2,ls,a,b,c,ok2,hw2,rfl⟩ (rq [] [] rfl ?_)))))
 repeat' apply ai
 all_goals try exact qx
 all_goals(first|with_reducible rfl|(rw[hi,aVy];exact bM (by rw[hw.four];exact hil))|rfl)
theorem ry (tm:Int) (ks:List aJ) (ls:List Bool) (a b c:Nat) (e:EvR) (hw:ye ks ls a b c) (htx:e.text.length≤1000):xd 258 2 [tV 0 (.e (.agg [.d (.i (tm)),.own 802 4,.own 803 3,ps 804 4 (a),ps 805 5 (b),ps 806 5 (c)])),(.t 1,.v e.V),oR 802 31 5 (aF ks),oR 803 4 1 (aL ls),(.o 804,aI 260 4 eY),(.o 805,aI 52 5 cO),(.o 806,aI 52 5 cO)] (fun s=> ∃(tm:Int) (ks:List aJ) (ls:List Bool) (a b c:Nat) (ok:Bool),ye ks ls a b c∧s=[tV 0 (.tup [.agg [.d (.i (tm)),.own 802 4,.own 803 3,ps 804 4 (a),ps 805 5 (b),ps 806 5 (c)],.c (.d (.b (ok)))]),oR 802 31 5 (aF ks),oR 803 4 1 (aL ls),(.o 804,aI 260 4 eY),(.o 805,aI 52 5 cO),(.o 806,aI 52 5 cO)]):=by
 refine yf Tryz.func258 rfl (sq (rT [2,3,4] (s4 (sq (sq (rT [2,3,4,19] (s4 (gm dA rfl rfl rfl rfl rfl (s1 (xp (dI _ _ _) (ai rfl ?_)))))))))))
 refine s1 (cd rfl (fun c19=> ?_) fun c19=> ?_)
 · refine sq (rT [4,5] (s3 (rt (cW [tV 0 (.tup [.agg [.d (.i (tm)),.own 802 4,.own 803 3,ps 804 4 (a),ps 805 5 (b),ps 806 5 (c)],.c (.d (.b (false)))]),oR 802 31 5 (aF ks),oR 803 4 1 (aL ls),(.o 804,aI 260 4 eY),(.o 805,aI 52 5 cO),(.o 806,aI 52 5 cO)] ⟨tm,ks,ls,a,b,c,false,hw,rfl⟩ (rq [] [] rfl ?_)))))
   repeat' apply ai
   all_goals try exact qx
   all_goals(first|with_reducible rfl|(rw[hi,aVy];exact bM (by rw[hw.four];exact hil))|rfl)
 have hwd0:0≤e.word∧e.word≤(a:Int) - 1:=by rw[aB (by have:=hw.ra;omega)] at c19;simp[fG] at c19;omega
 refine sk (sq ?_)
 obtain⟨wi,hwi,hwl⟩: ∃wi:Nat,e.word=(wi:Int)∧wi<a:=⟨e.word.toNat,by omega,by omega⟩
 have hwd:0≤e.word∧e.word< (a:Int):=by omega
 refine rE [2,3,4,6] (s4 (gW (aGz dA rfl rfl rfl rfl rfl rfl rfl rfl hwd (aMs dA rfl rfl rfl rfl rfl rfl (aV0 rfl) ?_))))
 rintro _ _ ⟨p,rfl,hpp⟩
 refine s2 (sq (sq (rT [2,3,4,6,29] (s3 (cd rfl (fun c29=> ?_) fun c29=> ?_)))))
 · refine sq (sq (rT [2,3,4,6,47] (s3 (y4 (y2 (xc (fun h=>(dI _ _ _)) (ai rfl (ai rk ?_))))))))
   refine y1 (ai pk (s1 (y2 (xc (fun h=>(dI _ _ _)) (ai rfl (ai rk ?_))))))
   refine y1 (ai pk (cd rfl (fun c47=> ?_) fun c47=> ?_))
   · refine sq (rT [4,5] (s3 (rt (cW [tV 0 (.tup [.agg [.d (.i (tm)),.own 802 4,.own 803 3,ps 804 4 (a),ps 805 5 (b),ps 806 5 (c)],.c (.d (.b (false)))]),oR 802 31 5 (aF ks),oR 803 4 1 (aL ls),(.o 804,aI 260 4 eY),(.o 805,aI 52 5 cO),(.o 806,aI 52 5 cO)] ⟨tm,ks,ls,a,b,c,false,hw,rfl⟩ (rq [] [] rfl ?_)))))
     repeat' apply ai
     all_goals try exact qx
     all_goals(first|with_reducible rfl|(rw[hi,aVy];exact bM (by rw[hw.four];exact hil))|rfl)
   have hpl:=hpp.2
   have hmx:0≤e.mix∧e.mix≤(p.data.length:Int) - 1:=by rw[aB (by omega)] at c47;simp[gb,fG] at c47;omega
   refine sk (sq (rT [2,3,4,7] (s2 (ai (by omega) (s1 (sq ?_))))))
   obtain⟨i,hi,hil⟩: ∃i:Nat,e.mix=(i:Int)∧i<p.data.length:=⟨e.mix.toNat,by omega,by omega⟩
   have hgb:=iB (l:=p.data) (i:=i) hil
   refine rD [2,3,4,7] (s6 (ai (aVm (by omega) (by omega) rfl) (ai (by rw[hi,aVy,hgb,aP];exact⟨⟨rfl,hil⟩,aWa _,rfl⟩) (s4 (ai (aVm (by omega) (by omega) rfl) (ai (by rw[hi,aVy,hgb,aP];exact⟨rfl,hil,rfl,aWa _⟩) (ai (by kernel_rfl) (sq (wa [tP 2 2,tP 3 3,tP 4 4,tO 7 51 p.data.length,oB 2 123 [.d (.i (tm)),.own 802 4,.own 803 3,ps 804 4 (a),ps 805 5 (b),ps 806 5 (c)],oB 3 204 [.d (.i e.kind),.d (.i e.at_),.d (.i e.frm),.d (.i e.num),.d (.i e.word),.d (.i e.mix),.d (.i e.keep),.d (.i e.dst),.d (.i e.til),.d (.s e.text)],oB 4 123 [.d (.i 0),.nil,.nil,.nil,.nil,.nil],oR 802 31 5 (aF ks),oR 803 4 1 (aL ls),(.o 804,aI 260 4 eY),(.o 805,aI 52 5 cO),(.o 806,aI 52 5 cO),oR 51 5 1 (aA ((p.data.set i (u8 (yA ((p.data.getD i 0).toNat:Int) (iA e.keep))))))] [] [] ?_ ?_)))))))))
   · repeat' apply ai
     all_goals first|exact qx|(rw[List.length_set];done)|(simp[aP];done)|(rw[hi,aVy,hgb];refine Eq.trans ?_ (aM5 hil (yS _ _));rw[hgb];rfl)|exact qz
   refine rT [2,3,4] (s5 (ai (by exact⟨by first|exact aP _|(simp[aP];done),by rw[bZ]⟩) (aGz dA rfl rfl rfl rfl rfl rfl rfl rfl hwd (aMq dA rfl rfl rfl rfl rfl (aEa dA rfl rfl rfl rfl rfl rfl rfl rfl rfl (aV0 rfl) ?_ ?_)))))
   · rintro r hr ⟨q,rfl,hq⟩
     exact⟨⟨q.frm,q.to,(p.data.set i (u8 (yA ((p.data.getD i 0).toNat:Int) (iA e.keep)))),q.done⟩,congrArg (fun z=>[D.i q.frm,D.i q.to,D.s z,D.b q.done]) (bZ _),hq.1,by show((p.data.set i (u8 (yA ((p.data.getD i 0).toNat:Int) (iA e.keep))))).length≤1000;rw[List.length_set];exact hpp.2⟩
   refine sq (rT [2,4] (s4 (aGz dA rfl rfl rfl rfl rfl rfl rfl rfl hwd (aMq dA rfl rfl rfl rfl rfl (aEa dA rfl rfl rfl rfl rfl rfl rfl rfl rfl (aV0 rfl) ?_ ?_)))))
   · rintro r hr ⟨q,rfl,hq⟩
     exact⟨⟨q.frm,q.to,q.data,true⟩,rfl,hq⟩
   refine sq (rT [4,5] (s3 (rt (cW [tV 0 (.tup [.agg [.d (.i (tm)),.own 802 4,.own 803 3,ps 804 4 (a),ps 805 5 (b),ps 806 5 (c)],.c (.d (.b (true)))]),oR 802 31 5 (aF ks),oR 803 4 1 (aL ls),(.o 804,aI 260 4 eY),(.o 805,aI 52 5 cO),(.o 806,aI 52 5 cO)] ⟨tm,ks,ls,a,b,c,true,hw,rfl⟩ (rq [] [] rfl ?_)))))
   repeat' apply ai
   all_goals try exact qx
   all_goals(first|with_reducible rfl|(rw[hi,aVy];exact bM (by rw[hw.four];exact hil))|rfl)
 refine sk (sq (sq ?_))
 obtain⟨q,hq,hql⟩: ∃q:Nat,co p.frm p.to=(q:Int)∧q<3:=by have h9:=aC6 hpp.1;exact⟨(co p.frm p.to).toNat,by omega,by omega⟩
 refine rD [2,3,4,6,94] (s4 (y4 (y2 (xc (fun h=>(xz p.frm p.to)) (ai rfl (ai rk ?_))))))
 refine ai (fun h=>(by rw[hq];exact⟨by rw[cT];exact hw.three,by omega,by omega⟩)) (ai rk (ai (fun h=>(by rw[hq,aVy,kW (by rw[hw.three];exact hql)];exact⟨⟨by rw[cT];exact hw.three,hql⟩,aV0 rfl,rfl⟩)) (ai rk (y1 (ai pk (ai (by kernel_rfl) (cd rfl (fun c94=> ?_) fun c94=> ?_)))))))
 · refine sq (rT [4,5] (s3 (rt (cW [tV 0 (.tup [.agg [.d (.i (tm)),.own 802 4,.own 803 3,ps 804 4 (a),ps 805 5 (b),ps 806 5 (c)],.c (.d (.b (false)))]),oR 802 31 5 (aF ks),oR 803 4 1 (aL ls),(.o 804,aI 260 4 eY),(.o 805,aI 52 5 cO),(.o 806,aI 52 5 cO)] ⟨tm,ks,ls,a,b,c,false,hw,rfl⟩ (rq [] [] rfl ?_)))))
   repeat' apply ai
   all_goals try exact qx
   all_goals(first|with_reducible rfl|(rw[hi,aVy];exact bM (by rw[hw.four];exact hil))|rfl)
 refine sk (SW.midL (fun a2:Nat=>ye ks ls a2 b c) (fun a2=>[tP 2 2,tP 3 3,tP 4 4,tP 6 6,oB 2 123 [.d (.i (tm)),.own 802 4,.own 803 3,ps 804 4 (a2),ps 805 5 (b),ps 806 5 (c)],oB 3 204 [.d (.i e.kind),.d (.i e.at_),.d (.i e.frm),.d (.i e.num),.d (.i e.word),.d (.i e.mix),.d (.i e.keep),.d (.i e.dst),.d (.i e.til),.d (.s e.text)],oB 4 123 [.d (.i 0),.nil,.nil,.nil,.nil,.nil],oB 6 260 [.d (.i p.frm),.d (.i p.to),.d (.s p.data),.d (.b p.done)],oR 802 31 5 (aF ks),oR 803 4 1 (aL ls),(.o 804,aI 260 4 eY),(.o 805,aI 52 5 cO),(.o 806,aI 52 5 cO)]) ?_ ?_)
 · refine sq (rT [2,3,4,6,103] (s4 (y3 (ai pk (cd rfl (fun c103=> ?_) fun c103=> ?_)))))
   · refine SW.newPool 88 260 4 eY rfl (rX [2,3,4,6] (aPz (j:=88) dA rfl rfl rfl rfl rfl rfl (sx dA rfl vc (sx dA rfl vc (sx dA rfl vc (sx dA rfl vc (aEb (m:=wi) dA rfl rfl rfl rfl rfl rfl rfl rfl rfl (by rw[hwi];refine⟨?_,?_⟩<;>first|trivial|(simp[mu,eK,fM]<;>omega)) (by rw[hwi];simp[eK,fM]) ?_)))))))
     refine nd (m:=wi) (z:=[.i 0,.i 0,.s [],.b false]) dA rfl rfl rfl rfl rfl rfl rfl rfl wy (aEd dA (by decide) rfl rfl rfl) (by show(0+wi)*40≤_;have:=hw.ra;omega) (sx dA rfl vc (sx dA rfl vc (sx dA rfl vc (sx dA rfl vc (sx dA rfl vc (aEb (m:=a - (wi+1)) dA rfl rfl rfl rfl rfl rfl rfl rfl rfl (by rw[hwi,aB (by have:=hw.ra;omega)];simp[mu,eK,fM]<;>omega) (by rw[hwi,aB (by have:=hw.ra;omega)];simp[eK,fM]<;>omega) (nd (m:=a - (wi+1)) (z:=[.i 0,.i 0,.s [],.b false]) dA rfl rfl rfl rfl rfl rfl rfl rfl wy (aEd dA (by decide) rfl rfl rfl) (by show(0+wi+(a - (wi+1)))*40≤_;have:=hw.ra;omega) (sx dA rfl vc (sx dA rfl vc (⟨by kernel_rfl,?_⟩))))))))))
     first
     |(refine⟨(0+wi+(a - (wi+1))),(hw.to (by have:=hw.ra;omega) hw.rb hw.rc),?_⟩
       refine aFr 804 88 rfl rfl (by decide) (by rfl) (lp (wq [] [] rfl ?_))
       repeat' apply ai
       all_goals try exact qx
       all_goals(first|with_reducible rfl|omega))
     |(refine⟨a,hw,?_⟩
       refine lp (wq [] [] rfl ?_)
       repeat' apply ai
       all_goals try exact qx
       all_goals(first|with_reducible rfl|omega))
   refine sk ?_
   first
   |(refine⟨(0+wi+(a - (wi+1))),(hw.to (by have:=hw.ra;omega) hw.rb hw.rc),?_⟩
     refine aFr 804 88 rfl rfl (by decide) (by rfl) (lp (wq [] [] rfl ?_))
     repeat' apply ai
     all_goals try exact qx
     all_goals(first|with_reducible rfl|omega))
   |(refine⟨a,hw,?_⟩
     refine lp (wq [] [] rfl ?_)
     repeat' apply ai
     all_goals try exact qx
     all_goals(first|with_reducible rfl|omega))
 rintro a2 hw2
 refine sq (sq (rT [2,4,6,121] (s3 (cd rfl (fun c121=> ?_) fun c121=> ?_))))
 · refine sq (rT [4,5] (s3 (rt (cW [tV 0 (.tup [.agg [.d (.i (tm)),.own 802 4,.own 803 3,ps 804 4 (a2),ps 805 5 (b),ps 806 5 (c)],.c (.d (.b (true)))]),oR 802 31 5 (aF ks),oR 803 4 1 (aL ls),(.o 804,aI 260 4 eY),(.o 805,aI 52 5 cO),(.o 806,aI 52 5 cO)] ⟨tm,ks,ls,a2,b,c,true,hw2,rfl⟩ (rq [] [] rfl ?_)))))
   repeat' apply ai
   all_goals try exact qx
   all_goals(first|with_reducible rfl|(rw[hi,aVy];exact bM (by rw[hw.four];exact hil))|rfl)
 refine sk (sq (rT [2,4,6,8,9] (s2 (ai (by have:=hpp.2;omega) (bH (robj:=[(126,.row 5 1 (aA (p.data)))]) (rl:=[]) (bor:=[126]) (ik p.data) rfl rfl rfl rfl ⟨eD rfl rfl rfl (by first|exact aP _|(simp[aP,aCd];done)) rfl (trivial),rfl⟩ rfl (.inr (aG4 rfl)) (aH ⟨rfl,trivial⟩) (fun _ hj=>nomatch hj) (s6 (sq (sq (rT [2,4,6,8,145] (s3 (y4 (y1 (ai pk (s1 (y4 (y1 (ai pk (cd rfl (fun c145=> ?_) fun c145=> ?_))))))))))))))))))
 · refine sq (rT [4,5] (s3 (rt (cW [tV 0 (.tup [.agg [.d (.i (tm)),.own 802 4,.own 803 3,ps 804 4 (a2),ps 805 5 (b),ps 806 5 (c)],.c (.d (.b (true)))]),oR 802 31 5 (aF ks),oR 803 4 1 (aL ls),(.o 804,aI 260 4 eY),(.o 805,aI 52 5 cO),(.o 806,aI 52 5 cO)] ⟨tm,ks,ls,a2,b,c,true,hw2,rfl⟩ (rq [] [] rfl ?_)))))
   repeat' apply ai
   all_goals try exact qx
   all_goals(first|with_reducible rfl|(rw[hi,aVy];exact bM (by rw[hw.four];exact hil))|rfl)
 refine sk (sq ?_)
 obtain⟨i,hi,hil⟩:=wJ hpp.1.2.1
 have hks:=hw2.at hil
 refine rD [2,4,6,10,11] (s4 (ai (by rw[hi];exact⟨by rw[bE];exact hw.four,by omega,by omega⟩) (ai (by rw[hi,aVy,cD (by rw[hw.four];exact hil)];exact⟨⟨by rw[bE];exact hw.four,hil⟩,aV0 rfl,rfl⟩) (s1 (xp (ma (ks.getD i .zero) (gN p.data) (by have:=hks.1;omega)) (ai (by rw[hi,aVy,cD (by rw[hw2.four];exact hil)];rfl) ?_))))))
 refine s6 (ai (by kernel_rfl) (sq (rT [2,4,11] (s5 (ai (by rw[hi];exact⟨by rw[bE];exact hw.four,by omega,by omega⟩) (ai (by rw[hi,aVy,cD (by rw[hw.four];exact hil)];exact⟨by rw[bE];exact hw.four,hil,rfl,aV0 rfl⟩) (sq (wa [tP 2 2,tP 4 4,tD 11 (.sl (mT (dC (ks.getD i .zero) (gN p.data)).2)),oB 2 123 [.d (.i (tm)),.own 802 4,.own 803 3,ps 804 4 (a2),ps 805 5 (b),ps 806 5 (c)],oB 3 204 [.d (.i e.kind),.d (.i e.at_),.d (.i e.frm),.d (.i e.num),.d (.i e.word),.d (.i e.mix),.d (.i e.keep),.d (.i e.dst),.d (.i e.til),.d (.s e.text)],oB 4 123 [.d (.i 0),.nil,.nil,.nil,.nil,.nil],oR 802 31 5 (aF (ks.set i (dC (ks.getD i .zero) (gN p.data)).1)),oR 803 4 1 (aL ls),(.o 804,aI 260 4 eY),(.o 805,aI 52 5 cO),(.o 806,aI 52 5 cO)] [] [] ?_ ?_))))))))
 · repeat' apply ai
   all_goals first|exact qx|(rw[hi,aVy];exact bM (k:=(dC (ks.getD i .zero) (gN p.data)).1) (by rw[hw.four];exact hil))|rfl|exact qz
 refine rT [2,4] (s3 (bH (robj:=[(804,aI 260 4 eY)]) (rl:=[]) (bor:=[]) (dc a2 (dC (ks.getD i .zero) (gN p.data)).2 hw2.ra (by have:=(aI9 (k:=(ks.getD i .zero)) (f:=gN p.data)).2;omega) aI9.1) rfl rfl rfl rfl ⟨aMv rfl rfl rfl rfl (cJ rfl rfl (aV rfl rfl trivial)),rfl⟩ rfl (.inl rfl) (aH ⟨rfl,trivial⟩) (fun j hj=>nomatch hj) (s2 (sq (rT [4,5] (s3 (rt (cW [tV 0 (.tup [.agg [.d (.i (tm)),.own 802 4,.own 803 3,ps 804 4 ((fk a2 (dC (ks.getD i .zero) (gN p.data)).2.length)),ps 805 5 (b),ps 806 5 (c)],.c (.d (.b (true)))]),oR 802 31 5 (aF (ks.set i (dC (ks.getD i .zero) (gN p.data)).1)),oR 803 4 1 (aL ls),(.o 804,aI 260 4 eY),(.o 805,aI 52 5 cO),(.o 806,aI 52 5 cO)] ⟨tm,(ks.set i (dC (ks.getD i .zero) (gN p.data)).1),ls,(fk a2 (dC (ks.getD i .zero) (gN p.data)).2.length),b,c,true,((hw2.set (aH5 hks) i).to (xa hw2.ra) hw2.rb hw2.rc),rfl⟩ ?_))))))))
 refine rq [] [] rfl ?_
 repeat' apply ai
 all_goals try exact qx
 all_goals(first|with_reducible rfl|(rw[hi,aVy];exact bM (k:=(dC (ks.getD i .zero) (gN p.data)).1) (by rw[hw.four];exact hil))|rfl)
theorem aDh (tm:Int) (ks:List aJ) (ls:List Bool) (a b c:Nat) (e:EvR) (hw:ye ks ls a b c) (htx:e.text.length≤1000):xd 242 2 [tV 0 (.e (.agg [.d (.i (tm)),.own 802 4,.own 803 3,ps 804 4 (a),ps 805 5 (b),ps 806 5 (c)])),(.t 1,.v e.V),oR 802 31 5 (aF ks),oR 803 4 1 (aL ls),(.o 804,aI 260 4 eY),(.o 805,aI 52 5 cO),(.o 806,aI 52 5 cO)] (fun s=> ∃(tm:Int) (ks:List aJ) (ls:List Bool) (a b c:Nat) (ok:Bool),ye ks ls a b c∧s=[tV 0 (.tup [.agg [.d (.i (tm)),.own 802 4,.own 803 3,ps 804 4 (a),ps 805 5 (b),ps 806 5 (c)],.c (.d (.b (ok)))]),oR 802 31 5 (aF ks),oR 803 4 1 (aL ls),(.o 804,aI 260 4 eY),(.o 805,aI 52 5 cO),(.o 806,aI 52 5 cO)]):=by
 refine yf Tryz.func242 rfl (sq (rT [2,3,4] (s4 (sq (rT [2,3,4] (s5 (sq (bk (sq (wa [tP 2 2,tP 3 3,tP 4 4,oB 2 123 [.d (.i ((wrap64 (tm+1)))),.own 802 4,.own 803 3,ps 804 4 (a),ps 805 5 (b),ps 806 5 (c)],oB 3 204 [.d (.i e.kind),.d (.i e.at_),.d (.i e.frm),.d (.i e.num),.d (.i e.word),.d (.i e.mix),.d (.i e.keep),.d (.i e.dst),.d (.i e.til),.d (.s e.text)],oB 4 123 [.d (.i 0),.nil,.nil,.nil,.nil,.nil],oR 802 31 5 (aF ks),oR 803 4 1 (aL ls),(.o 804,aI 260 4 eY),(.o 805,aI 52 5 cO),(.o 806,aI 52 5 cO)] [] [] qz (rT [2,3,4,10] (s4 (y3 (ai pk (s1 (y3 (ai pk (s1 (cd rfl (fun c10=> ?_) fun c10=> ?_)))))))))))))))))))
 · refine sq (rE [4,5] (s2 (cY (robj:=[(802,.row 31 5 (aF ks)),(803,.row 4 1 (aL ls)),(804,aI 260 4 eY),(805,aI 52 5 cO),(806,aI 52 5 cO)]) (rl:=[]) (bor:=[]) (news:=[]) (ry (wrap64 (tm+1)) ks ls a b c e hw htx) rfl rfl rfl rfl ⟨dB rfl (aC rfl (bJ rfl rfl rfl (bJ rfl rfl rfl (bF rfl rfl rfl (bF rfl rfl rfl (bF rfl rfl rfl aG)))))) (dB rfl (aC rfl (aC rfl (aC rfl (aC rfl (aC rfl (aC rfl (aC rfl (aC rfl (aC rfl (aC rfl aG)))))))))) (bR rfl rfl (bR rfl rfl (aV rfl rfl (aV rfl rfl (aV rfl rfl trivial)))))),rfl⟩ (by rintro _ ⟨tm2,ks2,ls2,a2,b2,c2,ok2,hw2,rfl⟩;exact⟨rfl,.inl rfl,fun j hj=>nomatch hj⟩) (aH ⟨rfl,rfl,rfl,rfl,rfl,trivial⟩) (fun j hj=>nomatch hj) ?_)))
   rintro _ ⟨tm2,ks2,ls2,a2,b2,c2,ok2,hw2,rfl⟩
   refine s4 (rt (cW [tV 0 (.tup [.agg [.d (.i (tm2)),.own 802 4,.own 803 3,ps 804 4 (a2),ps 805 5 (b2),ps 806 5 (c2)],.c (.d (.b (ok2)))]),oR 802 31 5 (aF ks2),oR 803 4 1 (aL ls2),(.o 804,aI 260 4 eY),(.o 805,aI 52 5 cO),(.o 806,aI 52 5 cO)] ⟨tm2,ks2,ls2,a2,b2,c2,ok2,hw2,rfl⟩ (rq [] [] rfl ?_)))
   repeat' apply ai
   all_goals try exact qx
   all_goals(first|with_reducible rfl|(rw[hi,aVy];exact bM (by rw[hw.four];exact hil))|rfl)
 refine sq (rT [2,3,4,29] (s4 (y3 (ai pk (s1 (cd rfl (fun c29=> ?_) fun c29=> ?_))))))
 · refine sq (sq (rD [2,3,4,57] (s4 (ai (by exact(cT ls).trans hw.three) (s1 (xp (dI _ _ _) (ai rfl ?_)))))))
   refine s2 (y4 (ai (fun h=>(by obtain⟨i,hi,hil⟩: ∃i:Nat,e.at_=(i:Int)∧i<3:=(by simp[gb,fG,cT,hw.three,wrap64] at h;exact⟨e.at_.toNat,by omega,by omega⟩);rw[hi];exact⟨by rw[cT];exact hw.three,by omega,by omega⟩)) (ai rk (ai (fun h=>(by obtain⟨i,hi,hil⟩: ∃i:Nat,e.at_=(i:Int)∧i<3:=(by simp[gb,fG,cT,hw.three,wrap64] at h;exact⟨e.at_.toNat,by omega,by omega⟩);rw[hi,aVy,kW (by rw[hw.three];exact hil)];exact⟨⟨by rw[cT];exact hw.three,hil⟩,aV0 rfl,rfl⟩)) (ai rk (y4 (ai pk (ai (by kernel_rfl) (cd rfl (fun c57=> ?_) fun c57=> ?_)))))))))
   · refine sq (rT [4,5] (s3 (rt (cW [tV 0 (.tup [.agg [.d (.i ((wrap64 (tm+1)))),.own 802 4,.own 803 3,ps 804 4 (a),ps 805 5 (b),ps 806 5 (c)],.c (.d (.b (false)))]),oR 802 31 5 (aF ks),oR 803 4 1 (aL ls),(.o 804,aI 260 4 eY),(.o 805,aI 52 5 cO),(.o 806,aI 52 5 cO)] ⟨(wrap64 (tm+1)),ks,ls,a,b,c,false,hw,rfl⟩ (rq [] [] rfl ?_)))))
     repeat' apply ai
     all_goals try exact qx
     all_goals(first|with_reducible rfl|(rw[hi,aVy];exact bM (by rw[hw.four];exact hil))|rfl)
   have hat3:0≤e.at_∧e.at_≤2:=by simp[gb,fG,cT,hw.three,wrap64] at c57;omega
   refine sk (sq ?_)
   obtain⟨i,hi,hil⟩: ∃i:Nat,e.at_=(i:Int)∧i<3:=⟨e.at_.toNat,by omega,by omega⟩
   refine rT [2,4] (s7 (ai (by rw[hi];exact⟨by rw[cT];exact hw.three,by omega,by omega⟩) (ai (by rw[hi,aVy,kW (by rw[hw.three];exact hil)];exact⟨by rw[cT];exact hw.three,hil,rfl,aV0 rfl⟩) (sq (rT [4,5] (s3 (rt (cW [tV 0 (.tup [.agg [.d (.i ((wrap64 (tm+1)))),.own 802 4,.own 803 3,ps 804 4 (a),ps 805 5 (b),ps 806 5 (c)],.c (.d (.b (true)))]),oR 802 31 5 (aF ks),oR 803 4 1 (aL (ls.set i (e.kind==9))),(.o 804,aI 260 4 eY),(.o 805,aI 52 5 cO),(.o 806,aI 52 5 cO)] ⟨(wrap64 (tm+1)),ks,(ls.set i (e.kind==9)),a,b,c,true,(hw.links (by rw[List.length_set];exact hw.three)),rfl⟩ (rq [] [] rfl ?_)))))))))
   repeat' apply ai
   all_goals try exact qx
   all_goals(first|with_reducible rfl|(rw[hi,aVy];exact aDa (by rw[hw.three];exact hil))|rfl)
 refine sq (rT [2,3,4,68] (s2 (xp (dP _) (ai rfl ?_))))
 refine s2 (cd rfl (fun c68=> ?_) fun c68=> ?_)
 · refine sq (rT [4,5] (s3 (rt (cW [tV 0 (.tup [.agg [.d (.i ((wrap64 (tm+1)))),.own 802 4,.own 803 3,ps 804 4 (a),ps 805 5 (b),ps 806 5 (c)],.c (.d (.b (false)))]),oR 802 31 5 (aF ks),oR 803 4 1 (aL ls),(.o 804,aI 260 4 eY),(.o 805,aI 52 5 cO),(.o 806,aI 52 5 cO)] ⟨(wrap64 (tm+1)),ks,ls,a,b,c,false,hw,rfl⟩ (rq [] [] rfl ?_)))))
   repeat' apply ai
   all_goals try exact qx
   all_goals(first|with_reducible rfl|(rw[hi,aVy];exact bM (by rw[hw.four];exact hil))|rfl)
 have hat:0≤e.at_∧e.at_≤3:=by simp[eA,fG] at c68;omega
 refine sk (sq (rE [4,5] (s2 (cY (robj:=[(802,.row 31 5 (aF ks)),(803,.row 4 1 (aL ls)),(804,aI 260 4 eY),(805,aI 52 5 cO),(806,aI 52 5 cO)]) (rl:=[]) (bor:=[]) (news:=[]) (pb (wrap64 (tm+1)) ks ls a b c e hw htx hat) rfl rfl rfl rfl ⟨dB rfl (aC rfl (bJ rfl rfl rfl (bJ rfl rfl rfl (bF rfl rfl rfl (bF rfl rfl rfl (bF rfl rfl rfl aG)))))) (dB rfl (aC rfl (aC rfl (aC rfl (aC rfl (aC rfl (aC rfl (aC rfl (aC rfl (aC rfl (aC rfl aG)))))))))) (bR rfl rfl (bR rfl rfl (aV rfl rfl (aV rfl rfl (aV rfl rfl trivial)))))),rfl⟩ (by rintro _ ⟨tm2,ks2,ls2,a2,b2,c2,ok2,hw2,rfl⟩;exact⟨rfl,.inl rfl,fun j hj=>nomatch hj⟩) (aH ⟨rfl,rfl,rfl,rfl,rfl,trivial⟩) (fun j hj=>nomatch hj) ?_))))
 rintro _ ⟨tm2,ks2,ls2,a2,b2,c2,ok2,hw2,rfl⟩
 refine s4 (rt (cW [tV 0 (.tup [.agg [.d (.i (tm2)),.own 802 4,.own 803 3,ps 804 4 (a2),ps 805 5 (b2),ps 806 5 (c2)],.c (.d (.b (ok2)))]),oR 802 31 5 (aF ks2),oR 803 4 1 (aL ls2),(.o 804,aI 260 4 eY),(.o 805,aI 52 5 cO),(.o 806,aI 52 5 cO)] ⟨tm2,ks2,ls2,a2,b2,c2,ok2,hw2,rfl⟩ (rq [] [] rfl ?_)))
 repeat' apply ai
 all_goals try exact qx
 all_goals(first|with_reducible rfl|(rw[hi,aVy];exact bM (by rw[hw.four];exact hil))|rfl)
theorem ej (l:List UInt8) (p:Int) (W:eX) (e:EvR) (hW:W.ok) (htx:e.text.length≤1000) (hd:W.d≤100000):xd 200 2 [tP 0 800,(.t 1,.v e.V),oB 800 147 [.pt 801 0,.d (.i (W.tm)),.own 802 4,.own 803 3,ps 804 4 (W.a),ps 805 5 (W.b),ps 806 5 (W.c),ps 807 10 (W.d)],oB 801 177 [.d (.sl (aA l)),.d (.i (p))],oR 802 31 5 (aF W.ks),oR 803 4 1 (aL W.ls),(.o 804,aI 260 4 eY),(.o 805,aI 52 5 cO),(.o 806,aI 52 5 cO),(.o 807,aI 204 10 iX)] (fun s=> ∃(W2:eX) (ok:Bool),W2.of W 1∧s=[tB 0 ok,oB 800 147 [.pt 801 0,.d (.i (W2.tm)),.own 802 4,.own 803 3,ps 804 4 (W2.a),ps 805 5 (W2.b),ps 806 5 (W2.c),ps 807 10 (W2.d)],oB 801 177 [.d (.sl (aA l)),.d (.i (p))],oR 802 31 5 (aF W2.ks),oR 803 4 1 (aL W2.ls),(.o 804,aI 260 4 eY),(.o 805,aI 52 5 cO),(.o 806,aI 52 5 cO),(.o 807,aI 204 10 iX)]):=by
 refine yf Tryz.func200 rfl (sq (rT [0,3] (s2 (sq (SW.regDE dA mo [0,3,5,6] 5 (fun i=>if i=9 then some ([(.o 5,none)],[oB 5 123 [.d (.i 0),.nil,.nil,.nil,.nil,.nil],tP 5 5]) else none) rfl rfl (by kernel_rfl) ?_)))))
 refine s5 (dl (robj:=[(802,.row 31 5 (aF W.ks)),(803,.row 4 1 (aL W.ls)),(804,aI 260 4 eY),(805,aI 52 5 cO),(806,aI 52 5 cO)]) (rl:=[]) (bor:=[]) (news:=[]) (aDh W.tm W.ks W.ls W.a W.b W.c e hW htx) rfl rfl rfl rfl ⟨dB rfl (aC rfl (bJ rfl rfl rfl (bJ rfl rfl rfl (bF rfl rfl rfl (bF rfl rfl rfl (bF rfl rfl rfl aG)))))) (dB rfl (aC rfl (aC rfl (aC rfl (aC rfl (aC rfl (aC rfl (aC rfl (aC rfl (aC rfl (aC rfl aG)))))))))) (bR rfl rfl (bR rfl rfl (aV rfl rfl (aV rfl rfl (aV rfl rfl trivial)))))),rfl⟩ (by rintro _ ⟨tm2,ks2,ls2,a2,b2,c2,ok2,hw2,rfl⟩;exact⟨rfl,.inl rfl,fun j hj=>nomatch hj⟩) (aH ⟨rfl,rfl,rfl,rfl,rfl,trivial⟩) (fun j hj=>nomatch hj) ⟨_,W.tm,W.ks,W.ls,W.a,W.b,W.c,false,hW,rfl⟩ ?_)
 rintro _ ⟨tm2,ks2,ls2,a2,b2,c2,ok2,hw2,rfl⟩
 refine s7 (ai rfl (s4 (ai (by kernel_rfl) (sq (sq (rT [0,3,5,6,16] (s1 (cd rfl (fun c16=> ?_) fun c16=> ?_))))))))
 · refine sq (rT [0,3,6] (s5 (rX [6] (sx dA rfl vc (sx dA rfl vc (sx dA rfl vc (sx dA rfl vc (sx dA rfl vc (sx dA rfl vc (sx dA rfl vc (nd (m:=1) (z:=[.i 0,.i 0,.i 0,.i 0,.i 0,.i 0,.i 0,.i 0,.i 0,.s []]) dA rfl rfl rfl rfl rfl rfl rfl rfl trivial (jh dA (by decide) rfl rfl rfl (fun r hr=>⟨by rw[aWg.1 hr];rfl,trivial⟩) rfl) (by show(_+1)*88≤_;omega) (sx dA rfl vc (sx dA rfl vc (sx dA rfl ⟨by kernel_rfl,aV0 (by kernel_rfl)⟩ (⟨by kernel_rfl,?_⟩)))))))))))))))
   refine sq (rT [4] (s2 (rt ?_)))
   first
   |(refine cW [tB 0 (ok2),oB 800 147 [.pt 801 0,.d (.i ((eX.mk tm2 ks2 ls2 a2 b2 c2 (W.d+1)).tm)),.own 802 4,.own 803 3,ps 804 4 ((eX.mk tm2 ks2 ls2 a2 b2 c2 (W.d+1)).a),ps 805 5 ((eX.mk tm2 ks2 ls2 a2 b2 c2 (W.d+1)).b),ps 806 5 ((eX.mk tm2 ks2 ls2 a2 b2 c2 (W.d+1)).c),ps 807 10 ((eX.mk tm2 ks2 ls2 a2 b2 c2 (W.d+1)).d)],oB 801 177 [.d (.sl (aA l)),.d (.i (p))],oR 802 31 5 (aF (eX.mk tm2 ks2 ls2 a2 b2 c2 (W.d+1)).ks),oR 803 4 1 (aL (eX.mk tm2 ks2 ls2 a2 b2 c2 (W.d+1)).ls),(.o 804,aI 260 4 eY),(.o 805,aI 52 5 cO),(.o 806,aI 52 5 cO),(.o 807,aI 204 10 iX)] ⟨(eX.mk tm2 ks2 ls2 a2 b2 c2 (W.d+1)),ok2,⟨hw2,aWa _⟩,rfl⟩ (rq [] [] rfl ?_)
     repeat' apply ai
     all_goals try exact qx
     all_goals(first|with_reducible rfl|(rfl)))
   |(refine cW [tB 0 (ok2),oB 800 147 [.pt 801 0,.d (.i ((eX.mk W.tm ks2 ls2 W.a W.b W.c W.d).tm)),.own 802 4,.own 803 3,ps 804 4 ((eX.mk W.tm ks2 ls2 W.a W.b W.c W.d).a),ps 805 5 ((eX.mk W.tm ks2 ls2 W.a W.b W.c W.d).b),ps 806 5 ((eX.mk W.tm ks2 ls2 W.a W.b W.c W.d).c),ps 807 10 ((eX.mk W.tm ks2 ls2 W.a W.b W.c W.d).d)],oB 801 177 [.d (.sl (aA l)),.d (.i (p))],oR 802 31 5 (aF (eX.mk W.tm ks2 ls2 W.a W.b W.c W.d).ks),oR 803 4 1 (aL (eX.mk W.tm ks2 ls2 W.a W.b W.c W.d).ls),(.o 804,aI 260 4 eY),(.o 805,aI 52 5 cO),(.o 806,aI 52 5 cO),(.o 807,aI 204 10 iX)] ⟨(eX.mk W.tm ks2 ls2 W.a W.b W.c W.d),ok2,⟨hw2.to hW.ra hW.rb hW.rc,by show W.d≤_;omega⟩,rfl⟩ (rq [] [] rfl ?_)
     repeat' apply ai
     all_goals try exact qx
     all_goals(first|with_reducible rfl|(rfl)))
 refine sk (sq (rT [4] (s2 (rt ?_))))
 first
 |(refine cW [tB 0 (ok2),oB 800 147 [.pt 801 0,.d (.i ((eX.mk tm2 ks2 ls2 a2 b2 c2 (W.d+1)).tm)),.own 802 4,.own 803 3,ps 804 4 ((eX.mk tm2 ks2 ls2 a2 b2 c2 (W.d+1)).a),ps 805 5 ((eX.mk tm2 ks2 ls2 a2 b2 c2 (W.d+1)).b),ps 806 5 ((eX.mk tm2 ks2 ls2 a2 b2 c2 (W.d+1)).c),ps 807 10 ((eX.mk tm2 ks2 ls2 a2 b2 c2 (W.d+1)).d)],oB 801 177 [.d (.sl (aA l)),.d (.i (p))],oR 802 31 5 (aF (eX.mk tm2 ks2 ls2 a2 b2 c2 (W.d+1)).ks),oR 803 4 1 (aL (eX.mk tm2 ks2 ls2 a2 b2 c2 (W.d+1)).ls),(.o 804,aI 260 4 eY),(.o 805,aI 52 5 cO),(.o 806,aI 52 5 cO),(.o 807,aI 204 10 iX)] ⟨(eX.mk tm2 ks2 ls2 a2 b2 c2 (W.d+1)),ok2,⟨hw2,aWa _⟩,rfl⟩ (rq [] [] rfl ?_)
   repeat' apply ai
   all_goals try exact qx
   all_goals(first|with_reducible rfl|(rfl)))
 |(refine cW [tB 0 (ok2),oB 800 147 [.pt 801 0,.d (.i ((eX.mk W.tm ks2 ls2 W.a W.b W.c W.d).tm)),.own 802 4,.own 803 3,ps 804 4 ((eX.mk W.tm ks2 ls2 W.a W.b W.c W.d).a),ps 805 5 ((eX.mk W.tm ks2 ls2 W.a W.b W.c W.d).b),ps 806 5 ((eX.mk W.tm ks2 ls2 W.a W.b W.c W.d).c),ps 807 10 ((eX.mk W.tm ks2 ls2 W.a W.b W.c W.d).d)],oB 801 177 [.d (.sl (aA l)),.d (.i (p))],oR 802 31 5 (aF (eX.mk W.tm ks2 ls2 W.a W.b W.c W.d).ks),oR 803 4 1 (aL (eX.mk W.tm ks2 ls2 W.a W.b W.c W.d).ls),(.o 804,aI 260 4 eY),(.o 805,aI 52 5 cO),(.o 806,aI 52 5 cO),(.o 807,aI 204 10 iX)] ⟨(eX.mk W.tm ks2 ls2 W.a W.b W.c W.d),ok2,⟨hw2.to hW.ra hW.rb hW.rc,by show W.d≤_;omega⟩,rfl⟩ (rq [] [] rfl ?_)
   repeat' apply ai
   all_goals try exact qx
   all_goals(first|with_reducible rfl|(rfl)))
theorem aN8 (l:List UInt8) (p:Int) (W:eX) (hp:0≤p∧p≤900000) (hl:l.length≤2000) (hW:W.ok) (hd:W.d≤99000):xd 122 1 [tP 0 800,oB 800 147 [.pt 801 0,.d (.i (W.tm)),.own 802 4,.own 803 3,ps 804 4 (W.a),ps 805 5 (W.b),ps 806 5 (W.c),ps 807 10 (W.d)],oB 801 177 [.d (.sl (aA l)),.d (.i (p))],oR 802 31 5 (aF W.ks),oR 803 4 1 (aL W.ls),(.o 804,aI 260 4 eY),(.o 805,aI 52 5 cO),(.o 806,aI 52 5 cO),(.o 807,aI 204 10 iX)] (fun s=> ∃(i:Int) (n:bA) (ok:Bool) (q:Int),(p≤q∧q≤p+2∧0≤i∧i≤3)∧s=[tV 0 (.tup [.c (.d (.i i)),.agg [.d (.i n.frm),.d (.i n.num),.d (.i n.to),.d (.i n.til),.d (.s n.text)],.c (.d (.b ok))]),oB 800 147 [.pt 801 0,.d (.i (W.tm)),.own 802 4,.own 803 3,ps 804 4 (W.a),ps 805 5 (W.b),ps 806 5 (W.c),ps 807 10 (W.d)],oB 801 177 [.d (.sl (aA l)),.d (.i (q))],oR 802 31 5 (aF W.ks),oR 803 4 1 (aL W.ls),(.o 804,aI 260 4 eY),(.o 805,aI 52 5 cO),(.o 806,aI 52 5 cO),(.o 807,aI 204 10 iX)]):=by
 refine yf Tryz.func122 rfl (sq (rT [0,3] (s3 (sq (rT [0,3,5] (s4 (bH (robj:=[(801,.box 177 [.d (.sl (aA (l))),.d (.i (p))])]) (rl:=[(0,801)]) (bor:=[]) (cN (l) (p) _ (by omega) hl) rfl rfl rfl rfl ⟨bQ rfl rfl rfl rfl (cJ rfl rfl (aS rfl (aC rfl (aC rfl aG)) trivial)),rfl⟩ rfl (.inl rfl) (aH ⟨rfl,trivial⟩) (fun _ hj=>nomatch hj) (s1 (sq (sq (rT [0,3,5,6] (s1 (bk ?_)))))))))))))
 obtain⟨i0,hi0,hil0⟩:=wJ (show 0≤bN l p 4∧bN l p 4≤3 by have:=cF l (p:=p) (n:=4) (by omega) (by omega);omega)
 refine SW.loopW (n:=4) (fun n s=> ∃i m:Nat,n=4 - m∧(i<4∧m≤4)∧s=[tP 0 800,tP 3 3,tI 5 (i:Nat),tI 6 (m:Nat),oB 800 147 [.pt 801 0,.d (.i (W.tm)),.own 802 4,.own 803 3,ps 804 4 (W.a),ps 805 5 (W.b),ps 806 5 (W.c),ps 807 10 (W.d)],oB 801 177 [.d (.sl (aA l)),.d (.i ((p+1)))],oR 802 31 5 (aF W.ks),oR 803 4 1 (aL W.ls),(.o 804,aI 260 4 eY),(.o 805,aI 52 5 cO),(.o 806,aI 52 5 cO),(.o 807,aI 204 10 iX),oB 3 52 [.d (.i bA.zero.frm),.d (.i bA.zero.num),.d (.i bA.zero.to),.d (.i bA.zero.til),.d (.s bA.zero.text)]]) ?_ ?_
 · refine wq [] [] (⟨i0,0,rfl,⟨hil0,by omega⟩,rfl⟩) ?_
   repeat' apply ai
   all_goals first|exact qx|exact congrArg D.i hi0|rfl|exact qz
 rintro n s ⟨i,m,rfl,him,rfl⟩
 refine sq (sq (rT [0,3,5,6,15] (s2 (cd rfl (fun c15=> ?_) fun c15=> ?_))))
 · have hm4:m<4:=by simp at c15;omega
   refine sk (sq (bk (sq (rT [0,3,5,6,7] (s6 (ai (by exact⟨by rw[bE];exact hW.four,by omega,by omega⟩) (ai (by rw[aVy,cD (by rw[hW.four];omega)];exact⟨⟨by rw[bE];exact hW.four,by omega⟩,aV0 rfl,rfl⟩) (xp (gV (W.ks.getD i .zero) (by have:=(hW.at (show i<4 by omega)).1;omega)) (ai (by rw[aVy,cD (by rw[hW.four];omega)];rfl) ?_)))))))))
   refine s6 (sq (sq (rT [0,3,5,6,7,33] (s4 (cd rfl (fun c33=> ?_) fun c33=> ?_)))))
   · refine sq ?_
     have hn0:0< (bB (W.ks.getD i .zero)).1.held.length:=by have h9:=of_decide_eq_true c33;rw[aD] at h9;omega
     obtain⟨j,hj,hjl⟩: ∃j:Nat,bN l (p+1) ((aE (bB (W.ks.getD i .zero)).1.held).length:Int)=(j:Int)∧j< (bB (W.ks.getD i .zero)).1.held.length:=by have:=cF l (p:=p+1) (n:=((aE (bB (W.ks.getD i .zero)).1.held).length:Int)) (by omega) (by rw[aD];omega);rw[aD] at *; exact⟨(bN l (p+1) ((bB (W.ks.getD i .zero)).1.held.length:Int)).toNat,by omega,by omega⟩
     refine rD [2,3,4] (s9 (s1 (bH (robj:=[(801,.box 177 [.d (.sl (aA (l))),.d (.i ((p+1)))])]) (rl:=[(0,801)]) (bor:=[]) (cN (l) ((p+1)) _ (by omega) hl) rfl rfl rfl rfl ⟨bQ rfl rfl rfl rfl (cJ rfl rfl (aS rfl (aC rfl (aC rfl aG)) trivial)),rfl⟩ rfl (.inl rfl) (aH ⟨rfl,trivial⟩) (fun _ hj=>nomatch hj) (ai (by rw[hj,aVy,aT hjl];exact⟨⟨by omega,by rw[aD];omega⟩,rfl⟩) (ai (by rw[hj,aVy,aT hjl];exact⟨aV0 rfl,rfl⟩) (s3 (ai (by kernel_rfl) (rt (cW [tV 0 (.tup [.c (.d (.i (i:Nat))),.agg [.d (.i ((bB (W.ks.getD i .zero)).1.held.getD j .zero).frm),.d (.i ((bB (W.ks.getD i .zero)).1.held.getD j .zero).num),.d (.i ((bB (W.ks.getD i .zero)).1.held.getD j .zero).to),.d (.i ((bB (W.ks.getD i .zero)).1.held.getD j .zero).til),.d (.s ((bB (W.ks.getD i .zero)).1.held.getD j .zero).text)],.c (.d (.b true))]),oB 800 147 [.pt 801 0,.d (.i (W.tm)),.own 802 4,.own 803 3,ps 804 4 (W.a),ps 805 5 (W.b),ps 806 5 (W.c),ps 807 10 (W.d)],oB 801 177 [.d (.sl (aA l)),.d (.i ((p+1+1)))],oR 802 31 5 (aF W.ks),oR 803 4 1 (aL W.ls),(.o 804,aI 260 4 eY),(.o 805,aI 52 5 cO),(.o 806,aI 52 5 cO),(.o 807,aI 204 10 iX)] ⟨(i:Nat),(bB (W.ks.getD i .zero)).1.held.getD j .zero,true,p+1+1,⟨by omega,by omega,by omega,by omega⟩,rfl⟩ ?_)))))))))
     refine rq [] [] rfl ?_
     repeat' apply ai
     all_goals try exact qx
     all_goals(first|with_reducible rfl|((rw[hj,aVy,aT hjl];rfl)))
   refine sk (rT [0,3,5,6] (s2 (ai (by decide) (s1 (rT [0,3,5,6] (s3 (wq [] [] (⟨4 - (m+1),by omega,(i+1) % 4,m+1,rfl,⟨by omega,by omega⟩,rfl⟩) ?_)))))))
   repeat' apply ai
   all_goals first|exact qx|(refine congrArg D.i ?_;rw[aB (by omega)];omega)|(refine congrArg D.i ?_;rw[aB (n:=(i:Int)+1) (by omega),Int.tmod_eq_emod_of_nonneg (by omega)];omega)|exact qz
 refine xt (sq (rT [2,3,4] (s4 (rt (cW [tV 0 (.tup [.c (.d (.i 0)),.agg [.d (.i bA.zero.frm),.d (.i bA.zero.num),.d (.i bA.zero.to),.d (.i bA.zero.til),.d (.s bA.zero.text)],.c (.d (.b false))]),oB 800 147 [.pt 801 0,.d (.i (W.tm)),.own 802 4,.own 803 3,ps 804 4 (W.a),ps 805 5 (W.b),ps 806 5 (W.c),ps 807 10 (W.d)],oB 801 177 [.d (.sl (aA l)),.d (.i ((p+1)))],oR 802 31 5 (aF W.ks),oR 803 4 1 (aL W.ls),(.o 804,aI 260 4 eY),(.o 805,aI 52 5 cO),(.o 806,aI 52 5 cO),(.o 807,aI 204 10 iX)] ⟨0,.zero,false,p+1,⟨by omega,by omega,by omega,by omega⟩,rfl⟩ (rq [] [] rfl ?_))))))
 repeat' apply ai
 all_goals try exact qx
 all_goals(first|with_reducible rfl|(rfl))
theorem aSc (l:List UInt8) (p:Int) (W:eX) (hp:0≤p∧p≤900000) (hl:l.length≤2000) (hW:W.ok) (hd:W.d≤99000):xd 173 1 [tP 0 800,oB 800 147 [.pt 801 0,.d (.i (W.tm)),.own 802 4,.own 803 3,ps 804 4 (W.a),ps 805 5 (W.b),ps 806 5 (W.c),ps 807 10 (W.d)],oB 801 177 [.d (.sl (aA l)),.d (.i (p))],oR 802 31 5 (aF W.ks),oR 803 4 1 (aL W.ls),(.o 804,aI 260 4 eY),(.o 805,aI 52 5 cO),(.o 806,aI 52 5 cO),(.o 807,aI 204 10 iX)] (fun s=> ∃(W2:eX) (q:Int),(W2.of W 1∧p≤q∧q≤p+10)∧s=[oB 800 147 [.pt 801 0,.d (.i (W2.tm)),.own 802 4,.own 803 3,ps 804 4 (W2.a),ps 805 5 (W2.b),ps 806 5 (W2.c),ps 807 10 (W2.d)],oB 801 177 [.d (.sl (aA l)),.d (.i (q))],oR 802 31 5 (aF W2.ks),oR 803 4 1 (aL W2.ls),(.o 804,aI 260 4 eY),(.o 805,aI 52 5 cO),(.o 806,aI 52 5 cO),(.o 807,aI 204 10 iX)]):=by
 have hall: ∀y∈([[97],[104,101,108,108,111],[97,32,108,111,110,103,101,114,32,109,101,115,115,97,103,101],[97,98,99,100],[49,50,51,52,53,54,55,56],[106,117,115,116,32,116,119,101,110,116,121,45,102,111,117,114,32,98,121,116,101,115,32,33,33],[109,105,120,101,100,32,98,108,111,99,107,115]]:List (List UInt8)),y.length≤60:=by decide
 refine yf Tryz.func173 rfl (sq (rT [0,2] (s4 (bH (robj:=[(801,.box 177 [.d (.sl (aA (l))),.d (.i (p))])]) (rl:=[(0,801)]) (bor:=[]) (cN (l) (p) _ (by omega) hl) rfl rfl rfl rfl ⟨bQ rfl rfl rfl rfl (cJ rfl rfl (aS rfl (aC rfl (aC rfl aG)) trivial)),rfl⟩ rfl (.inl rfl) (aH ⟨rfl,trivial⟩) (fun _ hj=>nomatch hj) (s1 (sq ?_))))))
 obtain⟨i,hi,hil⟩:=wJ (show 0≤bN l p 4∧bN l p 4≤3 by have:=cF l (p:=p) (n:=4) (by omega) (by omega);omega)
 refine rE [0,2,3] (s4 (ai (by exact⟨by simp,by decide⟩) (yQ 15 15 rfl rfl rfl rfl (cY (robj:=[(801,.box 177 [.d (.sl (aA (l))),.d (.i (p+1))])]) (rl:=[(0,801)]) (bor:=[]) (news:=[]) (aLq (l) (p+1) (([[97],[104,101,108,108,111],[97,32,108,111,110,103,101,114,32,109,101,115,115,97,103,101],[97,98,99,100],[49,50,51,52,53,54,55,56],[106,117,115,116,32,116,119,101,110,116,121,45,102,111,117,114,32,98,121,116,101,115,32,33,33],[109,105,120,101,100,32,98,108,111,99,107,115]]:List (List UInt8))) (by simp) (by omega) hl) rfl rfl rfl rfl ⟨bQ rfl rfl rfl rfl (cJ rfl rfl (aS rfl (aC rfl (aC rfl aG)) trivial)),rfl⟩ (by rintro _ ⟨x,hx,rfl⟩;exact⟨rfl,.inl rfl,fun j hj=>nomatch hj⟩) (aH ⟨rfl,trivial⟩) (fun j hj=>nomatch hj) ?_))))
 rintro _ ⟨x,hx,rfl⟩
 refine s1 (SW.midW (fun q=> ∃x2:List UInt8,x2.length≤60∧q=[tP 0 800,tI 2 (i:Nat),tD 3 (.s x2),oB 800 147 [.pt 801 0,.d (.i (W.tm)),.own 802 4,.own 803 3,ps 804 4 (W.a),ps 805 5 (W.b),ps 806 5 (W.c),ps 807 10 (W.d)],oB 801 177 [.d (.sl (aA l)),.d (.i ((p+1+1)))],oR 802 31 5 (aF W.ks),oR 803 4 1 (aL W.ls),(.o 804,aI 260 4 eY),(.o 805,aI 52 5 cO),(.o 806,aI 52 5 cO),(.o 807,aI 204 10 iX)]) ?_ ?_)
 · refine sq (rT [0,2,3,19] (s3 (cd rfl (fun c19=> ?_) fun c19=> ?_)))
   · refine rT [0,2,3] (s1 (ai (by simp[mu,eK,fM] at *; omega) (s1 ?_)))
     first
     |(refine wq (σ':=[tP 0 800,tI 2 (i:Nat),tD 3 (.s (x.take 24)),oB 800 147 [.pt 801 0,.d (.i (W.tm)),.own 802 4,.own 803 3,ps 804 4 (W.a),ps 805 5 (W.b),ps 806 5 (W.c),ps 807 10 (W.d)],oB 801 177 [.d (.sl (aA l)),.d (.i ((p+1+1)))],oR 802 31 5 (aF W.ks),oR 803 4 1 (aL W.ls),(.o 804,aI 260 4 eY),(.o 805,aI 52 5 cO),(.o 806,aI 52 5 cO),(.o 807,aI 204 10 iX)]) [] [] (⟨_,by rw[aV4];omega,rfl⟩) ?_
       repeat' apply ai
       all_goals try exact qx
       all_goals first|with_reducible rfl|exact congrArg D.i hi|rfl)
     |(refine wq (σ':=[tP 0 800,tI 2 (i:Nat),tD 3 (.s x),oB 800 147 [.pt 801 0,.d (.i (W.tm)),.own 802 4,.own 803 3,ps 804 4 (W.a),ps 805 5 (W.b),ps 806 5 (W.c),ps 807 10 (W.d)],oB 801 177 [.d (.sl (aA l)),.d (.i ((p+1+1)))],oR 802 31 5 (aF W.ks),oR 803 4 1 (aL W.ls),(.o 804,aI 260 4 eY),(.o 805,aI 52 5 cO),(.o 806,aI 52 5 cO),(.o 807,aI 204 10 iX)]) [] [] (⟨_,hall x hx,rfl⟩) ?_
       repeat' apply ai
       all_goals try exact qx
       all_goals first|with_reducible rfl|exact congrArg D.i hi|rfl)
   refine sk ?_
   first
   |(refine wq (σ':=[tP 0 800,tI 2 (i:Nat),tD 3 (.s (x.take 24)),oB 800 147 [.pt 801 0,.d (.i (W.tm)),.own 802 4,.own 803 3,ps 804 4 (W.a),ps 805 5 (W.b),ps 806 5 (W.c),ps 807 10 (W.d)],oB 801 177 [.d (.sl (aA l)),.d (.i ((p+1+1)))],oR 802 31 5 (aF W.ks),oR 803 4 1 (aL W.ls),(.o 804,aI 260 4 eY),(.o 805,aI 52 5 cO),(.o 806,aI 52 5 cO),(.o 807,aI 204 10 iX)]) [] [] (⟨_,by rw[aV4];omega,rfl⟩) ?_
     repeat' apply ai
     all_goals try exact qx
     all_goals first|with_reducible rfl|exact congrArg D.i hi|rfl)
   |(refine wq (σ':=[tP 0 800,tI 2 (i:Nat),tD 3 (.s x),oB 800 147 [.pt 801 0,.d (.i (W.tm)),.own 802 4,.own 803 3,ps 804 4 (W.a),ps 805 5 (W.b),ps 806 5 (W.c),ps 807 10 (W.d)],oB 801 177 [.d (.sl (aA l)),.d (.i ((p+1+1)))],oR 802 31 5 (aF W.ks),oR 803 4 1 (aL W.ls),(.o 804,aI 260 4 eY),(.o 805,aI 52 5 cO),(.o 806,aI 52 5 cO),(.o 807,aI 204 10 iX)]) [] [] (⟨_,hall x hx,rfl⟩) ?_
     repeat' apply ai
     all_goals try exact qx
     all_goals first|with_reducible rfl|exact congrArg D.i hi|rfl)
 rintro s ⟨x2,hx2,rfl⟩
 refine sq (rT [0,2,3,4] (s6 (ai (by exact⟨by rw[bE];exact hW.four,by omega,by omega⟩) (ai (by rw[aVy,cD (by rw[hW.four];omega)];exact⟨⟨by rw[bE];exact hW.four,by omega⟩,aV0 rfl,rfl⟩) (xp (gV (W.ks.getD i .zero) (by have:=(hW.at (show i<4 by omega)).1;omega)) (ai (by rw[aVy,cD (by rw[hW.four];omega)];rfl) ?_))))))
 refine s6 (SW.regDE dA mo [] 18 (fun _=>none) rfl rfl (by kernel_rfl) ?_)
 refine s6 (bH (robj:=[(801,.box 177 [.d (.sl (aA (l))),.d (.i (p+1+1))])]) (rl:=[(0,801)]) (bor:=[]) (cN (l) (p+1+1) _ (by omega) hl) rfl rfl rfl rfl ⟨bQ rfl rfl rfl rfl (cJ rfl rfl (aS rfl (aC rfl (aC rfl aG)) trivial)),rfl⟩ rfl (.inl rfl) (aH ⟨rfl,trivial⟩) (fun _ hj=>nomatch hj) (s7 (bH (robj:=[(801,.box 177 [.d (.sl (aA (l))),.d (.i (p+1+1+1))])]) (rl:=[(0,801)]) (bor:=[]) (cN (l) (p+1+1+1) _ (by omega) hl) rfl rfl rfl rfl ⟨bQ rfl rfl rfl rfl (cJ rfl rfl (aS rfl (aC rfl (aC rfl aG)) trivial)),rfl⟩ rfl (.inl rfl) (aH ⟨rfl,trivial⟩) (fun _ hj=>nomatch hj) (s3 (dl (robj:=[(800,.box 147 [.pt 801 0,.d (.i (W.tm)),.own 802 4,.own 803 3,ps 804 4 (W.a),ps 805 5 (W.b),ps 806 5 (W.c),ps 807 10 (W.d)]),(801,.box 177 [.d (.sl (aA l)),.d (.i (p+1+1+1+1))]),(802,.row 31 5 (aF W.ks)),(803,.row 4 1 (aL W.ls)),(804,aI 260 4 eY),(805,aI 52 5 cO),(806,aI 52 5 cO),(807,aI 204 10 iX)]) (rl:=[]) (bor:=[]) (news:=[]) (ej l (p+1+1+1+1) W ⟨1,i,0,0,0,0,0,bN l (p+1+1) 4,wrap64 (wrap64 ((bB (W.ks.getD i .zero)).1.time+1)+bN l (p+1+1+1) 12),x2⟩ hW (by show x2.length≤1000;omega) (by omega)) rfl rfl rfl rfl ⟨bQ rfl rfl rfl rfl (dB rfl (aC rfl (aC rfl (aC rfl (aC rfl (aC rfl (aC rfl (aC rfl (aC rfl (aC rfl (aC rfl aG)))))))))) (aS rfl (dD rfl rfl rfl (aC rfl (bJ rfl rfl rfl (bJ rfl rfl rfl (bF rfl rfl rfl (bF rfl rfl rfl (bF rfl rfl rfl (bF rfl rfl rfl aG)))))))) (aS rfl (aC rfl (aC rfl aG)) (bR rfl rfl (bR rfl rfl (aV rfl rfl (aV rfl rfl (aV rfl rfl (aV rfl rfl trivial))))))))),rfl⟩ (by rintro _ ⟨W2,ok2,hw2,rfl⟩;exact⟨rfl,.inl rfl,fun j hj=>nomatch hj⟩) (aH ⟨rfl,rfl,rfl,rfl,rfl,rfl,rfl,rfl,trivial⟩) (fun j hj=>nomatch hj) ⟨_,W,false,(eX.of.refl hW).le (by omega),rfl⟩ ?_)))))
 rintro _ ⟨W2,ok2,hw2,rfl⟩
 refine ai (by kernel_rfl) (cW [oB 800 147 [.pt 801 0,.d (.i (W2.tm)),.own 802 4,.own 803 3,ps 804 4 (W2.a),ps 805 5 (W2.b),ps 806 5 (W2.c),ps 807 10 (W2.d)],oB 801 177 [.d (.sl (aA l)),.d (.i ((p+1+1+1+1)))],oR 802 31 5 (aF W2.ks),oR 803 4 1 (aL W2.ls),(.o 804,aI 260 4 eY),(.o 805,aI 52 5 cO),(.o 806,aI 52 5 cO),(.o 807,aI 204 10 iX)] ⟨W2,p+1+1+1+1,⟨hw2,by omega,by omega⟩,rfl⟩ (rq [] [] rfl ?_))
 repeat' apply ai
 all_goals try exact qx
 all_goals(first|with_reducible rfl|(rfl))
theorem md (l:List UInt8) (p:Int) (W:eX) (n:Nat) (r:Int) (hp:0≤p∧p≤900000) (hl:l.length≤2000) (hW:W.ok) (hd:W.d≤99000) (hn:n≤40):xd 201 3 [tP 0 800,tI 1 (n:Nat),tI 2 r,oB 800 147 [.pt 801 0,.d (.i (W.tm)),.own 802 4,.own 803 3,ps 804 4 (W.a),ps 805 5 (W.b),ps 806 5 (W.c),ps 807 10 (W.d)],oB 801 177 [.d (.sl (aA l)),.d (.i (p))],oR 802 31 5 (aF W.ks),oR 803 4 1 (aL W.ls),(.o 804,aI 260 4 eY),(.o 805,aI 52 5 cO),(.o 806,aI 52 5 cO),(.o 807,aI 204 10 iX)] (fun s=> ∃(W2:eX) (q:Int),(W2.of W (3*n)∧p≤q∧q≤p+8*n)∧s=[oB 800 147 [.pt 801 0,.d (.i (W2.tm)),.own 802 4,.own 803 3,ps 804 4 (W2.a),ps 805 5 (W2.b),ps 806 5 (W2.c),ps 807 10 (W2.d)],oB 801 177 [.d (.sl (aA l)),.d (.i (q))],oR 802 31 5 (aF W2.ks),oR 803 4 1 (aL W2.ls),(.o 804,aI 260 4 eY),(.o 805,aI 52 5 cO),(.o 806,aI 52 5 cO),(.o 807,aI 204 10 iX)]):=by
 refine yf Tryz.func201 rfl (sq (rT [0,1,2,6] (s1 (bk (SW.loopW (n:=n) (fun x s=> ∃(i:Nat) (V:eX) (q:Int),x=n - i∧(i≤n∧V.of W (3*i)∧p≤q∧q≤p+8*i)∧s=[tP 0 800,tI 1 (n:Nat),tI 2 r,tI 6 (i:Nat),oB 800 147 [.pt 801 0,.d (.i (V.tm)),.own 802 4,.own 803 3,ps 804 4 (V.a),ps 805 5 (V.b),ps 806 5 (V.c),ps 807 10 (V.d)],oB 801 177 [.d (.sl (aA l)),.d (.i (q))],oR 802 31 5 (aF V.ks),oR 803 4 1 (aL V.ls),(.o 804,aI 260 4 eY),(.o 805,aI 52 5 cO),(.o 806,aI 52 5 cO),(.o 807,aI 204 10 iX)]) ?_ ?_)))))
 · exact wq [] [] (⟨0,W,p,rfl,⟨by omega,eX.of.refl hW,by omega,by omega⟩,rfl⟩) qz
 rintro n s ⟨i,V,q,rfl,⟨hin,hV,hq⟩,rfl⟩
 refine sq (sq (rT [0,1,2,6,19] (s4 (y4 (y1 (aC9 dA rfl rfl rfl rfl rfl rk (y1 (ai pk (cd rfl (fun c19=> ?_) fun c19=> ?_)))))))))
 · have hi2:i<n:=by have h9:=c19;simp only[gb,aV1,decide_eq_true_eq] at h9;omega
   have hVd:=hV.few
   have hVo:V.ok:=hV.ok
   try simp only[eX.ok] at hVo
   refine sk (sq (bk (sq (rT [0,1,2,6,7] (s3 (SW.midW (fun s=> ∃(k w m kp q3:Int),(q≤q3∧q3≤q+5)∧s=[tP 0 800,tI 1 (n:Nat),tI 2 r,tI 6 (i:Nat),tP 7 7,oB 800 147 [.pt 801 0,.d (.i (V.tm)),.own 802 4,.own 803 3,ps 804 4 (V.a),ps 805 5 (V.b),ps 806 5 (V.c),ps 807 10 (V.d)],oB 801 177 [.d (.sl (aA l)),.d (.i (q3))],oR 802 31 5 (aF V.ks),oR 803 4 1 (aL V.ls),(.o 804,aI 260 4 eY),(.o 805,aI 52 5 cO),(.o 806,aI 52 5 cO),(.o 807,aI 204 10 iX),oB 7 204 [.d (.i (k)),.d (.i 0),.d (.i 0),.d (.i 0),.d (.i (w)),.d (.i (m)),.d (.i (kp)),.d (.i 0),.d (.i 0),.d (.s [])]]) ?_ ?_))))))
   · refine SW.midW (fun s=> ∃(cb:Bool) (q2:Int),(q≤q2∧q2≤q+1)∧s=[tP 0 800,tI 1 (n:Nat),tI 2 r,tI 6 (i:Nat),tP 7 7,tB 33 cb,oB 800 147 [.pt 801 0,.d (.i (V.tm)),.own 802 4,.own 803 3,ps 804 4 (V.a),ps 805 5 (V.b),ps 806 5 (V.c),ps 807 10 (V.d)],oB 801 177 [.d (.sl (aA l)),.d (.i (q2))],oR 802 31 5 (aF V.ks),oR 803 4 1 (aL V.ls),(.o 804,aI 260 4 eY),(.o 805,aI 52 5 cO),(.o 806,aI 52 5 cO),(.o 807,aI 204 10 iX),oB 7 204 [.d (.i (4)),.d (.i 0),.d (.i 0),.d (.i 0),.d (.i (0)),.d (.i (0)),.d (.i (0)),.d (.i 0),.d (.i 0),.d (.s [])]]) ?_ ?_
     · refine rF [0,1,2,6,7,33] (s1 (s1 (s1 (ai (fun h1=> ?_) (fun h1=> ?_)))))
       · refine s1 (ai (fun _=> ?_) (fun h=>absurd h (by rw[h1];simp)))
         refine s1 (ai (fun _=> ?_) (fun h=>absurd h (by rw[h1];simp)))
         refine s1 (ai (fun _=> ?_) (fun h=>absurd h (by rw[h1];simp)))
         refine s1 (ai (fun _=> ?_) (fun h=>absurd h (by rw[h1];simp)))
         refine s1 (ai (fun _=> ?_) (fun h=>absurd h (by rw[h1];simp)))
         refine gW (bH (robj:=[(801,.box 177 [.d (.sl (aA (l))),.d (.i (q))])]) (rl:=[(0,801)]) (bor:=[]) (cN (l) (q) _ (by omega) hl) rfl rfl rfl rfl ⟨bQ rfl rfl rfl rfl (cJ rfl rfl (aS rfl (aC rfl (aC rfl aG)) trivial)),rfl⟩ rfl (.inl rfl) (aH ⟨rfl,trivial⟩) (fun _ hj=>nomatch hj) (ai (fun _=> ?_) (fun h=>absurd h (by rw[h1];simp))))
         exact s1 (ai pk (wq [] [] ⟨?c1,q+1,⟨by omega,by omega⟩,rfl⟩ qz))
       refine⟨I 0,?_⟩
       refine ai (fun h=>absurd h (by rw[h1];simp)) (fun _=>⟨I 0,?_⟩)
       refine ai (fun h=>absurd h (by rw[h1];simp)) (fun _=>⟨I 0,?_⟩)
       refine ai (fun h=>absurd h (by rw[h1];simp)) (fun _=>⟨I 0,?_⟩)
       refine ai (fun h=>absurd h (by rw[h1];simp)) (fun _=>⟨I 0,?_⟩)
       refine ai (fun h=>absurd h (by rw[h1];simp)) (fun _=>⟨I 0,?_⟩)
       refine ai (fun h=>absurd h (by rw[h1];simp)) (fun _=>⟨B false,?_⟩)
       exact ai (by constructor<;>intro h<;>first|trivial|exact absurd (h1.symm.trans h:false=true) (by decide)) (wq [] [] ⟨?d1,q,⟨by omega,by omega⟩,rfl⟩ qz)
     rintro s ⟨cb,q2,hq2,rfl⟩
     refine cd rfl (fun c33=> ?_) fun c33=> ?_
     · refine sq (rT [0,1,2,6,7,38] (s4 (bH (robj:=[(801,.box 177 [.d (.sl (aA (l))),.d (.i (q2))])]) (rl:=[(0,801)]) (bor:=[]) (cN (l) (q2) _ (by omega) hl) rfl rfl rfl rfl ⟨bQ rfl rfl rfl rfl (cJ rfl rfl (aS rfl (aC rfl (aC rfl aG)) trivial)),rfl⟩ rfl (.inl rfl) (aH ⟨rfl,trivial⟩) (fun _ hj=>nomatch hj) (bk (sq (rT [0,1,2,6,7,38,51] (s2 (cd rfl (fun c51=> ?_) fun c51=> ?_))))))))
       · refine rT [0,1,2,6,7] (s2 ?_)
         first
         |(exact wq [] [] ⟨5,0,0,0,(q2+1),⟨by omega,by omega⟩,rfl⟩ qz)
         |(exact wq [] [] ⟨4,0,0,1,(q2+1),⟨by omega,by omega⟩,rfl⟩ qz)
         |(exact wq [] [] ⟨4,(bN l (q2+1) (V.a:Int)),0,0,(q2+1+1),⟨by omega,by omega⟩,rfl⟩ qz)
         |(exact wq [] [] ⟨6,(bN l (q2+1) (V.a:Int)),(bN l (q2+1+1) 17),(wrap64 (1+(bN l (q2+1+1+1) 255))),(q2+1+1+1+1),⟨by omega,by omega⟩,rfl⟩ qz)
         |(exact wq [] [] ⟨4,0,0,0,q2,⟨by omega,by omega⟩,rfl⟩ qz)
       refine sq (rT [0,1,2,6,7,38,54] (s2 (cd rfl (fun c54=> ?_) fun c54=> ?_)))
       · refine rT [0,1,2,6,7] (s2 ?_)
         first
         |(exact wq [] [] ⟨5,0,0,0,(q2+1),⟨by omega,by omega⟩,rfl⟩ qz)
         |(exact wq [] [] ⟨4,0,0,1,(q2+1),⟨by omega,by omega⟩,rfl⟩ qz)
         |(exact wq [] [] ⟨4,(bN l (q2+1) (V.a:Int)),0,0,(q2+1+1),⟨by omega,by omega⟩,rfl⟩ qz)
         |(exact wq [] [] ⟨6,(bN l (q2+1) (V.a:Int)),(bN l (q2+1+1) 17),(wrap64 (1+(bN l (q2+1+1+1) 255))),(q2+1+1+1+1),⟨by omega,by omega⟩,rfl⟩ qz)
         |(exact wq [] [] ⟨4,0,0,0,q2,⟨by omega,by omega⟩,rfl⟩ qz)
       refine sq (rT [0,1,2,6,7,57] (s2 (cd rfl (fun c57=> ?_) fun c57=> ?_)))
       · refine sq (rT [0,1,2,6,7] (s2 (sq (rD [0,1,2,6,7] (s9 (gm dA rfl rfl rfl rfl rfl (bH (robj:=[(801,.box 177 [.d (.sl (aA (l))),.d (.i (q2+1))])]) (rl:=[(0,801)]) (bor:=[]) (cN (l) (q2+1) _ (by omega) hl) rfl rfl rfl rfl ⟨bQ rfl rfl rfl rfl (cJ rfl rfl (aS rfl (aC rfl (aC rfl aG)) trivial)),rfl⟩ rfl (.inl rfl) (aH ⟨rfl,trivial⟩) (fun _ hj=>nomatch hj) (s2 (ai (by kernel_rfl) (sq (rT [0,1,2,6,7] (s4 (bH (robj:=[(801,.box 177 [.d (.sl (aA (l))),.d (.i (q2+1+1))])]) (rl:=[(0,801)]) (bor:=[]) (cN (l) (q2+1+1) _ (by omega) hl) rfl rfl rfl rfl ⟨bQ rfl rfl rfl rfl (cJ rfl rfl (aS rfl (aC rfl (aC rfl aG)) trivial)),rfl⟩ rfl (.inl rfl) (aH ⟨rfl,trivial⟩) (fun _ hj=>nomatch hj) (s2 (rT [0,1,2,6,7] (s4 (bH (robj:=[(801,.box 177 [.d (.sl (aA (l))),.d (.i (q2+1+1+1))])]) (rl:=[(0,801)]) (bor:=[]) (cN (l) (q2+1+1+1) _ (by omega) hl) rfl rfl rfl rfl ⟨bQ rfl rfl rfl rfl (cJ rfl rfl (aS rfl (aC rfl (aC rfl aG)) trivial)),rfl⟩ rfl (.inl rfl) (aH ⟨rfl,trivial⟩) (fun _ hj=>nomatch hj) ?_)))))))))))))))))
         refine s3 ?_
         first
         |(exact wq [] [] ⟨5,0,0,0,(q2+1),⟨by omega,by omega⟩,rfl⟩ qz)
         |(exact wq [] [] ⟨4,0,0,1,(q2+1),⟨by omega,by omega⟩,rfl⟩ qz)
         |(exact wq [] [] ⟨4,(bN l (q2+1) (V.a:Int)),0,0,(q2+1+1),⟨by omega,by omega⟩,rfl⟩ qz)
         |(exact wq [] [] ⟨6,(bN l (q2+1) (V.a:Int)),(bN l (q2+1+1) 17),(wrap64 (1+(bN l (q2+1+1+1) 255))),(q2+1+1+1+1),⟨by omega,by omega⟩,rfl⟩ qz)
         |(exact wq [] [] ⟨4,0,0,0,q2,⟨by omega,by omega⟩,rfl⟩ qz)
       refine rD [0,1,2,6,7] (s9 (gm dA rfl rfl rfl rfl rfl (bH (robj:=[(801,.box 177 [.d (.sl (aA (l))),.d (.i (q2+1))])]) (rl:=[(0,801)]) (bor:=[]) (cN (l) (q2+1) _ (by omega) hl) rfl rfl rfl rfl ⟨bQ rfl rfl rfl rfl (cJ rfl rfl (aS rfl (aC rfl (aC rfl aG)) trivial)),rfl⟩ rfl (.inl rfl) (aH ⟨rfl,trivial⟩) (fun _ hj=>nomatch hj) (s2 (ai (by kernel_rfl) ?_)))))
       first
       |(exact wq [] [] ⟨5,0,0,0,(q2+1),⟨by omega,by omega⟩,rfl⟩ qz)
       |(exact wq [] [] ⟨4,0,0,1,(q2+1),⟨by omega,by omega⟩,rfl⟩ qz)
       |(exact wq [] [] ⟨4,(bN l (q2+1) (V.a:Int)),0,0,(q2+1+1),⟨by omega,by omega⟩,rfl⟩ qz)
       |(exact wq [] [] ⟨6,(bN l (q2+1) (V.a:Int)),(bN l (q2+1+1) 17),(wrap64 (1+(bN l (q2+1+1+1) 255))),(q2+1+1+1+1),⟨by omega,by omega⟩,rfl⟩ qz)
       |(exact wq [] [] ⟨4,0,0,0,q2,⟨by omega,by omega⟩,rfl⟩ qz)
     refine sk ?_
     first
     |(exact wq [] [] ⟨5,0,0,0,(q2+1),⟨by omega,by omega⟩,rfl⟩ qz)
     |(exact wq [] [] ⟨4,0,0,1,(q2+1),⟨by omega,by omega⟩,rfl⟩ qz)
     |(exact wq [] [] ⟨4,(bN l (q2+1) (V.a:Int)),0,0,(q2+1+1),⟨by omega,by omega⟩,rfl⟩ qz)
     |(exact wq [] [] ⟨6,(bN l (q2+1) (V.a:Int)),(bN l (q2+1+1) 17),(wrap64 (1+(bN l (q2+1+1+1) 255))),(q2+1+1+1+1),⟨by omega,by omega⟩,rfl⟩ qz)
     |(exact wq [] [] ⟨4,0,0,0,q2,⟨by omega,by omega⟩,rfl⟩ qz)
   rintro s ⟨k,w,m,kp,q3,hq3,rfl⟩
   refine SW.midW (fun s=> ∃V3:eX,V3.of V 2∧s=[tP 0 800,tI 1 (n:Nat),tI 2 r,tI 6 (i:Nat),tP 7 7,oB 800 147 [.pt 801 0,.d (.i (V3.tm)),.own 802 4,.own 803 3,ps 804 4 (V3.a),ps 805 5 (V3.b),ps 806 5 (V3.c),ps 807 10 (V3.d)],oB 801 177 [.d (.sl (aA l)),.d (.i (q3))],oR 802 31 5 (aF V3.ks),oR 803 4 1 (aL V3.ls),(.o 804,aI 260 4 eY),(.o 805,aI 52 5 cO),(.o 806,aI 52 5 cO),(.o 807,aI 204 10 iX),oB 7 204 [.d (.i (k)),.d (.i 0),.d (.i 0),.d (.i 0),.d (.i (w)),.d (.i (m)),.d (.i (kp)),.d (.i 0),.d (.i 0),.d (.s [])]]) ?_ ?_
   · refine sq (rE [0,1,2,6,7,88] (s2 (cY (robj:=[(800,.box 147 [.pt 801 0,.d (.i (V.tm)),.own 802 4,.own 803 3,ps 804 4 (V.a),ps 805 5 (V.b),ps 806 5 (V.c),ps 807 10 (V.d)]),(801,.box 177 [.d (.sl (aA l)),.d (.i (q3))]),(802,.row 31 5 (aF V.ks)),(803,.row 4 1 (aL V.ls)),(804,aI 260 4 eY),(805,aI 52 5 cO),(806,aI 52 5 cO),(807,aI 204 10 iX)]) (rl:=[]) (bor:=[]) (news:=[]) (ej l (q3) V ⟨k,0,0,0,w,m,kp,0,0,[]⟩ hV.ok (by simp) (by omega)) rfl rfl rfl rfl ⟨bQ rfl rfl rfl rfl (dB rfl (aC rfl (aC rfl (aC rfl (aC rfl (aC rfl (aC rfl (aC rfl (aC rfl (aC rfl (aC rfl aG)))))))))) (aS rfl (dD rfl rfl rfl (aC rfl (bJ rfl rfl rfl (bJ rfl rfl rfl (bF rfl rfl rfl (bF rfl rfl rfl (bF rfl rfl rfl (bF rfl rfl rfl aG)))))))) (aS rfl (aC rfl (aC rfl aG)) (bR rfl rfl (bR rfl rfl (aV rfl rfl (aV rfl rfl (aV rfl rfl (aV rfl rfl trivial))))))))),rfl⟩ (by rintro _ ⟨W2,ok2,hw2,rfl⟩;exact⟨rfl,.inl rfl,fun j hj=>nomatch hj⟩) (aH ⟨rfl,rfl,rfl,rfl,rfl,rfl,rfl,rfl,trivial⟩) (fun j hj=>nomatch hj) ?_)))
     rintro _ ⟨W2,ok2,hw2,rfl⟩
     refine s1 (cd rfl (fun c88=> ?_) fun c88=> ?_)
     · refine rE [0,1,2,6,7] (s2 (cY (robj:=[(800,.box 147 [.pt 801 0,.d (.i (W2.tm)),.own 802 4,.own 803 3,ps 804 4 (W2.a),ps 805 5 (W2.b),ps 806 5 (W2.c),ps 807 10 (W2.d)]),(801,.box 177 [.d (.sl (aA l)),.d (.i (q3))]),(802,.row 31 5 (aF W2.ks)),(803,.row 4 1 (aL W2.ls)),(804,aI 260 4 eY),(805,aI 52 5 cO),(806,aI 52 5 cO),(807,aI 204 10 iX)]) (rl:=[]) (bor:=[]) (news:=[]) (ej l (q3) W2 ⟨5,0,0,0,0,0,0,0,0,[]⟩ hw2.ok (by simp) (by have:=hw2.few;omega)) rfl rfl rfl rfl ⟨bQ rfl rfl rfl rfl (dB rfl (aC rfl (aC rfl (aC rfl (aC rfl (aC rfl (aC rfl (aC rfl (aC rfl (aC rfl (aC rfl aG)))))))))) (aS rfl (dD rfl rfl rfl (aC rfl (bJ rfl rfl rfl (bJ rfl rfl rfl (bF rfl rfl rfl (bF rfl rfl rfl (bF rfl rfl rfl (bF rfl rfl rfl aG)))))))) (aS rfl (aC rfl (aC rfl aG)) (bR rfl rfl (bR rfl rfl (aV rfl rfl (aV rfl rfl (aV rfl rfl (aV rfl rfl trivial))))))))),rfl⟩ (by rintro _ ⟨W25,ok25,hw25,rfl⟩;exact⟨rfl,.inl rfl,fun j hj=>nomatch hj⟩) (aH ⟨rfl,rfl,rfl,rfl,rfl,rfl,rfl,rfl,trivial⟩) (fun j hj=>nomatch hj) ?_))
       rintro _ ⟨W25,ok25,hw25,rfl⟩
       first
       |(exact wq [] [] ⟨W25,(hw2.trans hw25),rfl⟩ qz)
       |(exact wq [] [] ⟨W2,(hw2.le (by omega)),rfl⟩ qz)
     refine sk ?_
     first
     |(exact wq [] [] ⟨W25,(hw2.trans hw25),rfl⟩ qz)
     |(exact wq [] [] ⟨W2,(hw2.le (by omega)),rfl⟩ qz)
   rintro s ⟨V3,hV3,rfl⟩
   have hV3d:=hV3.few
   refine SW.midW (fun s=> ∃(cb:Bool) (q4:Int),(q3≤q4∧q4≤q3+1)∧s=[tP 0 800,tI 1 (n:Nat),tI 2 r,tI 6 (i:Nat),tP 7 7,tB 102 cb,oB 800 147 [.pt 801 0,.d (.i (V3.tm)),.own 802 4,.own 803 3,ps 804 4 (V3.a),ps 805 5 (V3.b),ps 806 5 (V3.c),ps 807 10 (V3.d)],oB 801 177 [.d (.sl (aA l)),.d (.i (q4))],oR 802 31 5 (aF V3.ks),oR 803 4 1 (aL V3.ls),(.o 804,aI 260 4 eY),(.o 805,aI 52 5 cO),(.o 806,aI 52 5 cO),(.o 807,aI 204 10 iX),oB 7 204 [.d (.i (k)),.d (.i 0),.d (.i 0),.d (.i 0),.d (.i (w)),.d (.i (m)),.d (.i (kp)),.d (.i 0),.d (.i 0),.d (.s [])]]) ?_ ?_
   · refine rF [0,1,2,6,7,102] (s1 (s1 (s1 (s1 (ai (fun h1=> ?_) (fun h1=> ?_))))))
     · refine s1 (ai (fun _=> ?_) (fun h=>absurd h (by rw[h1];simp)))
       refine s1 (ai (fun _=> ?_) (fun h=>absurd h (by rw[h1];simp)))
       refine s1 (ai (fun _=> ?_) (fun h=>absurd h (by rw[h1];simp)))
       refine s1 (ai (fun _=> ?_) (fun h=>absurd h (by rw[h1];simp)))
       refine gW (bH (robj:=[(801,.box 177 [.d (.sl (aA (l))),.d (.i (q3))])]) (rl:=[(0,801)]) (bor:=[]) (cN (l) (q3) _ (by omega) hl) rfl rfl rfl rfl ⟨bQ rfl rfl rfl rfl (cJ rfl rfl (aS rfl (aC rfl (aC rfl aG)) trivial)),rfl⟩ rfl (.inl rfl) (aH ⟨rfl,trivial⟩) (fun _ hj=>nomatch hj) (ai (fun _=> ?_) (fun h=>absurd h (by rw[h1];simp))))
       exact s1 (ai pk (wq [] [] ⟨?c2,q3+1,⟨by omega,by omega⟩,rfl⟩ qz))
     refine⟨I 0,?_⟩
     refine ai (fun h=>absurd h (by rw[h1];simp)) (fun _=>⟨I 0,?_⟩)
     refine ai (fun h=>absurd h (by rw[h1];simp)) (fun _=>⟨I 0,?_⟩)
     refine ai (fun h=>absurd h (by rw[h1];simp)) (fun _=>⟨I 0,?_⟩)
     refine ai (fun h=>absurd h (by rw[h1];simp)) (fun _=>⟨I 0,?_⟩)
     refine ai (fun h=>absurd h (by rw[h1];simp)) (fun _=>⟨B false,?_⟩)
     exact ai (by constructor<;>intro h<;>first|trivial|exact absurd (h1.symm.trans h:false=true) (by decide)) (wq [] [] ⟨?d2,q3,⟨by omega,by omega⟩,rfl⟩ qz)
   rintro s ⟨cb2,q4,hq4,rfl⟩
   refine cd rfl (fun c102=> ?_) fun c102=> ?_
   · refine sq (rT [0,1,2,6,7] (s4 (bH (robj:=[(801,.box 177 [.d (.sl (aA (l))),.d (.i (q4))])]) (rl:=[(0,801)]) (bor:=[]) (cN (l) (q4) _ (by omega) hl) rfl rfl rfl rfl ⟨bQ rfl rfl rfl rfl (cJ rfl rfl (aS rfl (aC rfl (aC rfl aG)) trivial)),rfl⟩ rfl (.inl rfl) (aH ⟨rfl,trivial⟩) (fun _ hj=>nomatch hj) (s2 (sq (rT [0,1,2,6,7] (s4 (bH (robj:=[(801,.box 177 [.d (.sl (aA (l))),.d (.i (q4+1))])]) (rl:=[(0,801)]) (bor:=[]) (cN (l) (q4+1) _ (by omega) hl) rfl rfl rfl rfl ⟨bQ rfl rfl rfl rfl (cJ rfl rfl (aS rfl (aC rfl (aC rfl aG)) trivial)),rfl⟩ rfl (.inl rfl) (aH ⟨rfl,trivial⟩) (fun _ hj=>nomatch hj) (s3 (rE [0,1,2,6] (s2 (cY (robj:=[(800,.box 147 [.pt 801 0,.d (.i (V3.tm)),.own 802 4,.own 803 3,ps 804 4 (V3.a),ps 805 5 (V3.b),ps 806 5 (V3.c),ps 807 10 (V3.d)]),(801,.box 177 [.d (.sl (aA l)),.d (.i (q4+1+1))]),(802,.row 31 5 (aF V3.ks)),(803,.row 4 1 (aL V3.ls)),(804,aI 260 4 eY),(805,aI 52 5 cO),(806,aI 52 5 cO),(807,aI 204 10 iX)]) (rl:=[]) (bor:=[]) (news:=[]) (ej l (q4+1+1) V3 ⟨k,0,0,0,w,(bN l (q4) 17),(wrap64 (1+(bN l (q4+1) 255))),0,0,[]⟩ hV3.ok (by simp) (by omega)) rfl rfl rfl rfl ⟨bQ rfl rfl rfl rfl (dB rfl (aC rfl (aC rfl (aC rfl (aC rfl (aC rfl (aC rfl (aC rfl (aC rfl (aC rfl (aC rfl aG)))))))))) (aS rfl (dD rfl rfl rfl (aC rfl (bJ rfl rfl rfl (bJ rfl rfl rfl (bF rfl rfl rfl (bF rfl rfl rfl (bF rfl rfl rfl (bF rfl rfl rfl aG)))))))) (aS rfl (aC rfl (aC rfl aG)) (bR rfl rfl (bR rfl rfl (aV rfl rfl (aV rfl rfl (aV rfl rfl (aV rfl rfl trivial))))))))),rfl⟩ (by rintro _ ⟨W24,ok24,hw24,rfl⟩;exact⟨rfl,.inl rfl,fun j hj=>nomatch hj⟩) (aH ⟨rfl,rfl,rfl,rfl,rfl,rfl,rfl,rfl,trivial⟩) (fun j hj=>nomatch hj) ?_))))))))))))
     rintro _ ⟨W24,ok24,hw24,rfl⟩
     refine rT [0,1,2,6] (s3 ?_)
     first
     |(refine wq [] [] ⟨n - (i+1),by omega,i+1,W24,(q4+1+1),rfl,⟨by omega,((hV.trans (hV3.trans hw24)).le (by omega)),by omega,by omega⟩,rfl⟩ ?_
       repeat' apply ai
       all_goals try exact qx
       all_goals first|with_reducible rfl|exact congrArg D.i (aB (by omega))|rfl)
     |(refine wq [] [] ⟨n - (i+1),by omega,i+1,V3,q4,rfl,⟨by omega,((hV.trans hV3).le (by omega)),by omega,by omega⟩,rfl⟩ ?_
       repeat' apply ai
       all_goals try exact qx
       all_goals first|with_reducible rfl|exact congrArg D.i (aB (by omega))|rfl)
   refine sk (rT [0,1,2,6] (s3 ?_))
   first
   |(refine wq [] [] ⟨n - (i+1),by omega,i+1,W24,(q4+1+1),rfl,⟨by omega,((hV.trans (hV3.trans hw24)).le (by omega)),by omega,by omega⟩,rfl⟩ ?_
     repeat' apply ai
     all_goals try exact qx
     all_goals first|with_reducible rfl|exact congrArg D.i (aB (by omega))|rfl)
   |(refine wq [] [] ⟨n - (i+1),by omega,i+1,V3,q4,rfl,⟨by omega,((hV.trans hV3).le (by omega)),by omega,by omega⟩,rfl⟩ ?_
     repeat' apply ai
     all_goals try exact qx
     all_goals first|with_reducible rfl|exact congrArg D.i (aB (by omega))|rfl)
 refine xt (cW [oB 800 147 [.pt 801 0,.d (.i (V.tm)),.own 802 4,.own 803 3,ps 804 4 (V.a),ps 805 5 (V.b),ps 806 5 (V.c),ps 807 10 (V.d)],oB 801 177 [.d (.sl (aA l)),.d (.i (q))],oR 802 31 5 (aF V.ks),oR 803 4 1 (aL V.ls),(.o 804,aI 260 4 eY),(.o 805,aI 52 5 cO),(.o 806,aI 52 5 cO),(.o 807,aI 204 10 iX)] ⟨V,q,⟨hV.le (by omega),by omega,by omega⟩,rfl⟩ (rq [] [] rfl ?_))
 repeat' apply ai
 all_goals try exact qx
 all_goals(first|with_reducible rfl|(rfl))
theorem me (l:List UInt8) (p:Int) (W:eX) (n:Nat) (r:Int) (hp:0≤p∧p≤890000) (hl:l.length≤2000) (hW:W.ok) (hd:W.d≤98000) (hn:n≤7):xd 165 3 [tP 0 800,tI 1 (n:Nat),tI 2 r,oB 800 147 [.pt 801 0,.d (.i (W.tm)),.own 802 4,.own 803 3,ps 804 4 (W.a),ps 805 5 (W.b),ps 806 5 (W.c),ps 807 10 (W.d)],oB 801 177 [.d (.sl (aA l)),.d (.i (p))],oR 802 31 5 (aF W.ks),oR 803 4 1 (aL W.ls),(.o 804,aI 260 4 eY),(.o 805,aI 52 5 cO),(.o 806,aI 52 5 cO),(.o 807,aI 204 10 iX)] (fun s=> ∃(W2:eX) (q:Int),(W2.of W 40∧p≤q∧q≤p+100)∧s=[oB 800 147 [.pt 801 0,.d (.i (W2.tm)),.own 802 4,.own 803 3,ps 804 4 (W2.a),ps 805 5 (W2.b),ps 806 5 (W2.c),ps 807 10 (W2.d)],oB 801 177 [.d (.sl (aA l)),.d (.i (q))],oR 802 31 5 (aF W2.ks),oR 803 4 1 (aL W2.ls),(.o 804,aI 260 4 eY),(.o 805,aI 52 5 cO),(.o 806,aI 52 5 cO),(.o 807,aI 204 10 iX)]):=by
 refine yf Tryz.func165 rfl (sq (rE [0,1,2,6,7,8] (s1 (cY (robj:=[(800,.box 147 [.pt 801 0,.d (.i (W.tm)),.own 802 4,.own 803 3,ps 804 4 (W.a),ps 805 5 (W.b),ps 806 5 (W.c),ps 807 10 (W.d)]),(801,.box 177 [.d (.sl (aA l)),.d (.i (p))]),(802,.row 31 5 (aF W.ks)),(803,.row 4 1 (aL W.ls)),(804,aI 260 4 eY),(805,aI 52 5 cO),(806,aI 52 5 cO),(807,aI 204 10 iX)]) (rl:=[]) (bor:=[]) (news:=[]) (aN8 l p W (by omega) hl hW (by omega)) rfl rfl rfl rfl ⟨bQ rfl rfl rfl rfl (aS rfl (dD rfl rfl rfl (aC rfl (bJ rfl rfl rfl (bJ rfl rfl rfl (bF rfl rfl rfl (bF rfl rfl rfl (bF rfl rfl rfl (bF rfl rfl rfl aG)))))))) (aS rfl (aC rfl (aC rfl aG)) (bR rfl rfl (bR rfl rfl (aV rfl rfl (aV rfl rfl (aV rfl rfl (aV rfl rfl trivial)))))))),rfl⟩ (by rintro _ ⟨i0,n1,ok1,q1,hq1,rfl⟩;exact⟨rfl,.inl rfl,fun j hj=>nomatch hj⟩) (aH ⟨rfl,rfl,rfl,rfl,rfl,rfl,rfl,rfl,trivial⟩) (fun j hj=>nomatch hj) ?_))))
 rintro _ ⟨i0,n1,ok1,q1,hq1,rfl⟩
 refine s8 (sq (sq (rT [0,1,2,6,7,18] (s2 (cd rfl (fun c18=> ?_) fun c18=> ?_)))))
 · refine rt (cW [oB 800 147 [.pt 801 0,.d (.i (W.tm)),.own 802 4,.own 803 3,ps 804 4 (W.a),ps 805 5 (W.b),ps 806 5 (W.c),ps 807 10 (W.d)],oB 801 177 [.d (.sl (aA l)),.d (.i (q1))],oR 802 31 5 (aF W.ks),oR 803 4 1 (aL W.ls),(.o 804,aI 260 4 eY),(.o 805,aI 52 5 cO),(.o 806,aI 52 5 cO),(.o 807,aI 204 10 iX)] ⟨W,q1,⟨(eX.of.refl hW).le (by omega),by omega,by omega⟩,rfl⟩ (rq [] [] rfl ?_))
   repeat' apply ai
   all_goals try exact qx
   all_goals(first|with_reducible rfl|(rfl))
 refine sk (sq (rD [0,1,2,6,7,9] (s4 (bH (robj:=[(801,.box 177 [.d (.sl (aA (l))),.d (.i (q1))])]) (rl:=[(0,801)]) (bor:=[]) (cN (l) (q1) _ (by omega) hl) rfl rfl rfl rfl ⟨bQ rfl rfl rfl rfl (cJ rfl rfl (aS rfl (aC rfl (aC rfl aG)) trivial)),rfl⟩ rfl (.inl rfl) (aH ⟨rfl,trivial⟩) (fun _ hj=>nomatch hj) (s4 (bH (robj:=[(801,.box 177 [.d (.sl (aA (l))),.d (.i (q1+1))])]) (rl:=[(0,801)]) (bor:=[]) (cN (l) (q1+1) _ (by omega) hl) rfl rfl rfl rfl ⟨bQ rfl rfl rfl rfl (cJ rfl rfl (aS rfl (aC rfl (aC rfl aG)) trivial)),rfl⟩ rfl (.inl rfl) (aH ⟨rfl,trivial⟩) (fun _ hj=>nomatch hj) (s2 (ai (by kernel_rfl) (sq (sq (rT [0,1,2,6,7,9,10] (s1 (bk ?_)))))))))))))
 obtain⟨m9,hm9⟩: ∃m9:Int,m9=wrap64 (bN l q1 2*bN l (q1+1) 40):=⟨_,rfl⟩
 refine SW.loopW (n:=n) (fun x s=> ∃(i:Nat) (V:eX),x=n - i∧(i≤n∧V.of W i)∧s=[tP 0 800,tI 1 (n:Nat),tI 2 r,tI 10 (i:Nat),tI 6 i0,tP 7 7,tI 9 m9,oB 800 147 [.pt 801 0,.d (.i (V.tm)),.own 802 4,.own 803 3,ps 804 4 (V.a),ps 805 5 (V.b),ps 806 5 (V.c),ps 807 10 (V.d)],oB 801 177 [.d (.sl (aA l)),.d (.i (q1+1+1))],oR 802 31 5 (aF V.ks),oR 803 4 1 (aL V.ls),(.o 804,aI 260 4 eY),(.o 805,aI 52 5 cO),(.o 806,aI 52 5 cO),(.o 807,aI 204 10 iX),oB 7 52 [.d (.i n1.frm),.d (.i n1.num),.d (.i n1.to),.d (.i n1.til),.d (.s n1.text)]]) ?_ ?_
 · refine wq [] [] (⟨0,W,rfl,⟨by omega,eX.of.refl hW⟩,rfl⟩) ?_
   repeat' apply ai
   all_goals first|exact qx|exact congrArg D.i hm9.symm|rfl|exact qz
 rintro n s ⟨i,V,rfl,⟨hin,hV⟩,rfl⟩
 have hVd:=hV.few
 refine sq (sq (rT [0,1,2,6,7,9,10,32] (s3 (cd rfl (fun c32=> ?_) fun c32=> ?_))))
 · have hi2:i<n:=by simp at c32;omega
   refine sk (sq (bk (rE [0,1,2,6,7,9,10] (s9 (s1 (cY (robj:=[(800,.box 147 [.pt 801 0,.d (.i (V.tm)),.own 802 4,.own 803 3,ps 804 4 (V.a),ps 805 5 (V.b),ps 806 5 (V.c),ps 807 10 (V.d)]),(801,.box 177 [.d (.sl (aA l)),.d (.i (q1+1+1))]),(802,.row 31 5 (aF V.ks)),(803,.row 4 1 (aL V.ls)),(804,aI 260 4 eY),(805,aI 52 5 cO),(806,aI 52 5 cO),(807,aI 204 10 iX)]) (rl:=[]) (bor:=[]) (news:=[]) (ej l (q1+1+1) V ⟨3,i0,n1.frm,n1.num,0,wrap64 (m9+i),0,0,0,[]⟩ hV.ok (by simp) (by omega)) rfl rfl rfl rfl ⟨bQ rfl rfl rfl rfl (dB rfl (aC rfl (aC rfl (aC rfl (aC rfl (aC rfl (aC rfl (aC rfl (aC rfl (aC rfl (aC rfl aG)))))))))) (aS rfl (dD rfl rfl rfl (aC rfl (bJ rfl rfl rfl (bJ rfl rfl rfl (bF rfl rfl rfl (bF rfl rfl rfl (bF rfl rfl rfl (bF rfl rfl rfl aG)))))))) (aS rfl (aC rfl (aC rfl aG)) (bR rfl rfl (bR rfl rfl (aV rfl rfl (aV rfl rfl (aV rfl rfl (aV rfl rfl trivial))))))))),rfl⟩ (by rintro _ ⟨W2,ok2,hw2,rfl⟩;exact⟨rfl,.inl rfl,fun j hj=>nomatch hj⟩) (aH ⟨rfl,rfl,rfl,rfl,rfl,rfl,rfl,rfl,trivial⟩) (fun j hj=>nomatch hj) ?_))))))
   rintro _ ⟨W2,ok2,hw2,rfl⟩
   refine rT [0,1,2,6,7,9,10] (s3 (wq [] [] (⟨n - (i+1),by omega,i+1,W2,rfl,⟨by omega,hV.trans hw2⟩,rfl⟩) ?_))
   repeat' apply ai
   all_goals first|exact qx|exact congrArg D.i (aB (by omega))|rfl|exact qz
 refine xt ?_
 obtain⟨m,hm,hml⟩: ∃m:Nat,bN l (q1+1+1) (wrap64 ((n:Int)+4))=(m:Int)∧m≤10:=by have:=cF l (p:=q1+1+1) (n:=wrap64 ((n:Int)+4)) (by omega) (by rw[aB (by omega)];omega);rw[aB (n:=(n:Int)+4) (by omega)] at *; exact⟨(bN l (q1+1+1) ((n:Int)+4)).toNat,by omega,by omega⟩
 refine rE [] (s7 (gW (bH (robj:=[(801,.box 177 [.d (.sl (aA (l))),.d (.i (q1+1+1))])]) (rl:=[(0,801)]) (bor:=[]) (cN (l) (q1+1+1) _ (by omega) hl) rfl rfl rfl rfl ⟨bQ rfl rfl rfl rfl (cJ rfl rfl (aS rfl (aC rfl (aC rfl aG)) trivial)),rfl⟩ rfl (.inl rfl) (aH ⟨rfl,trivial⟩) (fun _ hj=>nomatch hj) (s1 (cY (robj:=[(800,.box 147 [.pt 801 0,.d (.i (V.tm)),.own 802 4,.own 803 3,ps 804 4 (V.a),ps 805 5 (V.b),ps 806 5 (V.c),ps 807 10 (V.d)]),(801,.box 177 [.d (.sl (aA l)),.d (.i (q1+1+1+1))]),(802,.row 31 5 (aF V.ks)),(803,.row 4 1 (aL V.ls)),(804,aI 260 4 eY),(805,aI 52 5 cO),(806,aI 52 5 cO),(807,aI 204 10 iX)]) (rl:=[]) (bor:=[]) (news:=[]) (md l (q1+1+1+1) V m r (by omega) hl hV.ok (by omega) (by omega)) rfl rfl rfl rfl ⟨bQ rfl rfl rfl rfl (cJ rfl (congrArg D.i hm) (cJ rfl rfl (aS rfl (dD rfl rfl rfl (aC rfl (bJ rfl rfl rfl (bJ rfl rfl rfl (bF rfl rfl rfl (bF rfl rfl rfl (bF rfl rfl rfl (bF rfl rfl rfl aG)))))))) (aS rfl (aC rfl (aC rfl aG)) (bR rfl rfl (bR rfl rfl (aV rfl rfl (aV rfl rfl (aV rfl rfl (aV rfl rfl trivial)))))))))),rfl⟩ (by rintro _ ⟨W2,q2,hw2,rfl⟩;exact⟨rfl,.inl rfl,fun j hj=>nomatch hj⟩) (aH ⟨rfl,rfl,rfl,rfl,rfl,rfl,rfl,rfl,trivial⟩) (fun j hj=>nomatch hj) ?_)))))
 rintro _ ⟨W2,q2,hw2,rfl⟩
 refine cW [oB 800 147 [.pt 801 0,.d (.i (W2.tm)),.own 802 4,.own 803 3,ps 804 4 (W2.a),ps 805 5 (W2.b),ps 806 5 (W2.c),ps 807 10 (W2.d)],oB 801 177 [.d (.sl (aA l)),.d (.i (q2))],oR 802 31 5 (aF W2.ks),oR 803 4 1 (aL W2.ls),(.o 804,aI 260 4 eY),(.o 805,aI 52 5 cO),(.o 806,aI 52 5 cO),(.o 807,aI 204 10 iX)] ⟨W2,q2,⟨(hV.trans hw2.1).le (by omega),by omega,by omega⟩,rfl⟩ (rq [] [] rfl ?_)
 repeat' apply ai
 all_goals try exact qx
 all_goals(first|with_reducible rfl|(rfl))
theorem aT3 (l:List UInt8) (p:Int) (W:eX) (hp:0≤p∧p≤880000) (hl:l.length≤2000) (hW:W.ok) (hd:W.d≤97000):xd 214 1 [tP 0 800,oB 800 147 [.pt 801 0,.d (.i (W.tm)),.own 802 4,.own 803 3,ps 804 4 (W.a),ps 805 5 (W.b),ps 806 5 (W.c),ps 807 10 (W.d)],oB 801 177 [.d (.sl (aA l)),.d (.i (p))],oR 802 31 5 (aF W.ks),oR 803 4 1 (aL W.ls),(.o 804,aI 260 4 eY),(.o 805,aI 52 5 cO),(.o 806,aI 52 5 cO),(.o 807,aI 204 10 iX)] (fun s=> ∃(W2:eX) (q:Int),(W2.of W 500∧p≤q∧q≤p+1000)∧s=[oB 800 147 [.pt 801 0,.d (.i (W2.tm)),.own 802 4,.own 803 3,ps 804 4 (W2.a),ps 805 5 (W2.b),ps 806 5 (W2.c),ps 807 10 (W2.d)],oB 801 177 [.d (.sl (aA l)),.d (.i (q))],oR 802 31 5 (aF W2.ks),oR 803 4 1 (aL W2.ls),(.o 804,aI 260 4 eY),(.o 805,aI 52 5 cO),(.o 806,aI 52 5 cO),(.o 807,aI 204 10 iX)]):=by
 refine yf Tryz.func214 rfl (sq (rE [0] (s1 (cY (robj:=[(800,.box 147 [.pt 801 0,.d (.i (W.tm)),.own 802 4,.own 803 3,ps 804 4 (W.a),ps 805 5 (W.b),ps 806 5 (W.c),ps 807 10 (W.d)]),(801,.box 177 [.d (.sl (aA l)),.d (.i (p))]),(802,.row 31 5 (aF W.ks)),(803,.row 4 1 (aL W.ls)),(804,aI 260 4 eY),(805,aI 52 5 cO),(806,aI 52 5 cO),(807,aI 204 10 iX)]) (rl:=[]) (bor:=[]) (news:=[]) (md l p W 40 0 (by omega) hl hW (by omega) (by omega)) rfl rfl rfl rfl ⟨bQ rfl rfl rfl rfl (cJ rfl rfl (cJ rfl rfl (aS rfl (dD rfl rfl rfl (aC rfl (bJ rfl rfl rfl (bJ rfl rfl rfl (bF rfl rfl rfl (bF rfl rfl rfl (bF rfl rfl rfl (bF rfl rfl rfl aG)))))))) (aS rfl (aC rfl (aC rfl aG)) (bR rfl rfl (bR rfl rfl (aV rfl rfl (aV rfl rfl (aV rfl rfl (aV rfl rfl trivial)))))))))),rfl⟩ (by rintro _ ⟨W1,q1,hw1,rfl⟩;exact⟨rfl,.inl rfl,fun j hj=>nomatch hj⟩) (aH ⟨rfl,rfl,rfl,rfl,rfl,rfl,rfl,rfl,trivial⟩) (fun j hj=>nomatch hj) ?_))))
 rintro _ ⟨W1,q1,hw1,rfl⟩
 refine sq (rE [0] (s1 (cY (robj:=[(800,.box 147 [.pt 801 0,.d (.i (W1.tm)),.own 802 4,.own 803 3,ps 804 4 (W1.a),ps 805 5 (W1.b),ps 806 5 (W1.c),ps 807 10 (W1.d)]),(801,.box 177 [.d (.sl (aA l)),.d (.i (q1))]),(802,.row 31 5 (aF W1.ks)),(803,.row 4 1 (aL W1.ls)),(804,aI 260 4 eY),(805,aI 52 5 cO),(806,aI 52 5 cO),(807,aI 204 10 iX)]) (rl:=[]) (bor:=[]) (news:=[]) (me l q1 W1 6 0 (by omega) hl hw1.1.ok (by have:=hw1.1.few;omega) (by omega)) rfl rfl rfl rfl ⟨bQ rfl rfl rfl rfl (cJ rfl rfl (cJ rfl rfl (aS rfl (dD rfl rfl rfl (aC rfl (bJ rfl rfl rfl (bJ rfl rfl rfl (bF rfl rfl rfl (bF rfl rfl rfl (bF rfl rfl rfl (bF rfl rfl rfl aG)))))))) (aS rfl (aC rfl (aC rfl aG)) (bR rfl rfl (bR rfl rfl (aV rfl rfl (aV rfl rfl (aV rfl rfl (aV rfl rfl trivial)))))))))),rfl⟩ (by rintro _ ⟨W2,q2,hw2,rfl⟩;exact⟨rfl,.inl rfl,fun j hj=>nomatch hj⟩) (aH ⟨rfl,rfl,rfl,rfl,rfl,rfl,rfl,rfl,trivial⟩) (fun j hj=>nomatch hj) ?_)))
 rintro _ ⟨W2,q2,hw2,rfl⟩
 refine sq (sq (rT [0,2] (s1 (bk ?_))))
 have hw1d:=hw1.1.few
 have hw2d:=hw2.1.few
 refine SW.loopW (n:=2) (fun x s=> ∃(i:Nat) (V:eX) (q:Int),x=2 - i∧(i≤2∧V.of W (160+30*i)∧p≤q∧q≤p+420+i)∧s=[tP 0 800,tI 2 (i:Nat),oB 800 147 [.pt 801 0,.d (.i (V.tm)),.own 802 4,.own 803 3,ps 804 4 (V.a),ps 805 5 (V.b),ps 806 5 (V.c),ps 807 10 (V.d)],oB 801 177 [.d (.sl (aA l)),.d (.i (q))],oR 802 31 5 (aF V.ks),oR 803 4 1 (aL V.ls),(.o 804,aI 260 4 eY),(.o 805,aI 52 5 cO),(.o 806,aI 52 5 cO),(.o 807,aI 204 10 iX)]) ?_ ?_
 · exact wq [] [] (⟨0,W2,q2,rfl,⟨by omega,(hw1.1.trans hw2.1).le (by omega),by omega,by omega⟩,rfl⟩) qz
 rintro n s ⟨i,V,q,rfl,⟨hi2,hV,hq⟩,rfl⟩
 have hVd:=hV.few
 have hpv:=cF l (p:=q) (n:=2) (by omega) (by omega)
 refine sq (sq (rT [0,2,20] (s5 (bH (robj:=[(801,.box 177 [.d (.sl (aA (l))),.d (.i (q))])]) (rl:=[(0,801)]) (bor:=[]) (cN (l) (q) _ (by omega) hl) rfl rfl rfl rfl ⟨bQ rfl rfl rfl rfl (cJ rfl rfl (aS rfl (aC rfl (aC rfl aG)) trivial)),rfl⟩ rfl (.inl rfl) (aH ⟨rfl,trivial⟩) (fun _ hj=>nomatch hj) (s2 (cd rfl (fun c20=> ?_) fun c20=> ?_))))))
 · have hi1:i<2:=by rw[aB (by omega)] at c20;simp at c20;omega
   refine sk (sq (bk (sq (rT [0,2,3] (s5 (gm dA rfl rfl rfl rfl rfl (s1 (sq (rT [0,2,3,4] (s1 (bk ?_)))))))))))
   obtain⟨a3,ha3,ha30⟩: ∃a3:Nat,a3=V.a∧a3≤30:=⟨_,rfl,hV.ok.ra⟩
   refine SW.loopW (n:=a3) (fun x s=> ∃(j:Nat) (U:eX),x=a3 - j∧(j≤a3∧U.of V j)∧s=[tP 0 800,tI 2 (i:Nat),tI 3 (a3:Nat),tI 4 (j:Nat),oB 800 147 [.pt 801 0,.d (.i (U.tm)),.own 802 4,.own 803 3,ps 804 4 (U.a),ps 805 5 (U.b),ps 806 5 (U.c),ps 807 10 (U.d)],oB 801 177 [.d (.sl (aA l)),.d (.i (q+1))],oR 802 31 5 (aF U.ks),oR 803 4 1 (aL U.ls),(.o 804,aI 260 4 eY),(.o 805,aI 52 5 cO),(.o 806,aI 52 5 cO),(.o 807,aI 204 10 iX)]) ?_ ?_
   · refine wq [] [] (⟨0,V,rfl,⟨by omega,eX.of.refl hV.ok⟩,rfl⟩) ?_
     repeat' apply ai
     all_goals first|exact qx|rfl|(rw[ha3])|exact qz
   rintro n s ⟨j,U,rfl,⟨hj,hU⟩,rfl⟩
   have hUd:=hU.few
   refine sq (sq (rT [0,2,3,4,31] (s3 (cd rfl (fun c31=> ?_) fun c31=> ?_))))
   · have hj2:j<a3:=by simp at c31;omega
     refine sk (sq (bk (rE [0,2,3,4] (s3 (cY (robj:=[(800,.box 147 [.pt 801 0,.d (.i (U.tm)),.own 802 4,.own 803 3,ps 804 4 (U.a),ps 805 5 (U.b),ps 806 5 (U.c),ps 807 10 (U.d)]),(801,.box 177 [.d (.sl (aA l)),.d (.i (q+1))]),(802,.row 31 5 (aF U.ks)),(803,.row 4 1 (aL U.ls)),(804,aI 260 4 eY),(805,aI 52 5 cO),(806,aI 52 5 cO),(807,aI 204 10 iX)]) (rl:=[]) (bor:=[]) (news:=[]) (ej l (q+1) U ⟨4,0,0,0,j,0,1,0,0,[]⟩ hU.ok (by simp) (by omega)) rfl rfl rfl rfl ⟨bQ rfl rfl rfl rfl (dB rfl (aC rfl (aC rfl (aC rfl (aC rfl (aC rfl (aC rfl (aC rfl (aC rfl (aC rfl (aC rfl aG)))))))))) (aS rfl (dD rfl rfl rfl (aC rfl (bJ rfl rfl rfl (bJ rfl rfl rfl (bF rfl rfl rfl (bF rfl rfl rfl (bF rfl rfl rfl (bF rfl rfl rfl aG)))))))) (aS rfl (aC rfl (aC rfl aG)) (bR rfl rfl (bR rfl rfl (aV rfl rfl (aV rfl rfl (aV rfl rfl (aV rfl rfl trivial))))))))),rfl⟩ (by rintro _ ⟨W3,ok3,hw3,rfl⟩;exact⟨rfl,.inl rfl,fun j hj=>nomatch hj⟩) (aH ⟨rfl,rfl,rfl,rfl,rfl,rfl,rfl,rfl,trivial⟩) (fun j hj=>nomatch hj) ?_)))))
     rintro _ ⟨W3,ok3,hw3,rfl⟩
     refine rT [0,2,3,4] (s3 (wq [] [] (⟨a3 - (j+1),by omega,j+1,W3,rfl,⟨by omega,hU.trans hw3⟩,rfl⟩) ?_))
     repeat' apply ai
     all_goals first|exact qx|exact congrArg D.i (aB (by omega))|rfl|exact qz
   have hj3:j=a3:=by simp at c31;omega
   refine xt (rT [0,2] (s3 (wq [] [] (⟨2 - (i+1),by omega,i+1,U,q+1,rfl,⟨by omega,(hV.trans hU).le (by omega),by omega,by omega⟩,rfl⟩) ?_)))
   repeat' apply ai
   all_goals first|exact qx|exact congrArg D.i (aB (by omega))|rfl|exact qz
 refine xt (sq (rT [0,5] (s4 (bH (robj:=[(801,.box 177 [.d (.sl (aA (l))),.d (.i (q+1))])]) (rl:=[(0,801)]) (bor:=[]) (cN (l) (q+1) _ (by omega) hl) rfl rfl rfl rfl ⟨bQ rfl rfl rfl rfl (cJ rfl rfl (aS rfl (aC rfl (aC rfl aG)) trivial)),rfl⟩ rfl (.inl rfl) (aH ⟨rfl,trivial⟩) (fun _ hj=>nomatch hj) (s1 (SW.midW (fun s=> ∃(V2:eX) (q4:Int),(V2.of V 10∧q≤q4∧q4≤q+5)∧s=[tP 0 800,oB 800 147 [.pt 801 0,.d (.i (V2.tm)),.own 802 4,.own 803 3,ps 804 4 (V2.a),ps 805 5 (V2.b),ps 806 5 (V2.c),ps 807 10 (V2.d)],oB 801 177 [.d (.sl (aA l)),.d (.i (q4))],oR 802 31 5 (aF V2.ks),oR 803 4 1 (aL V2.ls),(.o 804,aI 260 4 eY),(.o 805,aI 52 5 cO),(.o 806,aI 52 5 cO),(.o 807,aI 204 10 iX)]) ?_ ?_))))))
 · refine sq (rT [0,5,47] (s4 (bH (robj:=[(801,.box 177 [.d (.sl (aA (l))),.d (.i (q+1+1))])]) (rl:=[(0,801)]) (bor:=[]) (cN (l) (q+1+1) _ (by omega) hl) rfl rfl rfl rfl ⟨bQ rfl rfl rfl rfl (cJ rfl rfl (aS rfl (aC rfl (aC rfl aG)) trivial)),rfl⟩ rfl (.inl rfl) (aH ⟨rfl,trivial⟩) (fun _ hj=>nomatch hj) (bk (sq (rT [0,5,47,48] (s2 (cd rfl (fun c48=> ?_) fun c48=> ?_))))))))
   · refine sq (rE [0,5] (s6 (gW (bH (robj:=[(801,.box 177 [.d (.sl (aA (l))),.d (.i (q+1+1+1))])]) (rl:=[(0,801)]) (bor:=[]) (cN (l) (q+1+1+1) _ (by omega) hl) rfl rfl rfl rfl ⟨bQ rfl rfl rfl rfl (cJ rfl rfl (aS rfl (aC rfl (aC rfl aG)) trivial)),rfl⟩ rfl (.inl rfl) (aH ⟨rfl,trivial⟩) (fun _ hj=>nomatch hj) (s1 (cY (robj:=[(800,.box 147 [.pt 801 0,.d (.i (V.tm)),.own 802 4,.own 803 3,ps 804 4 (V.a),ps 805 5 (V.b),ps 806 5 (V.c),ps 807 10 (V.d)]),(801,.box 177 [.d (.sl (aA l)),.d (.i (q+1+1+1+1))]),(802,.row 31 5 (aF V.ks)),(803,.row 4 1 (aL V.ls)),(804,aI 260 4 eY),(805,aI 52 5 cO),(806,aI 52 5 cO),(807,aI 204 10 iX)]) (rl:=[]) (bor:=[]) (news:=[]) (ej l (q+1+1+1+1) V ⟨7,bN l (q+1) 4,0,0,0,0,bN l (q+1+1+1) 40,0,0,[]⟩ hV.ok (by simp) (by omega)) rfl rfl rfl rfl ⟨bQ rfl rfl rfl rfl (dB rfl (aC rfl (aC rfl (aC rfl (aC rfl (aC rfl (aC rfl (aC rfl (aC rfl (aC rfl (aC rfl aG)))))))))) (aS rfl (dD rfl rfl rfl (aC rfl (bJ rfl rfl rfl (bJ rfl rfl rfl (bF rfl rfl rfl (bF rfl rfl rfl (bF rfl rfl rfl (bF rfl rfl rfl aG)))))))) (aS rfl (aC rfl (aC rfl aG)) (bR rfl rfl (bR rfl rfl (aV rfl rfl (aV rfl rfl (aV rfl rfl (aV rfl rfl trivial))))))))),rfl⟩ (by rintro _ ⟨W3,ok3,hw3,rfl⟩;exact⟨rfl,.inl rfl,fun j hj=>nomatch hj⟩) (aH ⟨rfl,rfl,rfl,rfl,rfl,rfl,rfl,rfl,trivial⟩) (fun j hj=>nomatch hj) ?_))))))
     rintro _ ⟨W3,ok3,hw3,rfl⟩
     refine rE [0] (s3 (cY (robj:=[(800,.box 147 [.pt 801 0,.d (.i (W3.tm)),.own 802 4,.own 803 3,ps 804 4 (W3.a),ps 805 5 (W3.b),ps 806 5 (W3.c),ps 807 10 (W3.d)]),(801,.box 177 [.d (.sl (aA l)),.d (.i (q+1+1+1+1))]),(802,.row 31 5 (aF W3.ks)),(803,.row 4 1 (aL W3.ls)),(804,aI 260 4 eY),(805,aI 52 5 cO),(806,aI 52 5 cO),(807,aI 204 10 iX)]) (rl:=[]) (bor:=[]) (news:=[]) (ej l (q+1+1+1+1) W3 ⟨8,bN l (q+1) 4,0,0,0,0,0,0,0,[]⟩ hw3.ok (by simp) (by have:=hw3.few;omega)) rfl rfl rfl rfl ⟨bQ rfl rfl rfl rfl (dB rfl (aC rfl (aC rfl (aC rfl (aC rfl (aC rfl (aC rfl (aC rfl (aC rfl (aC rfl (aC rfl aG)))))))))) (aS rfl (dD rfl rfl rfl (aC rfl (bJ rfl rfl rfl (bJ rfl rfl rfl (bF rfl rfl rfl (bF rfl rfl rfl (bF rfl rfl rfl (bF rfl rfl rfl aG)))))))) (aS rfl (aC rfl (aC rfl aG)) (bR rfl rfl (bR rfl rfl (aV rfl rfl (aV rfl rfl (aV rfl rfl (aV rfl rfl trivial))))))))),rfl⟩ (by rintro _ ⟨W4,ok4,hw4,rfl⟩;exact⟨rfl,.inl rfl,fun j hj=>nomatch hj⟩) (aH ⟨rfl,rfl,rfl,rfl,rfl,rfl,rfl,rfl,trivial⟩) (fun j hj=>nomatch hj) ?_))
     rintro _ ⟨W4,ok4,hw4,rfl⟩
     first
     |(exact wq [] [] ⟨W4,q+1+1+1+1,⟨(hw3.trans hw4).le (by omega),by omega,by omega⟩,rfl⟩ qz)
     |(exact wq [] [] ⟨U,q+1+1+1+1,⟨hU.le (by omega),by omega,by omega⟩,rfl⟩ qz)
     |(exact wq [] [] ⟨V,q+1+1+1,⟨(eX.of.refl hV.ok).le (by omega),by omega,by omega⟩,rfl⟩ qz)
   refine sq (rT [0,5,63] (s2 (cd rfl (fun c63=> ?_) fun c63=> ?_)))
   · refine sq (rT [0,5,6] (s4 (bH (robj:=[(801,.box 177 [.d (.sl (aA (l))),.d (.i (q+1+1+1))])]) (rl:=[(0,801)]) (bor:=[]) (cN (l) (q+1+1+1) _ (by omega) hl) rfl rfl rfl rfl ⟨bQ rfl rfl rfl rfl (cJ rfl rfl (aS rfl (aC rfl (aC rfl aG)) trivial)),rfl⟩ rfl (.inl rfl) (aH ⟨rfl,trivial⟩) (fun _ hj=>nomatch hj) (s1 (bk ?_)))))
     obtain⟨k0,hk0,hk9⟩: ∃k0:Nat,bN l (q+1+1+1) 9=(k0:Int)∧k0≤8:=by have:=cF l (p:=q+1+1+1) (n:=9) (by omega) (by omega);exact⟨(bN l (q+1+1+1) 9).toNat,by omega,by omega⟩
     obtain⟨x5,hx5⟩: ∃x5:Int,x5=bN l (q+1) 4:=⟨_,rfl⟩
     refine SW.loopW (n:=k0) (fun x s=> ∃(U:eX),(x≤k0∧U.of V (k0 - x))∧s=[tP 0 800,tI 5 x5,tI 6 (x:Nat),oB 800 147 [.pt 801 0,.d (.i (U.tm)),.own 802 4,.own 803 3,ps 804 4 (U.a),ps 805 5 (U.b),ps 806 5 (U.c),ps 807 10 (U.d)],oB 801 177 [.d (.sl (aA l)),.d (.i (q+1+1+1+1))],oR 802 31 5 (aF U.ks),oR 803 4 1 (aL U.ls),(.o 804,aI 260 4 eY),(.o 805,aI 52 5 cO),(.o 806,aI 52 5 cO),(.o 807,aI 204 10 iX)]) ?_ ?_
     · refine wq [] [] (⟨V,⟨by omega,(eX.of.refl hV.ok).le (by omega)⟩,rfl⟩) ?_
       repeat' apply ai
       all_goals first|exact qx|exact congrArg D.i hk0|exact congrArg D.i hx5.symm|rfl|exact qz
     rintro n s ⟨U,⟨hx,hU⟩,rfl⟩
     have hUd:=hU.few
     refine sq (sq (rT [0,5,6,71] (s2 (cd rfl (fun c71=> ?_) fun c71=> ?_))))
     · have hn0:0<n:=by simp at c71;omega
       refine sk (sq (bk (rE [0,5,6] (s3 (cY (robj:=[(800,.box 147 [.pt 801 0,.d (.i (U.tm)),.own 802 4,.own 803 3,ps 804 4 (U.a),ps 805 5 (U.b),ps 806 5 (U.c),ps 807 10 (U.d)]),(801,.box 177 [.d (.sl (aA l)),.d (.i (q+1+1+1+1))]),(802,.row 31 5 (aF U.ks)),(803,.row 4 1 (aL U.ls)),(804,aI 260 4 eY),(805,aI 52 5 cO),(806,aI 52 5 cO),(807,aI 204 10 iX)]) (rl:=[]) (bor:=[]) (news:=[]) (ej l (q+1+1+1+1) U ⟨2,x5,0,0,0,0,0,0,0,[]⟩ hU.ok (by simp) (by omega)) rfl rfl rfl rfl ⟨bQ rfl rfl rfl rfl (dB rfl (aC rfl (aC rfl (aC rfl (aC rfl (aC rfl (aC rfl (aC rfl (aC rfl (aC rfl (aC rfl aG)))))))))) (aS rfl (dD rfl rfl rfl (aC rfl (bJ rfl rfl rfl (bJ rfl rfl rfl (bF rfl rfl rfl (bF rfl rfl rfl (bF rfl rfl rfl (bF rfl rfl rfl aG)))))))) (aS rfl (aC rfl (aC rfl aG)) (bR rfl rfl (bR rfl rfl (aV rfl rfl (aV rfl rfl (aV rfl rfl (aV rfl rfl trivial))))))))),rfl⟩ (by rintro _ ⟨W3,ok3,hw3,rfl⟩;exact⟨rfl,.inl rfl,fun j hj=>nomatch hj⟩) (aH ⟨rfl,rfl,rfl,rfl,rfl,rfl,rfl,rfl,trivial⟩) (fun j hj=>nomatch hj) ?_)))))
       rintro _ ⟨W3,ok3,hw3,rfl⟩
       refine rT [0,5,6] (s3 (wq [] [] (⟨n - 1,by omega,W3,⟨by omega,(hU.trans hw3).le (by omega)⟩,rfl⟩) ?_))
       repeat' apply ai
       all_goals first|exact qx|(refine congrArg D.i ?_;rw[aB (by omega)];omega)|rfl|exact qz
     refine xt ?_
     first
     |(exact wq [] [] ⟨W4,q+1+1+1+1,⟨(hw3.trans hw4).le (by omega),by omega,by omega⟩,rfl⟩ qz)
     |(exact wq [] [] ⟨U,q+1+1+1+1,⟨hU.le (by omega),by omega,by omega⟩,rfl⟩ qz)
     |(exact wq [] [] ⟨V,q+1+1+1,⟨(eX.of.refl hV.ok).le (by omega),by omega,by omega⟩,rfl⟩ qz)
   refine sk ?_
   first
   |(exact wq [] [] ⟨W4,q+1+1+1+1,⟨(hw3.trans hw4).le (by omega),by omega,by omega⟩,rfl⟩ qz)
   |(exact wq [] [] ⟨U,q+1+1+1+1,⟨hU.le (by omega),by omega,by omega⟩,rfl⟩ qz)
   |(exact wq [] [] ⟨V,q+1+1+1,⟨(eX.of.refl hV.ok).le (by omega),by omega,by omega⟩,rfl⟩ qz)
 rintro s ⟨V2,q4,⟨hV2,hq4⟩,rfl⟩
 have hV2d:=hV2.few
 refine sq (rT [0,7] (s5 (gm dA rfl rfl rfl rfl rfl (s1 (sq (rE [0,7] (s1 (cY (robj:=[(800,.box 147 [.pt 801 0,.d (.i (V2.tm)),.own 802 4,.own 803 3,ps 804 4 (V2.a),ps 805 5 (V2.b),ps 806 5 (V2.c),ps 807 10 (V2.d)]),(801,.box 177 [.d (.sl (aA l)),.d (.i (q4))]),(802,.row 31 5 (aF V2.ks)),(803,.row 4 1 (aL V2.ls)),(804,aI 260 4 eY),(805,aI 52 5 cO),(806,aI 52 5 cO),(807,aI 204 10 iX)]) (rl:=[]) (bor:=[]) (news:=[]) (me l q4 V2 6 0 (by omega) hl hV2.ok (by omega) (by omega)) rfl rfl rfl rfl ⟨bQ rfl rfl rfl rfl (cJ rfl rfl (cJ rfl rfl (aS rfl (dD rfl rfl rfl (aC rfl (bJ rfl rfl rfl (bJ rfl rfl rfl (bF rfl rfl rfl (bF rfl rfl rfl (bF rfl rfl rfl (bF rfl rfl rfl aG)))))))) (aS rfl (aC rfl (aC rfl aG)) (bR rfl rfl (bR rfl rfl (aV rfl rfl (aV rfl rfl (aV rfl rfl (aV rfl rfl trivial)))))))))),rfl⟩ (by rintro _ ⟨V3,q7,hw7,rfl⟩;exact⟨rfl,.inl rfl,fun j hj=>nomatch hj⟩) (aH ⟨rfl,rfl,rfl,rfl,rfl,rfl,rfl,rfl,trivial⟩) (fun j hj=>nomatch hj) ?_))))))))
 rintro _ ⟨V3,q7,hw7,rfl⟩
 refine sq (sq (rT [0,7,8] (s1 (bk ?_))))
 obtain⟨a7,ha7⟩: ∃a7:Nat,a7=V2.a:=⟨_,rfl⟩
 have hw7d:=hw7.1.few
 refine SW.loopW (n:=12) (fun x s=> ∃(i:Nat) (U:eX),x=12 - i∧(i≤12∧U.of V3 i)∧s=[tP 0 800,tI 7 (a7:Nat),tI 8 (i:Nat),oB 800 147 [.pt 801 0,.d (.i (U.tm)),.own 802 4,.own 803 3,ps 804 4 (U.a),ps 805 5 (U.b),ps 806 5 (U.c),ps 807 10 (U.d)],oB 801 177 [.d (.sl (aA l)),.d (.i (q7))],oR 802 31 5 (aF U.ks),oR 803 4 1 (aL U.ls),(.o 804,aI 260 4 eY),(.o 805,aI 52 5 cO),(.o 806,aI 52 5 cO),(.o 807,aI 204 10 iX)]) ?_ ?_
 · refine wq [] [] (⟨0,V3,rfl,⟨by omega,eX.of.refl hw7.1.ok⟩,rfl⟩) ?_
   repeat' apply ai
   all_goals first|exact qx|rfl|(rw[ha7])|exact qz
 rintro n s ⟨i7,U,rfl,⟨hi7,hU⟩,rfl⟩
 have hUd:=hU.few
 refine sq (sq (rT [0,7,8,97] (s3 (y4 (y1 (aC9 dA rfl rfl rfl rfl rfl rk (y2 (ai pk (cd rfl (fun c97=> ?_) fun c97=> ?_)))))))))
 · have hi12:i7<12:=by have h9:=c97;simp only[gb,aV1,decide_eq_true_eq] at h9;omega
   refine sk (sq (bk (rE [0,7,8] (s3 (cY (robj:=[(800,.box 147 [.pt 801 0,.d (.i (U.tm)),.own 802 4,.own 803 3,ps 804 4 (U.a),ps 805 5 (U.b),ps 806 5 (U.c),ps 807 10 (U.d)]),(801,.box 177 [.d (.sl (aA l)),.d (.i (q7))]),(802,.row 31 5 (aF U.ks)),(803,.row 4 1 (aL U.ls)),(804,aI 260 4 eY),(805,aI 52 5 cO),(806,aI 52 5 cO),(807,aI 204 10 iX)]) (rl:=[]) (bor:=[]) (news:=[]) (ej l q7 U ⟨4,0,0,0,a7,0,0,0,0,[]⟩ hU.ok (by simp) (by omega)) rfl rfl rfl rfl ⟨bQ rfl rfl rfl rfl (dB rfl (aC rfl (aC rfl (aC rfl (aC rfl (aC rfl (aC rfl (aC rfl (aC rfl (aC rfl (aC rfl aG)))))))))) (aS rfl (dD rfl rfl rfl (aC rfl (bJ rfl rfl rfl (bJ rfl rfl rfl (bF rfl rfl rfl (bF rfl rfl rfl (bF rfl rfl rfl (bF rfl rfl rfl aG)))))))) (aS rfl (aC rfl (aC rfl aG)) (bR rfl rfl (bR rfl rfl (aV rfl rfl (aV rfl rfl (aV rfl rfl (aV rfl rfl trivial))))))))),rfl⟩ (by rintro _ ⟨W3,ok3,hw3,rfl⟩;exact⟨rfl,.inl rfl,fun j hj=>nomatch hj⟩) (aH ⟨rfl,rfl,rfl,rfl,rfl,rfl,rfl,rfl,trivial⟩) (fun j hj=>nomatch hj) ?_)))))
   rintro _ ⟨W3,ok3,hw3,rfl⟩
   refine rT [0,7,8] (s3 (wq [] [] (⟨12 - (i7+1),by omega,i7+1,W3,rfl,⟨by omega,hU.trans hw3⟩,rfl⟩) ?_))
   repeat' apply ai
   all_goals first|exact qx|exact congrArg D.i (aB (by omega))|rfl|exact qz
 refine xt (rE [] (s1 (cY (robj:=[(800,.box 147 [.pt 801 0,.d (.i (U.tm)),.own 802 4,.own 803 3,ps 804 4 (U.a),ps 805 5 (U.b),ps 806 5 (U.c),ps 807 10 (U.d)]),(801,.box 177 [.d (.sl (aA l)),.d (.i (q7))]),(802,.row 31 5 (aF U.ks)),(803,.row 4 1 (aL U.ls)),(804,aI 260 4 eY),(805,aI 52 5 cO),(806,aI 52 5 cO),(807,aI 204 10 iX)]) (rl:=[]) (bor:=[]) (news:=[]) (md l q7 U 40 0 (by omega) hl hU.ok (by omega) (by omega)) rfl rfl rfl rfl ⟨bQ rfl rfl rfl rfl (cJ rfl rfl (cJ rfl rfl (aS rfl (dD rfl rfl rfl (aC rfl (bJ rfl rfl rfl (bJ rfl rfl rfl (bF rfl rfl rfl (bF rfl rfl rfl (bF rfl rfl rfl (bF rfl rfl rfl aG)))))))) (aS rfl (aC rfl (aC rfl aG)) (bR rfl rfl (bR rfl rfl (aV rfl rfl (aV rfl rfl (aV rfl rfl (aV rfl rfl trivial)))))))))),rfl⟩ (by rintro _ ⟨W9,q9,hw9,rfl⟩;exact⟨rfl,.inl rfl,fun j hj=>nomatch hj⟩) (aH ⟨rfl,rfl,rfl,rfl,rfl,rfl,rfl,rfl,trivial⟩) (fun j hj=>nomatch hj) ?_)))
 rintro _ ⟨W9,q9,hw9,rfl⟩
 refine cW [oB 800 147 [.pt 801 0,.d (.i (W9.tm)),.own 802 4,.own 803 3,ps 804 4 (W9.a),ps 805 5 (W9.b),ps 806 5 (W9.c),ps 807 10 (W9.d)],oB 801 177 [.d (.sl (aA l)),.d (.i (q9))],oR 802 31 5 (aF W9.ks),oR 803 4 1 (aL W9.ls),(.o 804,aI 260 4 eY),(.o 805,aI 52 5 cO),(.o 806,aI 52 5 cO),(.o 807,aI 204 10 iX)] ⟨W9,q9,⟨(hV.trans (hV2.trans (hw7.1.trans (hU.trans hw9.1)))).le (by omega),by omega,by omega⟩,rfl⟩ (rq [] [] rfl ?_)
 repeat' apply ai
 all_goals try exact qx
 all_goals(first|with_reducible rfl|(rfl))
theorem aT4 (l:List UInt8) (p:Int) (W:eX) (r:Int) (hp:0≤p∧p≤870000) (hl:l.length≤2000) (hW:W.ok) (hd:W.d≤96000):xd 174 2 [tP 0 800,tI 1 r,oB 800 147 [.pt 801 0,.d (.i (W.tm)),.own 802 4,.own 803 3,ps 804 4 (W.a),ps 805 5 (W.b),ps 806 5 (W.c),ps 807 10 (W.d)],oB 801 177 [.d (.sl (aA l)),.d (.i (p))],oR 802 31 5 (aF W.ks),oR 803 4 1 (aL W.ls),(.o 804,aI 260 4 eY),(.o 805,aI 52 5 cO),(.o 806,aI 52 5 cO),(.o 807,aI 204 10 iX)] (fun s=> ∃(W2:eX) (q:Int),(W2.of W 520∧p≤q∧q≤p+1200)∧s=[oB 800 147 [.pt 801 0,.d (.i (W2.tm)),.own 802 4,.own 803 3,ps 804 4 (W2.a),ps 805 5 (W2.b),ps 806 5 (W2.c),ps 807 10 (W2.d)],oB 801 177 [.d (.sl (aA l)),.d (.i (q))],oR 802 31 5 (aF W2.ks),oR 803 4 1 (aL W2.ls),(.o 804,aI 260 4 eY),(.o 805,aI 52 5 cO),(.o 806,aI 52 5 cO),(.o 807,aI 204 10 iX)]):=by
 refine yf Tryz.func174 rfl (sq (rT [0,1,4] (s4 (bH (robj:=[(801,.box 177 [.d (.sl (aA (l))),.d (.i (p))])]) (rl:=[(0,801)]) (bor:=[]) (cN (l) (p) _ (by omega) hl) rfl rfl rfl rfl ⟨bQ rfl rfl rfl rfl (cJ rfl rfl (aS rfl (aC rfl (aC rfl aG)) trivial)),rfl⟩ rfl (.inl rfl) (aH ⟨rfl,trivial⟩) (fun _ hj=>nomatch hj) (s1 (sq ?_))))))
 obtain⟨i,hi,hil⟩:=wJ (show 0≤bN l p 4∧bN l p 4≤3 by have:=cF l (p:=p) (n:=4) (by omega) (by omega);omega)
 obtain⟨v,hv⟩: ∃v:Int,v=bN l (p+1) 24:=⟨_,rfl⟩
 refine rT [0,1,4,18] (s4 (bH (robj:=[(801,.box 177 [.d (.sl (aA (l))),.d (.i (p+1))])]) (rl:=[(0,801)]) (bor:=[]) (cN (l) (p+1) _ (by omega) hl) rfl rfl rfl rfl ⟨bQ rfl rfl rfl rfl (cJ rfl rfl (aS rfl (aC rfl (aC rfl aG)) trivial)),rfl⟩ rfl (.inl rfl) (aH ⟨rfl,trivial⟩) (fun _ hj=>nomatch hj) (bk (SW.midW (fun s=> ∃cb:Bool,s=[tP 0 800,tI 1 r,tI 4 (i:Nat),tI 18 v,tB 27 cb,oB 800 147 [.pt 801 0,.d (.i (W.tm)),.own 802 4,.own 803 3,ps 804 4 (W.a),ps 805 5 (W.b),ps 806 5 (W.c),ps 807 10 (W.d)],oB 801 177 [.d (.sl (aA l)),.d (.i (p+1+1))],oR 802 31 5 (aF W.ks),oR 803 4 1 (aL W.ls),(.o 804,aI 260 4 eY),(.o 805,aI 52 5 cO),(.o 806,aI 52 5 cO),(.o 807,aI 204 10 iX)]) ?_ ?_))))
 · refine sq (rT [0,1,4,18,27] (s2 (cd rfl (fun c27=> ?_) fun c27=> ?_)))
   · refine sk (wq [] [] ⟨?c1,rfl⟩ ?_)
     repeat' apply ai
     all_goals try exact qx
     try any_goals first|with_reducible rfl|exact congrArg D.i hi|exact congrArg D.i hv.symm|rfl
   refine sq (rT [0,1,4,18,27] (s2 (cd rfl (fun c27=> ?_) fun c27=> ?_)))
   · refine sk (wq [] [] ⟨?c2,rfl⟩ ?_)
     repeat' apply ai
     all_goals try exact qx
     try any_goals first|with_reducible rfl|exact congrArg D.i hi|exact congrArg D.i hv.symm|rfl
   refine rT [0,1,4,18,27] (s2 (wq [] [] ⟨?c3,rfl⟩ ?_))
   repeat' apply ai
   all_goals try exact qx
   try any_goals first|with_reducible rfl|exact congrArg D.i hi|exact congrArg D.i hv.symm|rfl
 rintro s ⟨cb27,rfl⟩
 refine cd rfl (fun c27=> ?_) fun c27=> ?_
 · refine rE [] (s1 (cY (robj:=[(800,.box 147 [.pt 801 0,.d (.i (W.tm)),.own 802 4,.own 803 3,ps 804 4 (W.a),ps 805 5 (W.b),ps 806 5 (W.c),ps 807 10 (W.d)]),(801,.box 177 [.d (.sl (aA l)),.d (.i (p+1+1))]),(802,.row 31 5 (aF W.ks)),(803,.row 4 1 (aL W.ls)),(804,aI 260 4 eY),(805,aI 52 5 cO),(806,aI 52 5 cO),(807,aI 204 10 iX)]) (rl:=[]) (bor:=[]) (news:=[]) (aSc l (p+1+1) W (by omega) hl hW (by omega)) rfl rfl rfl rfl ⟨bQ rfl rfl rfl rfl (aS rfl (dD rfl rfl rfl (aC rfl (bJ rfl rfl rfl (bJ rfl rfl rfl (bF rfl rfl rfl (bF rfl rfl rfl (bF rfl rfl rfl (bF rfl rfl rfl aG)))))))) (aS rfl (aC rfl (aC rfl aG)) (bR rfl rfl (bR rfl rfl (aV rfl rfl (aV rfl rfl (aV rfl rfl (aV rfl rfl trivial)))))))),rfl⟩ (by rintro _ ⟨W2,q2,hw2,rfl⟩;exact⟨rfl,.inl rfl,fun j hj=>nomatch hj⟩) (aH ⟨rfl,rfl,rfl,rfl,rfl,rfl,rfl,rfl,trivial⟩) (fun j hj=>nomatch hj) ?_))
   rintro _ ⟨W2,q2,hw2,rfl⟩
   refine cW [oB 800 147 [.pt 801 0,.d (.i (W2.tm)),.own 802 4,.own 803 3,ps 804 4 (W2.a),ps 805 5 (W2.b),ps 806 5 (W2.c),ps 807 10 (W2.d)],oB 801 177 [.d (.sl (aA l)),.d (.i (q2))],oR 802 31 5 (aF W2.ks),oR 803 4 1 (aL W2.ls),(.o 804,aI 260 4 eY),(.o 805,aI 52 5 cO),(.o 806,aI 52 5 cO),(.o 807,aI 204 10 iX)] ⟨W2,q2,⟨(hw2.1).le (by omega),by omega,by omega⟩,rfl⟩ (rq [] [] rfl ?_)
   repeat' apply ai
   all_goals try exact qx
   all_goals(first|with_reducible rfl|(rfl))
 refine SW.midW (fun s=> ∃cb:Bool,s=[tP 0 800,tI 1 r,tI 4 (i:Nat),tI 18 v,tB 33 cb,oB 800 147 [.pt 801 0,.d (.i (W.tm)),.own 802 4,.own 803 3,ps 804 4 (W.a),ps 805 5 (W.b),ps 806 5 (W.c),ps 807 10 (W.d)],oB 801 177 [.d (.sl (aA l)),.d (.i (p+1+1))],oR 802 31 5 (aF W.ks),oR 803 4 1 (aL W.ls),(.o 804,aI 260 4 eY),(.o 805,aI 52 5 cO),(.o 806,aI 52 5 cO),(.o 807,aI 204 10 iX)]) ?_ ?_
 · refine sq (rT [0,1,4,18,33] (s2 (cd rfl (fun c33=> ?_) fun c33=> ?_)))
   · refine sk (wq [] [] ⟨?c4,rfl⟩ ?_)
     repeat' apply ai
     all_goals try exact qx
     try any_goals first|with_reducible rfl|exact congrArg D.i hi|exact congrArg D.i hv.symm|rfl
   refine sq (rT [0,1,4,18,33] (s2 (cd rfl (fun c33=> ?_) fun c33=> ?_)))
   · refine sk (wq [] [] ⟨?c5,rfl⟩ ?_)
     repeat' apply ai
     all_goals try exact qx
     try any_goals first|with_reducible rfl|exact congrArg D.i hi|exact congrArg D.i hv.symm|rfl
   refine sq (rT [0,1,4,18,33] (s2 (cd rfl (fun c33=> ?_) fun c33=> ?_)))
   · refine sk (wq [] [] ⟨?c6,rfl⟩ ?_)
     repeat' apply ai
     all_goals try exact qx
     try any_goals first|with_reducible rfl|exact congrArg D.i hi|exact congrArg D.i hv.symm|rfl
   refine sq (rT [0,1,4,18,33] (s2 (cd rfl (fun c33=> ?_) fun c33=> ?_)))
   · refine sk (wq [] [] ⟨?c7,rfl⟩ ?_)
     repeat' apply ai
     all_goals try exact qx
     try any_goals first|with_reducible rfl|exact congrArg D.i hi|exact congrArg D.i hv.symm|rfl
   refine sq (rT [0,1,4,18,33] (s2 (cd rfl (fun c33=> ?_) fun c33=> ?_)))
   · refine sk (wq [] [] ⟨?c8,rfl⟩ ?_)
     repeat' apply ai
     all_goals try exact qx
     try any_goals first|with_reducible rfl|exact congrArg D.i hi|exact congrArg D.i hv.symm|rfl
   refine rT [0,1,4,18,33] (s2 (wq [] [] ⟨?c9,rfl⟩ ?_))
   repeat' apply ai
   all_goals try exact qx
   try any_goals first|with_reducible rfl|exact congrArg D.i hi|exact congrArg D.i hv.symm|rfl
 rintro s ⟨cb33,rfl⟩
 refine cd rfl (fun c33=> ?_) fun c33=> ?_
 · refine rE [] (s5 (gW (bH (robj:=[(801,.box 177 [.d (.sl (aA (l))),.d (.i (p+1+1))])]) (rl:=[(0,801)]) (bor:=[]) (cN (l) (p+1+1) _ (by omega) hl) rfl rfl rfl rfl ⟨bQ rfl rfl rfl rfl (cJ rfl rfl (aS rfl (aC rfl (aC rfl aG)) trivial)),rfl⟩ rfl (.inl rfl) (aH ⟨rfl,trivial⟩) (fun _ hj=>nomatch hj) ?_)))
   obtain⟨m7,hm7,hbm7⟩: ∃m7:Nat,wrap64 (1+bN l (p+1+1) 7)=(m7:Int)∧1≤m7∧m7≤7:=by have:=cF l (p:=p+1+1) (n:=7) (by omega) (by omega);rw[aB (by omega)];exact⟨(1+bN l (p+1+1) 7).toNat,by omega,by omega,by omega⟩
   refine s2 (cY (robj:=[(800,.box 147 [.pt 801 0,.d (.i (W.tm)),.own 802 4,.own 803 3,ps 804 4 (W.a),ps 805 5 (W.b),ps 806 5 (W.c),ps 807 10 (W.d)]),(801,.box 177 [.d (.sl (aA l)),.d (.i (p+1+1+1))]),(802,.row 31 5 (aF W.ks)),(803,.row 4 1 (aL W.ls)),(804,aI 260 4 eY),(805,aI 52 5 cO),(806,aI 52 5 cO),(807,aI 204 10 iX)]) (rl:=[]) (bor:=[]) (news:=[]) (me l (p+1+1+1) W m7 r (by omega) hl hW (by omega) (by omega)) rfl rfl rfl rfl ⟨bQ rfl rfl rfl rfl (cJ rfl (congrArg D.i hm7) (cJ rfl rfl (aS rfl (dD rfl rfl rfl (aC rfl (bJ rfl rfl rfl (bJ rfl rfl rfl (bF rfl rfl rfl (bF rfl rfl rfl (bF rfl rfl rfl (bF rfl rfl rfl aG)))))))) (aS rfl (aC rfl (aC rfl aG)) (bR rfl rfl (bR rfl rfl (aV rfl rfl (aV rfl rfl (aV rfl rfl (aV rfl rfl trivial)))))))))),rfl⟩ (by rintro _ ⟨W2,q2,hw2,rfl⟩;exact⟨rfl,.inl rfl,fun j hj=>nomatch hj⟩) (aH ⟨rfl,rfl,rfl,rfl,rfl,rfl,rfl,rfl,trivial⟩) (fun j hj=>nomatch hj) ?_)
   rintro _ ⟨W2,q2,hw2,rfl⟩
   refine cW [oB 800 147 [.pt 801 0,.d (.i (W2.tm)),.own 802 4,.own 803 3,ps 804 4 (W2.a),ps 805 5 (W2.b),ps 806 5 (W2.c),ps 807 10 (W2.d)],oB 801 177 [.d (.sl (aA l)),.d (.i (q2))],oR 802 31 5 (aF W2.ks),oR 803 4 1 (aL W2.ls),(.o 804,aI 260 4 eY),(.o 805,aI 52 5 cO),(.o 806,aI 52 5 cO),(.o 807,aI 204 10 iX)] ⟨W2,q2,⟨(hw2.1).le (by omega),by omega,by omega⟩,rfl⟩ (rq [] [] rfl ?_)
   repeat' apply ai
   all_goals try exact qx
   all_goals(first|with_reducible rfl|(rfl))
 refine SW.midW (fun s=> ∃cb:Bool,s=[tP 0 800,tI 1 r,tI 4 (i:Nat),tI 18 v,tB 49 cb,oB 800 147 [.pt 801 0,.d (.i (W.tm)),.own 802 4,.own 803 3,ps 804 4 (W.a),ps 805 5 (W.b),ps 806 5 (W.c),ps 807 10 (W.d)],oB 801 177 [.d (.sl (aA l)),.d (.i (p+1+1))],oR 802 31 5 (aF W.ks),oR 803 4 1 (aL W.ls),(.o 804,aI 260 4 eY),(.o 805,aI 52 5 cO),(.o 806,aI 52 5 cO),(.o 807,aI 204 10 iX)]) ?_ ?_
 · refine sq (rT [0,1,4,18,49] (s2 (cd rfl (fun c49=> ?_) fun c49=> ?_)))
   · refine sk (wq [] [] ⟨?c10,rfl⟩ ?_)
     repeat' apply ai
     all_goals try exact qx
     try any_goals first|with_reducible rfl|exact congrArg D.i hi|exact congrArg D.i hv.symm|rfl
   refine rT [0,1,4,18,49] (s2 (wq [] [] ⟨?c11,rfl⟩ ?_))
   repeat' apply ai
   all_goals try exact qx
   try any_goals first|with_reducible rfl|exact congrArg D.i hi|exact congrArg D.i hv.symm|rfl
 rintro s ⟨cb49,rfl⟩
 refine cd rfl (fun c49=> ?_) fun c49=> ?_
 · refine rE [] (s5 (gW (bH (robj:=[(801,.box 177 [.d (.sl (aA (l))),.d (.i (p+1+1))])]) (rl:=[(0,801)]) (bor:=[]) (cN (l) (p+1+1) _ (by omega) hl) rfl rfl rfl rfl ⟨bQ rfl rfl rfl rfl (cJ rfl rfl (aS rfl (aC rfl (aC rfl aG)) trivial)),rfl⟩ rfl (.inl rfl) (aH ⟨rfl,trivial⟩) (fun _ hj=>nomatch hj) ?_)))
   obtain⟨m7,hm7,hbm7⟩: ∃m7:Nat,wrap64 (1+bN l (p+1+1) 20)=(m7:Int)∧1≤m7∧m7≤20:=by have:=cF l (p:=p+1+1) (n:=20) (by omega) (by omega);rw[aB (by omega)];exact⟨(1+bN l (p+1+1) 20).toNat,by omega,by omega,by omega⟩
   refine s2 (cY (robj:=[(800,.box 147 [.pt 801 0,.d (.i (W.tm)),.own 802 4,.own 803 3,ps 804 4 (W.a),ps 805 5 (W.b),ps 806 5 (W.c),ps 807 10 (W.d)]),(801,.box 177 [.d (.sl (aA l)),.d (.i (p+1+1+1))]),(802,.row 31 5 (aF W.ks)),(803,.row 4 1 (aL W.ls)),(804,aI 260 4 eY),(805,aI 52 5 cO),(806,aI 52 5 cO),(807,aI 204 10 iX)]) (rl:=[]) (bor:=[]) (news:=[]) (md l (p+1+1+1) W m7 r (by omega) hl hW (by omega) (by omega)) rfl rfl rfl rfl ⟨bQ rfl rfl rfl rfl (cJ rfl (congrArg D.i hm7) (cJ rfl rfl (aS rfl (dD rfl rfl rfl (aC rfl (bJ rfl rfl rfl (bJ rfl rfl rfl (bF rfl rfl rfl (bF rfl rfl rfl (bF rfl rfl rfl (bF rfl rfl rfl aG)))))))) (aS rfl (aC rfl (aC rfl aG)) (bR rfl rfl (bR rfl rfl (aV rfl rfl (aV rfl rfl (aV rfl rfl (aV rfl rfl trivial)))))))))),rfl⟩ (by rintro _ ⟨W2,q2,hw2,rfl⟩;exact⟨rfl,.inl rfl,fun j hj=>nomatch hj⟩) (aH ⟨rfl,rfl,rfl,rfl,rfl,rfl,rfl,rfl,trivial⟩) (fun j hj=>nomatch hj) ?_)
   rintro _ ⟨W2,q2,hw2,rfl⟩
   refine cW [oB 800 147 [.pt 801 0,.d (.i (W2.tm)),.own 802 4,.own 803 3,ps 804 4 (W2.a),ps 805 5 (W2.b),ps 806 5 (W2.c),ps 807 10 (W2.d)],oB 801 177 [.d (.sl (aA l)),.d (.i (q2))],oR 802 31 5 (aF W2.ks),oR 803 4 1 (aL W2.ls),(.o 804,aI 260 4 eY),(.o 805,aI 52 5 cO),(.o 806,aI 52 5 cO),(.o 807,aI 204 10 iX)] ⟨W2,q2,⟨(hw2.1).le (by omega),by omega,by omega⟩,rfl⟩ (rq [] [] rfl ?_)
   repeat' apply ai
   all_goals try exact qx
   all_goals(first|with_reducible rfl|(rfl))
 refine SW.midW (fun s=> ∃cb:Bool,s=[tP 0 800,tI 4 (i:Nat),tI 18 v,tB 61 cb,oB 800 147 [.pt 801 0,.d (.i (W.tm)),.own 802 4,.own 803 3,ps 804 4 (W.a),ps 805 5 (W.b),ps 806 5 (W.c),ps 807 10 (W.d)],oB 801 177 [.d (.sl (aA l)),.d (.i (p+1+1))],oR 802 31 5 (aF W.ks),oR 803 4 1 (aL W.ls),(.o 804,aI 260 4 eY),(.o 805,aI 52 5 cO),(.o 806,aI 52 5 cO),(.o 807,aI 204 10 iX)]) ?_ ?_
 · refine sq (rT [0,4,18,61] (s2 (cd rfl (fun c61=> ?_) fun c61=> ?_)))
   · refine sk (wq [] [] ⟨?c12,rfl⟩ ?_)
     repeat' apply ai
     all_goals try exact qx
     try any_goals first|with_reducible rfl|exact congrArg D.i hi|exact congrArg D.i hv.symm|rfl
   refine rT [0,4,18,61] (s2 (wq [] [] ⟨?c13,rfl⟩ ?_))
   repeat' apply ai
   all_goals try exact qx
   try any_goals first|with_reducible rfl|exact congrArg D.i hi|exact congrArg D.i hv.symm|rfl
 rintro s ⟨cb61,rfl⟩
 refine cd rfl (fun c61=> ?_) fun c61=> ?_
 · refine rE [] (s3 (cY (robj:=[(800,.box 147 [.pt 801 0,.d (.i (W.tm)),.own 802 4,.own 803 3,ps 804 4 (W.a),ps 805 5 (W.b),ps 806 5 (W.c),ps 807 10 (W.d)]),(801,.box 177 [.d (.sl (aA l)),.d (.i (p+1+1))]),(802,.row 31 5 (aF W.ks)),(803,.row 4 1 (aL W.ls)),(804,aI 260 4 eY),(805,aI 52 5 cO),(806,aI 52 5 cO),(807,aI 204 10 iX)]) (rl:=[]) (bor:=[]) (news:=[]) (ej l (p+1+1) W ⟨2,i,0,0,0,0,0,0,0,[]⟩ hW (by simp) (by omega)) rfl rfl rfl rfl ⟨bQ rfl rfl rfl rfl (dB rfl (aC rfl (aC rfl (aC rfl (aC rfl (aC rfl (aC rfl (aC rfl (aC rfl (aC rfl (aC rfl aG)))))))))) (aS rfl (dD rfl rfl rfl (aC rfl (bJ rfl rfl rfl (bJ rfl rfl rfl (bF rfl rfl rfl (bF rfl rfl rfl (bF rfl rfl rfl (bF rfl rfl rfl aG)))))))) (aS rfl (aC rfl (aC rfl aG)) (bR rfl rfl (bR rfl rfl (aV rfl rfl (aV rfl rfl (aV rfl rfl (aV rfl rfl trivial))))))))),rfl⟩ (by rintro _ ⟨W2,ok2,hw2,rfl⟩;exact⟨rfl,.inl rfl,fun j hj=>nomatch hj⟩) (aH ⟨rfl,rfl,rfl,rfl,rfl,rfl,rfl,rfl,trivial⟩) (fun j hj=>nomatch hj) ?_))
   rintro _ ⟨W2,ok2,hw2,rfl⟩
   refine cW [oB 800 147 [.pt 801 0,.d (.i (W2.tm)),.own 802 4,.own 803 3,ps 804 4 (W2.a),ps 805 5 (W2.b),ps 806 5 (W2.c),ps 807 10 (W2.d)],oB 801 177 [.d (.sl (aA l)),.d (.i ((p+1+1)))],oR 802 31 5 (aF W2.ks),oR 803 4 1 (aL W2.ls),(.o 804,aI 260 4 eY),(.o 805,aI 52 5 cO),(.o 806,aI 52 5 cO),(.o 807,aI 204 10 iX)] ⟨W2,(p+1+1),⟨(hw2).le (by omega),by omega,by omega⟩,rfl⟩ (rq [] [] rfl ?_)
   repeat' apply ai
   all_goals try exact qx
   all_goals(first|with_reducible rfl|(rfl))
 refine sq (rT [0,4,18,68] (s2 (cd rfl (fun c68=> ?_) fun c68=> ?_)))
 · refine rE [] (s6 (gW (bH (robj:=[(801,.box 177 [.d (.sl (aA (l))),.d (.i (p+1+1))])]) (rl:=[(0,801)]) (bor:=[]) (cN (l) (p+1+1) _ (by omega) hl) rfl rfl rfl rfl ⟨bQ rfl rfl rfl rfl (cJ rfl rfl (aS rfl (aC rfl (aC rfl aG)) trivial)),rfl⟩ rfl (.inl rfl) (aH ⟨rfl,trivial⟩) (fun _ hj=>nomatch hj) (s1 (cY (robj:=[(800,.box 147 [.pt 801 0,.d (.i (W.tm)),.own 802 4,.own 803 3,ps 804 4 (W.a),ps 805 5 (W.b),ps 806 5 (W.c),ps 807 10 (W.d)]),(801,.box 177 [.d (.sl (aA l)),.d (.i (p+1+1+1))]),(802,.row 31 5 (aF W.ks)),(803,.row 4 1 (aL W.ls)),(804,aI 260 4 eY),(805,aI 52 5 cO),(806,aI 52 5 cO),(807,aI 204 10 iX)]) (rl:=[]) (bor:=[]) (news:=[]) (ej l (p+1+1+1) W ⟨7,i,0,0,0,0,bN l (p+1+1) 50,0,0,[]⟩ hW (by simp) (by omega)) rfl rfl rfl rfl ⟨bQ rfl rfl rfl rfl (dB rfl (aC rfl (aC rfl (aC rfl (aC rfl (aC rfl (aC rfl (aC rfl (aC rfl (aC rfl (aC rfl aG)))))))))) (aS rfl (dD rfl rfl rfl (aC rfl (bJ rfl rfl rfl (bJ rfl rfl rfl (bF rfl rfl rfl (bF rfl rfl rfl (bF rfl rfl rfl (bF rfl rfl rfl aG)))))))) (aS rfl (aC rfl (aC rfl aG)) (bR rfl rfl (bR rfl rfl (aV rfl rfl (aV rfl rfl (aV rfl rfl (aV rfl rfl trivial))))))))),rfl⟩ (by rintro _ ⟨W2,ok2,hw2,rfl⟩;exact⟨rfl,.inl rfl,fun j hj=>nomatch hj⟩) (aH ⟨rfl,rfl,rfl,rfl,rfl,rfl,rfl,rfl,trivial⟩) (fun j hj=>nomatch hj) ?_)))))
   rintro _ ⟨W2,ok2,hw2,rfl⟩
   refine cW [oB 800 147 [.pt 801 0,.d (.i (W2.tm)),.own 802 4,.own 803 3,ps 804 4 (W2.a),ps 805 5 (W2.b),ps 806 5 (W2.c),ps 807 10 (W2.d)],oB 801 177 [.d (.sl (aA l)),.d (.i ((p+1+1+1)))],oR 802 31 5 (aF W2.ks),oR 803 4 1 (aL W2.ls),(.o 804,aI 260 4 eY),(.o 805,aI 52 5 cO),(.o 806,aI 52 5 cO),(.o 807,aI 204 10 iX)] ⟨W2,(p+1+1+1),⟨(hw2).le (by omega),by omega,by omega⟩,rfl⟩ (rq [] [] rfl ?_)
   repeat' apply ai
   all_goals try exact qx
   all_goals(first|with_reducible rfl|(rfl))
 refine SW.midW (fun s=> ∃cb:Bool,s=[tP 0 800,tI 4 (i:Nat),tI 18 v,tB 79 cb,oB 800 147 [.pt 801 0,.d (.i (W.tm)),.own 802 4,.own 803 3,ps 804 4 (W.a),ps 805 5 (W.b),ps 806 5 (W.c),ps 807 10 (W.d)],oB 801 177 [.d (.sl (aA l)),.d (.i (p+1+1))],oR 802 31 5 (aF W.ks),oR 803 4 1 (aL W.ls),(.o 804,aI 260 4 eY),(.o 805,aI 52 5 cO),(.o 806,aI 52 5 cO),(.o 807,aI 204 10 iX)]) ?_ ?_
 · refine sq (rT [0,4,18,79] (s2 (cd rfl (fun c79=> ?_) fun c79=> ?_)))
   · refine sk (wq [] [] ⟨?c14,rfl⟩ ?_)
     repeat' apply ai
     all_goals try exact qx
     try any_goals first|with_reducible rfl|exact congrArg D.i hi|exact congrArg D.i hv.symm|rfl
   refine rT [0,4,18,79] (s2 (wq [] [] ⟨?c15,rfl⟩ ?_))
   repeat' apply ai
   all_goals try exact qx
   try any_goals first|with_reducible rfl|exact congrArg D.i hi|exact congrArg D.i hv.symm|rfl
 rintro s ⟨cb79,rfl⟩
 refine cd rfl (fun c79=> ?_) fun c79=> ?_
 · refine rE [] (s3 (cY (robj:=[(800,.box 147 [.pt 801 0,.d (.i (W.tm)),.own 802 4,.own 803 3,ps 804 4 (W.a),ps 805 5 (W.b),ps 806 5 (W.c),ps 807 10 (W.d)]),(801,.box 177 [.d (.sl (aA l)),.d (.i (p+1+1))]),(802,.row 31 5 (aF W.ks)),(803,.row 4 1 (aL W.ls)),(804,aI 260 4 eY),(805,aI 52 5 cO),(806,aI 52 5 cO),(807,aI 204 10 iX)]) (rl:=[]) (bor:=[]) (news:=[]) (ej l (p+1+1) W ⟨8,i,0,0,0,0,0,0,0,[]⟩ hW (by simp) (by omega)) rfl rfl rfl rfl ⟨bQ rfl rfl rfl rfl (dB rfl (aC rfl (aC rfl (aC rfl (aC rfl (aC rfl (aC rfl (aC rfl (aC rfl (aC rfl (aC rfl aG)))))))))) (aS rfl (dD rfl rfl rfl (aC rfl (bJ rfl rfl rfl (bJ rfl rfl rfl (bF rfl rfl rfl (bF rfl rfl rfl (bF rfl rfl rfl (bF rfl rfl rfl aG)))))))) (aS rfl (aC rfl (aC rfl aG)) (bR rfl rfl (bR rfl rfl (aV rfl rfl (aV rfl rfl (aV rfl rfl (aV rfl rfl trivial))))))))),rfl⟩ (by rintro _ ⟨W2,ok2,hw2,rfl⟩;exact⟨rfl,.inl rfl,fun j hj=>nomatch hj⟩) (aH ⟨rfl,rfl,rfl,rfl,rfl,rfl,rfl,rfl,trivial⟩) (fun j hj=>nomatch hj) ?_))
   rintro _ ⟨W2,ok2,hw2,rfl⟩
   refine cW [oB 800 147 [.pt 801 0,.d (.i (W2.tm)),.own 802 4,.own 803 3,ps 804 4 (W2.a),ps 805 5 (W2.b),ps 806 5 (W2.c),ps 807 10 (W2.d)],oB 801 177 [.d (.sl (aA l)),.d (.i ((p+1+1)))],oR 802 31 5 (aF W2.ks),oR 803 4 1 (aL W2.ls),(.o 804,aI 260 4 eY),(.o 805,aI 52 5 cO),(.o 806,aI 52 5 cO),(.o 807,aI 204 10 iX)] ⟨W2,(p+1+1),⟨(hw2).le (by omega),by omega,by omega⟩,rfl⟩ (rq [] [] rfl ?_)
   repeat' apply ai
   all_goals try exact qx
   all_goals(first|with_reducible rfl|(rfl))
 refine sq (rT [0,4,18,86] (s2 (cd rfl (fun c86=> ?_) fun c86=> ?_)))
 · refine SW.regDE dA mo [] 13 (fun _=>none) rfl rfl (by kernel_rfl) ?_
   refine s5 (bH (robj:=[(801,.box 177 [.d (.sl (aA (l))),.d (.i (p+1+1))])]) (rl:=[(0,801)]) (bor:=[]) (cN (l) (p+1+1) _ (by omega) hl) rfl rfl rfl rfl ⟨bQ rfl rfl rfl rfl (cJ rfl rfl (aS rfl (aC rfl (aC rfl aG)) trivial)),rfl⟩ rfl (.inl rfl) (aH ⟨rfl,trivial⟩) (fun _ hj=>nomatch hj) (s5 (bH (robj:=[(801,.box 177 [.d (.sl (aA (l))),.d (.i (p+1+1+1))])]) (rl:=[(0,801)]) (bor:=[]) (cN (l) (p+1+1+1) _ (by omega) hl) rfl rfl rfl rfl ⟨bQ rfl rfl rfl rfl (cJ rfl rfl (aS rfl (aC rfl (aC rfl aG)) trivial)),rfl⟩ rfl (.inl rfl) (aH ⟨rfl,trivial⟩) (fun _ hj=>nomatch hj) (s1 (dl (robj:=[(800,.box 147 [.pt 801 0,.d (.i (W.tm)),.own 802 4,.own 803 3,ps 804 4 (W.a),ps 805 5 (W.b),ps 806 5 (W.c),ps 807 10 (W.d)]),(801,.box 177 [.d (.sl (aA l)),.d (.i (p+1+1+1+1))]),(802,.row 31 5 (aF W.ks)),(803,.row 4 1 (aL W.ls)),(804,aI 260 4 eY),(805,aI 52 5 cO),(806,aI 52 5 cO),(807,aI 204 10 iX)]) (rl:=[]) (bor:=[]) (news:=[]) (ej l (p+1+1+1+1) W ⟨wrap64 (9+bN l (p+1+1) 2),bN l (p+1+1+1) 3,0,0,0,0,0,0,0,[]⟩ hW (by simp) (by omega)) rfl rfl rfl rfl ⟨bQ rfl rfl rfl rfl (dB rfl (aC rfl (aC rfl (aC rfl (aC rfl (aC rfl (aC rfl (aC rfl (aC rfl (aC rfl (aC rfl aG)))))))))) (aS rfl (dD rfl rfl rfl (aC rfl (bJ rfl rfl rfl (bJ rfl rfl rfl (bF rfl rfl rfl (bF rfl rfl rfl (bF rfl rfl rfl (bF rfl rfl rfl aG)))))))) (aS rfl (aC rfl (aC rfl aG)) (bR rfl rfl (bR rfl rfl (aV rfl rfl (aV rfl rfl (aV rfl rfl (aV rfl rfl trivial))))))))),rfl⟩ (by rintro _ ⟨W2,ok2,hw2,rfl⟩;exact⟨rfl,.inl rfl,fun j hj=>nomatch hj⟩) (aH ⟨rfl,rfl,rfl,rfl,rfl,rfl,rfl,rfl,trivial⟩) (fun j hj=>nomatch hj) ⟨_,W,false,(eX.of.refl hW).le (by omega),rfl⟩ ?_)))))
   rintro _ ⟨W2,ok2,hw2,rfl⟩
   refine ai (by kernel_rfl) (cW [oB 800 147 [.pt 801 0,.d (.i (W2.tm)),.own 802 4,.own 803 3,ps 804 4 (W2.a),ps 805 5 (W2.b),ps 806 5 (W2.c),ps 807 10 (W2.d)],oB 801 177 [.d (.sl (aA l)),.d (.i ((p+1+1+1+1)))],oR 802 31 5 (aF W2.ks),oR 803 4 1 (aL W2.ls),(.o 804,aI 260 4 eY),(.o 805,aI 52 5 cO),(.o 806,aI 52 5 cO),(.o 807,aI 204 10 iX)] ⟨W2,(p+1+1+1+1),⟨(hw2).le (by omega),by omega,by omega⟩,rfl⟩ (rq [] [] rfl ?_))
   repeat' apply ai
   all_goals try exact qx
   all_goals(first|with_reducible rfl|(rfl))
 refine SW.midW (fun s=> ∃cb:Bool,s=[tP 0 800,tI 4 (i:Nat),tI 18 v,tB 102 cb,oB 800 147 [.pt 801 0,.d (.i (W.tm)),.own 802 4,.own 803 3,ps 804 4 (W.a),ps 805 5 (W.b),ps 806 5 (W.c),ps 807 10 (W.d)],oB 801 177 [.d (.sl (aA l)),.d (.i (p+1+1))],oR 802 31 5 (aF W.ks),oR 803 4 1 (aL W.ls),(.o 804,aI 260 4 eY),(.o 805,aI 52 5 cO),(.o 806,aI 52 5 cO),(.o 807,aI 204 10 iX)]) ?_ ?_
 · refine sq (rT [0,4,18,102] (s2 (cd rfl (fun c102=> ?_) fun c102=> ?_)))
   · refine sk (wq [] [] ⟨?c16,rfl⟩ ?_)
     repeat' apply ai
     all_goals try exact qx
     try any_goals first|with_reducible rfl|exact congrArg D.i hi|exact congrArg D.i hv.symm|rfl
   refine rT [0,4,18,102] (s2 (wq [] [] ⟨?c17,rfl⟩ ?_))
   repeat' apply ai
   all_goals try exact qx
   try any_goals first|with_reducible rfl|exact congrArg D.i hi|exact congrArg D.i hv.symm|rfl
 rintro s ⟨cb102,rfl⟩
 refine cd rfl (fun c102=> ?_) fun c102=> ?_
 · refine sq (rT [0,4,5] (s6 (ai (by exact⟨by rw[bE];exact hW.four,by omega,by omega⟩) (ai (by rw[aVy,cD (by rw[hW.four];omega)];exact⟨⟨by rw[bE];exact hW.four,by omega⟩,aV0 rfl,rfl⟩) (xp (gV (W.ks.getD i .zero) (by have:=(hW.at (show i<4 by omega)).1;omega)) (ai (by rw[aVy,cD (by rw[hW.four];omega)];rfl) ?_))))))
   refine s6 (sq (rT [0,4,5,120] (s4 (cd rfl (fun c120=> ?_) fun c120=> ?_))))
   · refine sq ?_
     have hn0:0< (bB (W.ks.getD i .zero)).1.inbox.length:=by have h9:=of_decide_eq_true c120;rw[aD] at h9;omega
     obtain⟨j,hj,hjl⟩: ∃j:Nat,bN l (p+1+1) ((aE (bB (W.ks.getD i .zero)).1.inbox).length:Int)=(j:Int)∧j< (bB (W.ks.getD i .zero)).1.inbox.length:=by have:=cF l (p:=p+1+1) (n:=((aE (bB (W.ks.getD i .zero)).1.inbox).length:Int)) (by omega) (by rw[aD];omega);rw[aD] at *; exact⟨(bN l (p+1+1) ((bB (W.ks.getD i .zero)).1.inbox.length:Int)).toNat,by omega,by omega⟩
     refine rD [0,4,7] (s9 (bH (robj:=[(801,.box 177 [.d (.sl (aA (l))),.d (.i (p+1+1))])]) (rl:=[(0,801)]) (bor:=[]) (cN (l) (p+1+1) _ (by omega) hl) rfl rfl rfl rfl ⟨bQ rfl rfl rfl rfl (cJ rfl rfl (aS rfl (aC rfl (aC rfl aG)) trivial)),rfl⟩ rfl (.inl rfl) (aH ⟨rfl,trivial⟩) (fun _ hj=>nomatch hj) (ai (by rw[hj,aVy,aT hjl];exact⟨⟨by omega,by rw[aD];omega⟩,rfl⟩) (ai (by rw[hj,aVy,aT hjl];exact⟨aV0 rfl,rfl⟩) (s2 (ai (by kernel_rfl) (wa [tP 0 800,tI 4 (i:Nat),tP 7 7,oB 800 147 [.pt 801 0,.d (.i (W.tm)),.own 802 4,.own 803 3,ps 804 4 (W.a),ps 805 5 (W.b),ps 806 5 (W.c),ps 807 10 (W.d)],oB 801 177 [.d (.sl (aA l)),.d (.i (p+1+1+1))],oR 802 31 5 (aF W.ks),oR 803 4 1 (aL W.ls),(.o 804,aI 260 4 eY),(.o 805,aI 52 5 cO),(.o 806,aI 52 5 cO),(.o 807,aI 204 10 iX),oB 7 52 [.d (.i ((bB (W.ks.getD i .zero)).1.inbox.getD j .zero).frm),.d (.i ((bB (W.ks.getD i .zero)).1.inbox.getD j .zero).num),.d (.i ((bB (W.ks.getD i .zero)).1.inbox.getD j .zero).to),.d (.i ((bB (W.ks.getD i .zero)).1.inbox.getD j .zero).til),.d (.s ((bB (W.ks.getD i .zero)).1.inbox.getD j .zero).text)]] [] [] ?_ ?_)))))))
     · repeat' apply ai
       all_goals first|exact qx|((rw[hj,aVy,aT hjl];rfl))|exact qz
     refine rE [] (s7 (cY (robj:=[(800,.box 147 [.pt 801 0,.d (.i (W.tm)),.own 802 4,.own 803 3,ps 804 4 (W.a),ps 805 5 (W.b),ps 806 5 (W.c),ps 807 10 (W.d)]),(801,.box 177 [.d (.sl (aA l)),.d (.i (p+1+1+1))]),(802,.row 31 5 (aF W.ks)),(803,.row 4 1 (aL W.ls)),(804,aI 260 4 eY),(805,aI 52 5 cO),(806,aI 52 5 cO),(807,aI 204 10 iX)]) (rl:=[]) (bor:=[]) (news:=[]) (ej l (p+1+1+1) W ⟨11,i,((bB (W.ks.getD i .zero)).1.inbox.getD j .zero).frm,((bB (W.ks.getD i .zero)).1.inbox.getD j .zero).num,0,0,0,0,0,[]⟩ hW (by simp) (by omega)) rfl rfl rfl rfl ⟨bQ rfl rfl rfl rfl (dB rfl (aC rfl (aC rfl (aC rfl (aC rfl (aC rfl (aC rfl (aC rfl (aC rfl (aC rfl (aC rfl aG)))))))))) (aS rfl (dD rfl rfl rfl (aC rfl (bJ rfl rfl rfl (bJ rfl rfl rfl (bF rfl rfl rfl (bF rfl rfl rfl (bF rfl rfl rfl (bF rfl rfl rfl aG)))))))) (aS rfl (aC rfl (aC rfl aG)) (bR rfl rfl (bR rfl rfl (aV rfl rfl (aV rfl rfl (aV rfl rfl (aV rfl rfl trivial))))))))),rfl⟩ (by rintro _ ⟨W2,ok2,hw2,rfl⟩;exact⟨rfl,.inl rfl,fun j hj=>nomatch hj⟩) (aH ⟨rfl,rfl,rfl,rfl,rfl,rfl,rfl,rfl,trivial⟩) (fun j hj=>nomatch hj) ?_))
     rintro _ ⟨W2,ok2,hw2,rfl⟩
     first
     |(refine cW [oB 800 147 [.pt 801 0,.d (.i (W2.tm)),.own 802 4,.own 803 3,ps 804 4 (W2.a),ps 805 5 (W2.b),ps 806 5 (W2.c),ps 807 10 (W2.d)],oB 801 177 [.d (.sl (aA l)),.d (.i ((p+1+1+1)))],oR 802 31 5 (aF W2.ks),oR 803 4 1 (aL W2.ls),(.o 804,aI 260 4 eY),(.o 805,aI 52 5 cO),(.o 806,aI 52 5 cO),(.o 807,aI 204 10 iX)] ⟨W2,(p+1+1+1),⟨(hw2).le (by omega),by omega,by omega⟩,rfl⟩ (rq [] [] rfl ?_)
       repeat' apply ai
       all_goals try exact qx
       all_goals(first|with_reducible rfl|(rfl)))
     |(refine cW [oB 800 147 [.pt 801 0,.d (.i (W.tm)),.own 802 4,.own 803 3,ps 804 4 (W.a),ps 805 5 (W.b),ps 806 5 (W.c),ps 807 10 (W.d)],oB 801 177 [.d (.sl (aA l)),.d (.i ((p+1+1)))],oR 802 31 5 (aF W.ks),oR 803 4 1 (aL W.ls),(.o 804,aI 260 4 eY),(.o 805,aI 52 5 cO),(.o 806,aI 52 5 cO),(.o 807,aI 204 10 iX)] ⟨W,(p+1+1),⟨(eX.of.refl hW).le (by omega),by omega,by omega⟩,rfl⟩ (rq [] [] rfl ?_)
       repeat' apply ai
       all_goals try exact qx
       all_goals(first|with_reducible rfl|(rfl)))
   refine sk ?_
   first
   |(refine cW [oB 800 147 [.pt 801 0,.d (.i (W2.tm)),.own 802 4,.own 803 3,ps 804 4 (W2.a),ps 805 5 (W2.b),ps 806 5 (W2.c),ps 807 10 (W2.d)],oB 801 177 [.d (.sl (aA l)),.d (.i ((p+1+1+1)))],oR 802 31 5 (aF W2.ks),oR 803 4 1 (aL W2.ls),(.o 804,aI 260 4 eY),(.o 805,aI 52 5 cO),(.o 806,aI 52 5 cO),(.o 807,aI 204 10 iX)] ⟨W2,(p+1+1+1),⟨(hw2).le (by omega),by omega,by omega⟩,rfl⟩ (rq [] [] rfl ?_)
     repeat' apply ai
     all_goals try exact qx
     all_goals(first|with_reducible rfl|(rfl)))
   |(refine cW [oB 800 147 [.pt 801 0,.d (.i (W.tm)),.own 802 4,.own 803 3,ps 804 4 (W.a),ps 805 5 (W.b),ps 806 5 (W.c),ps 807 10 (W.d)],oB 801 177 [.d (.sl (aA l)),.d (.i ((p+1+1)))],oR 802 31 5 (aF W.ks),oR 803 4 1 (aL W.ls),(.o 804,aI 260 4 eY),(.o 805,aI 52 5 cO),(.o 806,aI 52 5 cO),(.o 807,aI 204 10 iX)] ⟨W,(p+1+1),⟨(eX.of.refl hW).le (by omega),by omega,by omega⟩,rfl⟩ (rq [] [] rfl ?_)
     repeat' apply ai
     all_goals try exact qx
     all_goals(first|with_reducible rfl|(rfl)))
 refine sq (rT [0,4,18,141] (s2 (cd rfl (fun c141=> ?_) fun c141=> ?_)))
 · refine rE [] (s5 (gW (bH (robj:=[(801,.box 177 [.d (.sl (aA (l))),.d (.i (p+1+1))])]) (rl:=[(0,801)]) (bor:=[]) (cN (l) (p+1+1) _ (by omega) hl) rfl rfl rfl rfl ⟨bQ rfl rfl rfl rfl (cJ rfl rfl (aS rfl (aC rfl (aC rfl aG)) trivial)),rfl⟩ rfl (.inl rfl) (aH ⟨rfl,trivial⟩) (fun _ hj=>nomatch hj) (s3 (cY (robj:=[(800,.box 147 [.pt 801 0,.d (.i (W.tm)),.own 802 4,.own 803 3,ps 804 4 (W.a),ps 805 5 (W.b),ps 806 5 (W.c),ps 807 10 (W.d)]),(801,.box 177 [.d (.sl (aA l)),.d (.i (p+1+1+1))]),(802,.row 31 5 (aF W.ks)),(803,.row 4 1 (aL W.ls)),(804,aI 260 4 eY),(805,aI 52 5 cO),(806,aI 52 5 cO),(807,aI 204 10 iX)]) (rl:=[]) (bor:=[]) (news:=[]) (ej l (p+1+1+1) W ⟨wrap64 (12+bN l (p+1+1) 2),i,0,0,0,0,0,0,0,[]⟩ hW (by simp) (by omega)) rfl rfl rfl rfl ⟨bQ rfl rfl rfl rfl (dB rfl (aC rfl (aC rfl (aC rfl (aC rfl (aC rfl (aC rfl (aC rfl (aC rfl (aC rfl (aC rfl aG)))))))))) (aS rfl (dD rfl rfl rfl (aC rfl (bJ rfl rfl rfl (bJ rfl rfl rfl (bF rfl rfl rfl (bF rfl rfl rfl (bF rfl rfl rfl (bF rfl rfl rfl aG)))))))) (aS rfl (aC rfl (aC rfl aG)) (bR rfl rfl (bR rfl rfl (aV rfl rfl (aV rfl rfl (aV rfl rfl (aV rfl rfl trivial))))))))),rfl⟩ (by rintro _ ⟨W2,ok2,hw2,rfl⟩;exact⟨rfl,.inl rfl,fun j hj=>nomatch hj⟩) (aH ⟨rfl,rfl,rfl,rfl,rfl,rfl,rfl,rfl,trivial⟩) (fun j hj=>nomatch hj) ?_)))))
   rintro _ ⟨W2,ok2,hw2,rfl⟩
   refine cW [oB 800 147 [.pt 801 0,.d (.i (W2.tm)),.own 802 4,.own 803 3,ps 804 4 (W2.a),ps 805 5 (W2.b),ps 806 5 (W2.c),ps 807 10 (W2.d)],oB 801 177 [.d (.sl (aA l)),.d (.i ((p+1+1+1)))],oR 802 31 5 (aF W2.ks),oR 803 4 1 (aL W2.ls),(.o 804,aI 260 4 eY),(.o 805,aI 52 5 cO),(.o 806,aI 52 5 cO),(.o 807,aI 204 10 iX)] ⟨W2,(p+1+1+1),⟨(hw2).le (by omega),by omega,by omega⟩,rfl⟩ (rq [] [] rfl ?_)
   repeat' apply ai
   all_goals try exact qx
   all_goals(first|with_reducible rfl|(rfl))
 refine SW.midW (fun s=> ∃cb:Bool,s=[tP 0 800,tB 153 cb,oB 800 147 [.pt 801 0,.d (.i (W.tm)),.own 802 4,.own 803 3,ps 804 4 (W.a),ps 805 5 (W.b),ps 806 5 (W.c),ps 807 10 (W.d)],oB 801 177 [.d (.sl (aA l)),.d (.i (p+1+1))],oR 802 31 5 (aF W.ks),oR 803 4 1 (aL W.ls),(.o 804,aI 260 4 eY),(.o 805,aI 52 5 cO),(.o 806,aI 52 5 cO),(.o 807,aI 204 10 iX)]) ?_ ?_
 · refine sq (rT [0,18,153] (s2 (cd rfl (fun c153=> ?_) fun c153=> ?_)))
   · refine sk (wq [] [] ⟨?c18,rfl⟩ ?_)
     repeat' apply ai
     all_goals try exact qx
     try any_goals first|with_reducible rfl|exact congrArg D.i hi|exact congrArg D.i hv.symm|rfl
   refine sq (rT [0,18,153] (s2 (cd rfl (fun c153=> ?_) fun c153=> ?_)))
   · refine sk (wq [] [] ⟨?c19,rfl⟩ ?_)
     repeat' apply ai
     all_goals try exact qx
     try any_goals first|with_reducible rfl|exact congrArg D.i hi|exact congrArg D.i hv.symm|rfl
   refine rT [0,153] (s2 (wq [] [] ⟨?c20,rfl⟩ ?_))
   repeat' apply ai
   all_goals try exact qx
   try any_goals first|with_reducible rfl|exact congrArg D.i hi|exact congrArg D.i hv.symm|rfl
 rintro s ⟨cb153,rfl⟩
 refine cd rfl (fun c153=> ?_) fun c153=> ?_
 · refine rE [] (s1 (cY (robj:=[(800,.box 147 [.pt 801 0,.d (.i (W.tm)),.own 802 4,.own 803 3,ps 804 4 (W.a),ps 805 5 (W.b),ps 806 5 (W.c),ps 807 10 (W.d)]),(801,.box 177 [.d (.sl (aA l)),.d (.i (p+1+1))]),(802,.row 31 5 (aF W.ks)),(803,.row 4 1 (aL W.ls)),(804,aI 260 4 eY),(805,aI 52 5 cO),(806,aI 52 5 cO),(807,aI 204 10 iX)]) (rl:=[]) (bor:=[]) (news:=[]) (aT3 l (p+1+1) W (by omega) hl hW (by omega)) rfl rfl rfl rfl ⟨bQ rfl rfl rfl rfl (aS rfl (dD rfl rfl rfl (aC rfl (bJ rfl rfl rfl (bJ rfl rfl rfl (bF rfl rfl rfl (bF rfl rfl rfl (bF rfl rfl rfl (bF rfl rfl rfl aG)))))))) (aS rfl (aC rfl (aC rfl aG)) (bR rfl rfl (bR rfl rfl (aV rfl rfl (aV rfl rfl (aV rfl rfl (aV rfl rfl trivial)))))))),rfl⟩ (by rintro _ ⟨W2,q2,hw2,rfl⟩;exact⟨rfl,.inl rfl,fun j hj=>nomatch hj⟩) (aH ⟨rfl,rfl,rfl,rfl,rfl,rfl,rfl,rfl,trivial⟩) (fun j hj=>nomatch hj) ?_))
   rintro _ ⟨W2,q2,hw2,rfl⟩
   refine cW [oB 800 147 [.pt 801 0,.d (.i (W2.tm)),.own 802 4,.own 803 3,ps 804 4 (W2.a),ps 805 5 (W2.b),ps 806 5 (W2.c),ps 807 10 (W2.d)],oB 801 177 [.d (.sl (aA l)),.d (.i (q2))],oR 802 31 5 (aF W2.ks),oR 803 4 1 (aL W2.ls),(.o 804,aI 260 4 eY),(.o 805,aI 52 5 cO),(.o 806,aI 52 5 cO),(.o 807,aI 204 10 iX)] ⟨W2,q2,⟨(hw2.1).le (by omega),by omega,by omega⟩,rfl⟩ (rq [] [] rfl ?_)
   repeat' apply ai
   all_goals try exact qx
   all_goals(first|with_reducible rfl|(rfl))
 refine sq (rT [0,8] (s1 (bk (SW.loopW (n:=4) (fun x s=> ∃(i:Nat) (V:eX) (q:Int),x=4 - i∧(i≤4∧V.of W (100*i)∧p≤q∧q≤p+2+260*i)∧s=[tP 0 800,tI 8 (i:Nat),oB 800 147 [.pt 801 0,.d (.i (V.tm)),.own 802 4,.own 803 3,ps 804 4 (V.a),ps 805 5 (V.b),ps 806 5 (V.c),ps 807 10 (V.d)],oB 801 177 [.d (.sl (aA l)),.d (.i (q))],oR 802 31 5 (aF V.ks),oR 803 4 1 (aL V.ls),(.o 804,aI 260 4 eY),(.o 805,aI 52 5 cO),(.o 806,aI 52 5 cO),(.o 807,aI 204 10 iX)]) ?_ ?_))))
 · exact wq [] [] (⟨0,W,p+1+1,rfl,⟨by omega,eX.of.refl hW,by omega,by omega⟩,rfl⟩) qz
 rintro n s ⟨i,V,q,rfl,⟨hi4,hV,hq⟩,rfl⟩
 have hVd:=hV.few
 refine sq (sq (rT [0,8,20] (s2 (cd rfl (fun c20=> ?_) fun c20=> ?_))))
 · have hi5:i<4:=by simp at c20;omega
   refine sk (sq (bk (sq (rE [0,8] (s1 (cY (robj:=[(800,.box 147 [.pt 801 0,.d (.i (V.tm)),.own 802 4,.own 803 3,ps 804 4 (V.a),ps 805 5 (V.b),ps 806 5 (V.c),ps 807 10 (V.d)]),(801,.box 177 [.d (.sl (aA l)),.d (.i (q))]),(802,.row 31 5 (aF V.ks)),(803,.row 4 1 (aL V.ls)),(804,aI 260 4 eY),(805,aI 52 5 cO),(806,aI 52 5 cO),(807,aI 204 10 iX)]) (rl:=[]) (bor:=[]) (news:=[]) (me l q V 7 0 (by omega) hl hV.ok (by omega) (by omega)) rfl rfl rfl rfl ⟨bQ rfl rfl rfl rfl (cJ rfl rfl (cJ rfl rfl (aS rfl (dD rfl rfl rfl (aC rfl (bJ rfl rfl rfl (bJ rfl rfl rfl (bF rfl rfl rfl (bF rfl rfl rfl (bF rfl rfl rfl (bF rfl rfl rfl aG)))))))) (aS rfl (aC rfl (aC rfl aG)) (bR rfl rfl (bR rfl rfl (aV rfl rfl (aV rfl rfl (aV rfl rfl (aV rfl rfl trivial)))))))))),rfl⟩ (by rintro _ ⟨W3,q3,hw3,rfl⟩;exact⟨rfl,.inl rfl,fun j hj=>nomatch hj⟩) (aH ⟨rfl,rfl,rfl,rfl,rfl,rfl,rfl,rfl,trivial⟩) (fun j hj=>nomatch hj) ?_))))))
   rintro _ ⟨W3,q3,hw3,rfl⟩
   refine rE [0,8] (s1 (cY (robj:=[(800,.box 147 [.pt 801 0,.d (.i (W3.tm)),.own 802 4,.own 803 3,ps 804 4 (W3.a),ps 805 5 (W3.b),ps 806 5 (W3.c),ps 807 10 (W3.d)]),(801,.box 177 [.d (.sl (aA l)),.d (.i (q3))]),(802,.row 31 5 (aF W3.ks)),(803,.row 4 1 (aL W3.ls)),(804,aI 260 4 eY),(805,aI 52 5 cO),(806,aI 52 5 cO),(807,aI 204 10 iX)]) (rl:=[]) (bor:=[]) (news:=[]) (md l q3 W3 20 0 (by omega) hl hw3.1.ok (by have:=hw3.1.few;omega) (by omega)) rfl rfl rfl rfl ⟨bQ rfl rfl rfl rfl (cJ rfl rfl (cJ rfl rfl (aS rfl (dD rfl rfl rfl (aC rfl (bJ rfl rfl rfl (bJ rfl rfl rfl (bF rfl rfl rfl (bF rfl rfl rfl (bF rfl rfl rfl (bF rfl rfl rfl aG)))))))) (aS rfl (aC rfl (aC rfl aG)) (bR rfl rfl (bR rfl rfl (aV rfl rfl (aV rfl rfl (aV rfl rfl (aV rfl rfl trivial)))))))))),rfl⟩ (by rintro _ ⟨W4,q4,hw4,rfl⟩;exact⟨rfl,.inl rfl,fun j hj=>nomatch hj⟩) (aH ⟨rfl,rfl,rfl,rfl,rfl,rfl,rfl,rfl,trivial⟩) (fun j hj=>nomatch hj) ?_))
   rintro _ ⟨W4,q4,hw4,rfl⟩
   refine rT [0,8] (s3 (wq [] [] (⟨4 - (i+1),by omega,i+1,W4,q4,rfl,⟨by omega,(hV.trans (hw3.1.trans hw4.1)).le (by omega),by omega,by omega⟩,rfl⟩) ?_))
   repeat' apply ai
   all_goals first|exact qx|exact congrArg D.i (aB (by omega))|rfl|exact qz
 refine xt (cW [oB 800 147 [.pt 801 0,.d (.i (V.tm)),.own 802 4,.own 803 3,ps 804 4 (V.a),ps 805 5 (V.b),ps 806 5 (V.c),ps 807 10 (V.d)],oB 801 177 [.d (.sl (aA l)),.d (.i (q))],oR 802 31 5 (aF V.ks),oR 803 4 1 (aL V.ls),(.o 804,aI 260 4 eY),(.o 805,aI 52 5 cO),(.o 806,aI 52 5 cO),(.o 807,aI 204 10 iX)] ⟨V,q,⟨(hV).le (by omega),by omega,by omega⟩,rfl⟩ (rq [] [] rfl ?_))
 repeat' apply ai
 all_goals try exact qx
 all_goals(first|with_reducible rfl|(rfl))
theorem im (n:Int):Sp 213 1 [tI 0 n] [tV 0 (.e (.agg [.d (.i ((gB n)).id),.d (.b ((gB n)).up),.d (.s ((gB n)).log),.d (.i ((gB n)).forced),.d (.sl (bC ((gB n)).halves))]))]:=by
 refine sb Tryz.func213 rfl (sq (rT [0,2] (s1 (sq (sq (rT [0,2,5] (s1 (xp (dP _) (ai rfl ?_)))))))))
 refine s1 (cd rfl (fun c5=> ?_) fun c5=> ?_)
 · refine sq (rT [2] (s2 (rt ?_)))
   have hk:gB n= .zero:=by unfold gB;rw[if_neg];intro h;rw[h] at c5;simp at c5
   refine rq [] [] rfl ?_
   repeat' apply ai
   all_goals try exact qx
   all_goals(rw[hk];try rfl)
 refine sk (sq (rT [2] (s3 (rt ?_))))
 have hk:gB n=⟨n,true,[],0,[]⟩:=by unfold gB;rw[if_pos];simpa using c5
 refine rq [] [] rfl ?_
 repeat' apply ai
 all_goals try exact qx
 all_goals(rw[hk];try rfl)
theorem mf:Sp 172 0 [] [tV 0 (.e (.agg [.d (.i (0)),.own 802 4,.own 803 3,ps 804 4 (0),ps 805 5 (0),ps 806 5 (0)])),oR 802 31 5 (aF (qW 4)),oR 803 4 1 (aL (yes 3)),(.o 804,aI 260 4 eY),(.o 805,aI 52 5 cO),(.o 806,aI 52 5 cO)]:=by
 refine sb Tryz.func172 rfl (sq (rT [0] (s1 (sq (rT [0,1] (s3 (sq (sq (SW.nilBox 1 802 1 31 5 rfl rfl rfl (SW.nilBox 1 803 2 4 1 rfl rfl rfl (rT [0,1,2] (s1 (bk (SW.loopW (n:=4) (fun m s=> ∃i:Nat,m=4 - i∧i≤4∧s=[tP 0 0,tP 1 1,tI 2 (i:Nat),oB 0 123 [.d (.i 0),.nil,.nil,.nil,.nil,.nil],oB 1 123 [.d (.i 0),.own 802 (i),.own 803 0,.nil,.nil,.nil],oR 802 31 5 (aF (qW (i))),oR 803 4 1 []]) ?_ ?_))))))))))))))
 · refine wq [] [] (⟨0,rfl,by omega,rfl⟩) ?_
   repeat' apply ai
   all_goals first|exact qx|exact congrArg D.i (aB (by omega))|(simp[bE,lI,cT,rS];done)|exact qX _|exact uO _|rfl|exact qz
 rintro n s ⟨i,rfl,hi,rfl⟩
 refine sq (sq (rT [0,1,2,6] (s2 (cd rfl (fun c6=> ?_) fun c6=> ?_))))
 · have hi2:i<4:=by simp at c6;omega
   refine sk (sq (bk (rD [0,1,2] (s3 (xp (im _) (ai rfl ?_))))))
   refine s1 (ai (by refine⟨rfl,(bE _).trans (lI _),by simp,?_⟩;show(_+1)*64≤_;omega) (s2 (ai (by kernel_rfl) (rT [0,1,2] (s3 (wq [] [] (⟨4 - (i+1),by omega,i+1,rfl,by omega,rfl⟩) ?_))))))
   repeat' apply ai
   all_goals first|exact qx|exact congrArg D.i (aB (by omega))|(simp[bE,lI,cT,rS];done)|exact qX _|exact uO _|rfl|exact qz
 have hi4:i=4:=by simp at c6;omega
 subst hi4
 refine xt (sq (sq (rT [0,1,3] (s1 (bk (SW.loopW (n:=3) (fun m s=> ∃j:Nat,m=3 - j∧j≤3∧s=[tP 0 0,tP 1 1,tI 3 (j:Nat),oB 0 123 [.d (.i 0),.nil,.nil,.nil,.nil,.nil],oB 1 123 [.d (.i 0),.own 802 4,.own 803 (j),.nil,.nil,.nil],oR 802 31 5 (aF (qW 4)),oR 803 4 1 (aL (yes (j)))]) ?_ ?_))))))
 · refine wq [] [] (⟨0,rfl,by omega,rfl⟩) ?_
   repeat' apply ai
   all_goals first|exact qx|exact congrArg D.i (aB (by omega))|(simp[bE,lI,cT,rS];done)|exact qX _|exact uO _|rfl|exact qz
 rintro n s ⟨j,rfl,hj,rfl⟩
 refine sq (sq (rT [0,1,3,18] (s3 (cd rfl (fun c18=> ?_) fun c18=> ?_))))
 · have hj2:j<3:=by rw[aB (by omega)] at c18;simp at c18;omega
   refine sk (sq (bk (rT [0,1,3] (s3 (ai (by refine⟨rfl,(cT _).trans (rS _),by simp,?_⟩;show(_+1)*1≤_;omega) (s2 (rT [0,1,3] (s3 (wq [] [] (⟨3 - (j+1),by omega,j+1,rfl,by omega,rfl⟩) ?_)))))))))
   repeat' apply ai
   all_goals first|exact qx|exact congrArg D.i (aB (by omega))|(simp[bE,lI,cT,rS];done)|exact qX _|exact uO _|rfl|exact qz
 have hj4:j=3:=by rw[aB (by omega)] at c18;simp at c18;omega
 subst hj4
 refine xt (sq (SW.newPool 804 260 4 eY rfl (SW.newPool 805 52 5 cO rfl (SW.newPool 806 52 5 cO rfl (rT [0] (s2 (rt (rq [] [] rfl ?_))))))))
 repeat' apply ai
 all_goals try exact qx
 all_goals first|with_reducible rfl|rfl
theorem aN9 (l:List UInt8) (p:Int) (n:Nat) (hp:0≤p∧p≤700000) (hl:l.length≤2000) (hn:1≤n∧n≤100):xd 121 2 [tP 0 801,tI 1 (n:Nat),oB 801 177 [.d (.sl (aA l)),.d (.i (p))]] (fun s=> ∃(W:eX) (q:Int),(W.of eT 60000∧p≤q∧q≤p+20+1200*n)∧s=[tP 0 800,oB 800 147 [.pt 801 0,.d (.i (W.tm)),.own 802 4,.own 803 3,ps 804 4 (W.a),ps 805 5 (W.b),ps 806 5 (W.c),ps 807 10 (W.d)],oB 801 177 [.d (.sl (aA l)),.d (.i (q))],oR 802 31 5 (aF W.ks),oR 803 4 1 (aL W.ls),(.o 804,aI 260 4 eY),(.o 805,aI 52 5 cO),(.o 806,aI 52 5 cO),(.o 807,aI 204 10 iX)]):=by
 refine yf Tryz.func121 rfl (sq (rT [0,1] (s1 (sq (rT [0,1,5] (s1 (bH (robj:=[]) (rl:=[]) (bor:=[]) mf rfl rfl rfl rfl ⟨trivial,rfl⟩ rfl (.inl rfl) (fun p hp=>nomatch hp) (fun j hj=>by simp[kI,cE,iM] at hj;rcases hj with rfl|rfl|rfl|rfl|rfl<;>rfl) (s3 (SW.midW (fun s=> ∃r:Int,s=[tP 0 801,tI 1 (n:Nat),tP 5 800,tI 6 r,oB 800 147 [.pt 801 0,.d (.i (eT.tm)),.own 802 4,.own 803 3,ps 804 4 (eT.a),ps 805 5 (eT.b),ps 806 5 (eT.c),ps 807 10 (eT.d)],oB 801 177 [.d (.sl (aA l)),.d (.i (p+1))],oR 802 31 5 (aF eT.ks),oR 803 4 1 (aL eT.ls),(.o 804,aI 260 4 eY),(.o 805,aI 52 5 cO),(.o 806,aI 52 5 cO),(.o 807,aI 204 10 iX)]) ?_ ?_)))))))))
 · have hpv:=cF l (p:=p) (n:=5) (by omega) (by omega)
   refine SW.newPool 807 204 10 iX rfl (wa [tP 0 801,tI 1 (n:Nat),tP 5 800,oB 800 147 [.pt 801 0,.d (.i (eT.tm)),.own 802 4,.own 803 3,ps 804 4 (eT.a),ps 805 5 (eT.b),ps 806 5 (eT.c),ps 807 10 (eT.d)],oB 801 177 [.d (.sl (aA l)),.d (.i (p))],oR 802 31 5 (aF eT.ks),oR 803 4 1 (aL eT.ls),(.o 804,aI 260 4 eY),(.o 805,aI 52 5 cO),(.o 806,aI 52 5 cO),(.o 807,aI 204 10 iX)] [(800,11)] [] qz (rT [0,1,5,6] (s2 (bH (robj:=[(801,.box 177 [.d (.sl (aA (l))),.d (.i (p))])]) (rl:=[(0,801)]) (bor:=[]) (cN (l) (p) _ (by omega) hl) rfl rfl rfl rfl ⟨bQ rfl rfl rfl rfl (cJ rfl rfl (aS rfl (aC rfl (aC rfl aG)) trivial)),rfl⟩ rfl (.inl rfl) (aH ⟨rfl,trivial⟩) (fun _ hj=>nomatch hj) ?_))))
   refine ai ⟨rfl,hpv.1,hpv.2⟩ (ai (yl (l:=[0,0,3,6,12]) (by simp;omega) rfl) (s1 (wq [] [] ⟨?r1,rfl⟩ ?_)))
   repeat' apply ai
   all_goals try exact qx
   try any_goals rfl
 rintro s ⟨r,rfl⟩
 refine sq (rE [0,1,5,6] (s1 (cY (robj:=[(800,.box 147 [.pt 801 0,.d (.i (eT.tm)),.own 802 4,.own 803 3,ps 804 4 (eT.a),ps 805 5 (eT.b),ps 806 5 (eT.c),ps 807 10 (eT.d)]),(801,.box 177 [.d (.sl (aA l)),.d (.i (p+1))]),(802,.row 31 5 (aF eT.ks)),(803,.row 4 1 (aL eT.ls)),(804,aI 260 4 eY),(805,aI 52 5 cO),(806,aI 52 5 cO),(807,aI 204 10 iX)]) (rl:=[]) (bor:=[]) (news:=[]) (aSc l (p+1) eT (by omega) hl aFt (by decide)) rfl rfl rfl rfl ⟨bQ rfl rfl rfl rfl (aS rfl (dD rfl rfl rfl (aC rfl (bJ rfl rfl rfl (bJ rfl rfl rfl (bF rfl rfl rfl (bF rfl rfl rfl (bF rfl rfl rfl (bF rfl rfl rfl aG)))))))) (aS rfl (aC rfl (aC rfl aG)) (bR rfl rfl (bR rfl rfl (aV rfl rfl (aV rfl rfl (aV rfl rfl (aV rfl rfl trivial)))))))),rfl⟩ (by rintro _ ⟨W1,q1,hw1,rfl⟩;exact⟨rfl,.inl rfl,fun j hj=>nomatch hj⟩) (aH ⟨rfl,rfl,rfl,rfl,rfl,rfl,rfl,rfl,trivial⟩) (fun j hj=>nomatch hj) ?_)))
 rintro _ ⟨W1,q1,hw1,rfl⟩
 refine sq (sq (rT [5,6,7] (s2 (bH (robj:=[(801,.box 177 [.d (.sl (aA (l))),.d (.i (q1))])]) (rl:=[(0,801)]) (bor:=[]) (cN (l) (q1) _ (by omega) hl) rfl rfl rfl rfl ⟨bQ rfl rfl rfl rfl (cJ rfl rfl (aS rfl (aC rfl (aC rfl aG)) trivial)),rfl⟩ rfl (.inl rfl) (aH ⟨rfl,trivial⟩) (fun _ hj=>nomatch hj) (s1 (bk ?_))))))
 have hw1d:=hw1.1.few
 have hs0:eT.d=0:=rfl
 obtain⟨k0,hk0,hkn⟩: ∃k0:Nat,bN l q1 (n:Int)=(k0:Int)∧k0<n:=by have:=cF l (p:=q1) (n:=(n:Int)) (by omega) (by omega);exact⟨(bN l q1 (n:Int)).toNat,by omega,by omega⟩
 refine SW.loopW (n:=k0) (fun x s=> ∃(V:eX) (q:Int),(x≤k0∧V.of eT (1+520*(k0 - x))∧p≤q∧q≤p+12+1200*(k0 - x:Nat))∧s=[tP 5 800,tI 6 r,tI 7 (x:Nat),oB 800 147 [.pt 801 0,.d (.i (V.tm)),.own 802 4,.own 803 3,ps 804 4 (V.a),ps 805 5 (V.b),ps 806 5 (V.c),ps 807 10 (V.d)],oB 801 177 [.d (.sl (aA l)),.d (.i (q))],oR 802 31 5 (aF V.ks),oR 803 4 1 (aL V.ls),(.o 804,aI 260 4 eY),(.o 805,aI 52 5 cO),(.o 806,aI 52 5 cO),(.o 807,aI 204 10 iX)]) ?_ ?_
 · refine wq [] [] (⟨W1,q1+1,⟨by omega,hw1.1.le (by omega),by omega,by omega⟩,rfl⟩) ?_
   repeat' apply ai
   all_goals first|exact qx|exact congrArg D.i hk0|rfl|exact qz
 rintro n s ⟨V,q,⟨hx,hV,hq⟩,rfl⟩
 have hVd:=hV.few
 refine sq (sq (rT [5,6,7,23] (s2 (cd rfl (fun c23=> ?_) fun c23=> ?_))))
 · have hn0:0<n:=by simp at c23;omega
   refine sk (sq (bk (rE [5,6,7] (s2 (cY (robj:=[(800,.box 147 [.pt 801 0,.d (.i (V.tm)),.own 802 4,.own 803 3,ps 804 4 (V.a),ps 805 5 (V.b),ps 806 5 (V.c),ps 807 10 (V.d)]),(801,.box 177 [.d (.sl (aA l)),.d (.i (q))]),(802,.row 31 5 (aF V.ks)),(803,.row 4 1 (aL V.ls)),(804,aI 260 4 eY),(805,aI 52 5 cO),(806,aI 52 5 cO),(807,aI 204 10 iX)]) (rl:=[]) (bor:=[]) (news:=[]) (aT4 l q V r (by omega) hl hV.ok (by omega)) rfl rfl rfl rfl ⟨bQ rfl rfl rfl rfl (cJ rfl rfl (aS rfl (dD rfl rfl rfl (aC rfl (bJ rfl rfl rfl (bJ rfl rfl rfl (bF rfl rfl rfl (bF rfl rfl rfl (bF rfl rfl rfl (bF rfl rfl rfl aG)))))))) (aS rfl (aC rfl (aC rfl aG)) (bR rfl rfl (bR rfl rfl (aV rfl rfl (aV rfl rfl (aV rfl rfl (aV rfl rfl trivial))))))))),rfl⟩ (by rintro _ ⟨W3,q3,hw3,rfl⟩;exact⟨rfl,.inl rfl,fun j hj=>nomatch hj⟩) (aH ⟨rfl,rfl,rfl,rfl,rfl,rfl,rfl,rfl,trivial⟩) (fun j hj=>nomatch hj) ?_)))))
   rintro _ ⟨W3,q3,hw3,rfl⟩
   refine rT [5,6,7] (s3 (wq [] [] (⟨n - 1,by omega,W3,q3,⟨by omega,(hV.trans hw3.1).le (by omega),by omega,by omega⟩,rfl⟩) ?_))
   repeat' apply ai
   all_goals first|exact qx|(refine congrArg D.i ?_;rw[aB (by omega)];omega)|rfl|exact qz
 refine xt (sq (rT [4] (s2 (rt (cW [tP 0 800,oB 800 147 [.pt 801 0,.d (.i (V.tm)),.own 802 4,.own 803 3,ps 804 4 (V.a),ps 805 5 (V.b),ps 806 5 (V.c),ps 807 10 (V.d)],oB 801 177 [.d (.sl (aA l)),.d (.i (q))],oR 802 31 5 (aF V.ks),oR 803 4 1 (aL V.ls),(.o 804,aI 260 4 eY),(.o 805,aI 52 5 cO),(.o 806,aI 52 5 cO),(.o 807,aI 204 10 iX)] ⟨V,q,⟨hV.le (by omega),by omega,by omega⟩,rfl⟩ (rq [] [] rfl ?_))))))
 repeat' apply ai
 all_goals try exact qx
 all_goals(first|with_reducible rfl|(rfl))
end Go.Proofs.YtmabaopgkimfmaaGreatDoor
namespace Go.Ab
open Int renaming toNat_natCast→aVy,tmod→aWe
open List renaming length_append→aVz,length_nil→aV2,length_cons→aV3,length_take→aV4,getD_eq_getElem?_getD→aV6,length_drop→aV7,getElem?_eq_getElem→aV8,getElem?_eq_some_iff→aV9,range→aWb,mem_map→aWc,take_length→aWd,all_eq_true→aWf,mem_singleton→aWg
open Nat renaming le_of_ble_eq_true→aV0,zero_le→aV5,le_refl→aWa,add_mul→aWh
open Bool renaming and_eq_true→aV1
open Go Go.RowKit
set_option linter.unusedVariables false
set_option linter.unusedSimpArgs false
theorem aQn {l:List bA} {f m:Int} (h: ∀x∈l,¬(x.frm=f∧x.num=m)):aW l f m<0:=by
 rcases gR (mU l f m) l.length 0 with h1|⟨k,h1,_,h2,h3,_⟩
 · rw[aW,h1];decide
 · have hk:k<l.length:=by omega
   unfold mU at h3
   simp only[aV1,beq_iff_eq] at h3
   exact absurd h3 (h _ (dH hk))
theorem aH8 {l:List bA} {f m:Int}:aW l f m<0↔ ∀x∈l,¬(x.frm=f∧x.num=m):=⟨fun h x hx=>ux h hx,aQn⟩
theorem aQo {l:List bA} {f m:Int} (h:0≤aW l f m): (aW l f m).toNat<l.length∧(l.getD (aW l f m).toNat .zero).frm=f∧(l.getD (aW l f m).toNat .zero).num=m:=by
 rcases gR (mU l f m) l.length 0 with h1|⟨k,h1,_,h2,h3,_⟩
 · rw[aW,h1] at h;omega
 · have e:aW l f m=k:=h1
   unfold mU at h3
   simp only[aV1,beq_iff_eq] at h3
   rw[e,aVy]
   exact⟨by omega,h3⟩
section
variable {α:Type}
theorem aOa {p:α→Bool} {n x:α} {l:List α}:x∈rN p n l↔x=n∨x∈l:=by
 unfold rN
 rw[List.mem_append,List.mem_cons]
 conv=>rhs;rw[← List.takeWhile_append_dropWhile (p:=p) (l:=l)]
 rw[List.mem_append]
 constructor
 · rintro(h|h|h)<;>simp[h]
 · rintro(h|h|h)<;>simp[h]
def Srt (lt:α→α→Prop) (l:List α):Prop:=l.Pairwise lt
end
def ltN (a b:bA):Prop:=cK a.frm a.num b.frm b.num=true
def ltM (a b:cM):Prop:=cK a.frm a.num b.frm b.num=true
theorem aH9 {a b c d:Int}:cK a b c d=true↔a<c∨a=c∧b<d:=by simp[cK]
theorem aBp {a b c d e f:Int} (h1:cK a b c d=true) (h2:cK c d e f=true):cK a b e f=true:=by rw[aH9] at *; omega
theorem aFu {l:List bA}:jL l=true↔(∀x∈l,fA x=true)∧Srt ltN l:=by
 constructor
 · intro h
   refine⟨fun x hx=>sO h hx,?_⟩
   have hs: ∀i,i+1<l.length→ltN (l.getD i .zero) (l.getD (i+1) .zero):=fun i hi=>by
    have h1:=aWf.1 h (i+1) (List.mem_range.2 hi)
    unfold lD at h1
    simp only[aV1,Bool.or_eq_true,beq_iff_eq] at h1
    rcases h1.2 with h2|h2
    · omega
    · exact h2
   have key: ∀d i,i+d+1<l.length→ltN (l.getD i .zero) (l.getD (i+d+1) .zero):=by
    intro d
    induction d with
    |zero=>intro i hi;exact hs i hi
    |succ d ih=>intro i hi;exact aBp (ih i (by omega)) (hs _ (by omega))
   refine List.pairwise_iff_getElem.2 fun i j hi hj hij=> ?_
   have:=key (j - i - 1) i (by omega)
   rw[show i+(j - i - 1)+1=j by omega,aV6,aV6,aV8 hi,aV8 hj] at this
   exact this
 · rintro⟨h1,h2⟩
   refine aWf.2 fun i hi=> ?_
   have hi:=List.mem_range.1 hi
   unfold lD
   simp only[aV1,Bool.or_eq_true,beq_iff_eq]
   refine⟨h1 _ (dH hi),?_⟩
   by_cases e:i=0
   · exact .inl e
   · refine .inr ?_
     have:=List.pairwise_iff_getElem.1 h2 (i - 1) i (by omega) hi (by omega)
     rw[aV6,aV6,aV8 hi,aV8 (by omega)]
     exact this
theorem aFv {l:List cM}:nX l=true↔(∀x∈l,lC x=true)∧Srt ltM l:=by
 constructor
 · intro h
   refine⟨fun x hx=>wC h hx,?_⟩
   have hs: ∀i,i+1<l.length→ltM (l.getD i .zero) (l.getD (i+1) .zero):=fun i hi=>by
    have h1:=aWf.1 h (i+1) (List.mem_range.2 hi)
    unfold mF at h1
    simp only[aV1,Bool.or_eq_true,beq_iff_eq] at h1
    rcases h1.2 with h2|h2
    · omega
    · exact h2
   have key: ∀d i,i+d+1<l.length→ltM (l.getD i .zero) (l.getD (i+d+1) .zero):=by
    intro d
    induction d with
    |zero=>intro i hi;exact hs i hi
    |succ d ih=>intro i hi;exact aBp (ih i (by omega)) (hs _ (by omega))
   refine List.pairwise_iff_getElem.2 fun i j hi hj hij=> ?_
   have:=key (j - i - 1) i (by omega)
   rw[show i+(j - i - 1)+1=j by omega,aV6,aV6,aV8 hi,aV8 hj] at this
   exact this
 · rintro⟨h1,h2⟩
   refine aWf.2 fun i hi=> ?_
   have hi:=List.mem_range.1 hi
   unfold mF
   simp only[aV1,Bool.or_eq_true,beq_iff_eq]
   refine⟨h1 _ (dH hi),?_⟩
   by_cases e:i=0
   · exact .inl e
   · refine .inr ?_
     have:=List.pairwise_iff_getElem.1 h2 (i - 1) i (by omega) hi (by omega)
     rw[aV6,aV6,aV8 hi,aV8 (by omega)]
     exact this
theorem aIa {k:bO}:eG k=true↔(eA k.id=true∧(0≤k.time∧k.time≤999)∧(1≤k.next∧k.next≤100)∧k.held.length≤6∧k.marks.length≤12∧k.inbox.length≤6)∧
 ((∀x∈k.held,fA x=true)∧Srt ltN k.held)∧((∀x∈k.marks,lC x=true)∧Srt ltM k.marks)∧((∀x∈k.inbox,fA x=true)∧Srt ltN k.inbox)∧
 (∀n∈k.held,¬(n.frm=k.id∧k.next≤n.num)∧k.time<n.til∧al k.id n=true∧iT k.marks n.frm n.num<0)∧
 (∀m∈k.marks,¬(m.frm=k.id∧k.next≤m.num)∧k.time<m.til)∧
 (∀n∈k.inbox,¬(n.frm=k.id∧k.next≤n.num)∧n.to=k.id∧ ¬(k.time<n.til∧iT k.marks n.frm n.num<0)):=by
 have key: ∀{α:Type} {z:α} {l:List α} {P:Nat→Bool} {R:α→Prop},(∀i,P i=true↔R (l.getD i z))→((aWb l.length).all P=true↔ ∀x∈l,R x):=by
  intro α z l P R h
  constructor
  · intro h1 x hx
    obtain⟨i,hi⟩:=List.mem_iff_getElem?.1 hx
    have hlt:=(aV9.1 hi).1
    have:=(h i).1 (aWf.1 h1 i (List.mem_range.2 hlt))
    rw[aV6,hi] at this
    exact this
  · intro h1
    exact aWf.2 fun i hi=>(h i).2 (h1 _ (dH (List.mem_range.1 hi)))
 unfold eG
 simp only[aV1,aFu,aFv,decide_eq_true_eq,fG]
 rw[key (z:=bA.zero) (l:=k.held) (P:=tC k) (R:=fun n=> ¬(n.frm=k.id∧k.next≤n.num)∧k.time<n.til∧al k.id n=true∧iT k.marks n.frm n.num<0) (fun i=>by
  unfold tC
  simp only[aV1,Bool.not_eq_true',Bool.and_eq_false_iff,beq_eq_false_iff_ne,decide_eq_true_eq,decide_eq_false_iff_not]
  constructor
  · rintro⟨⟨⟨h1,h2⟩,h3⟩,h4⟩;exact⟨fun h=>by rcases h1 with h1|h1;exact h1 h.1;exact h1 h.2,h2,h3,h4⟩
  · rintro⟨h1,h2,h3,h4⟩;exact⟨⟨⟨by by_cases e: (k.held.getD i bA.zero).frm=k.id;exact .inr fun h=>h1 ⟨e,h⟩;exact .inl e,h2⟩,h3⟩,h4⟩),
  key (z:=cM.zero) (l:=k.marks) (P:=wV k) (R:=fun m=> ¬(m.frm=k.id∧k.next≤m.num)∧k.time<m.til) (fun i=>by
   unfold wV
   simp only[aV1,Bool.not_eq_true',Bool.and_eq_false_iff,beq_eq_false_iff_ne,decide_eq_true_eq,decide_eq_false_iff_not]
   constructor
   · rintro⟨h1,h2⟩;exact⟨fun h=>by rcases h1 with h1|h1;exact h1 h.1;exact h1 h.2,h2⟩
   · rintro⟨h1,h2⟩;exact⟨by by_cases e: (k.marks.getD i cM.zero).frm=k.id;exact .inr fun h=>h1 ⟨e,h⟩;exact .inl e,h2⟩),
  key (z:=bA.zero) (l:=k.inbox) (P:=sA k) (R:=fun n=> ¬(n.frm=k.id∧k.next≤n.num)∧n.to=k.id∧ ¬(k.time<n.til∧iT k.marks n.frm n.num<0)) (fun i=>by
   unfold sA
   simp only[aV1,Bool.not_eq_true',Bool.and_eq_false_iff,beq_eq_false_iff_ne,decide_eq_true_eq,decide_eq_false_iff_not,beq_iff_eq]
   constructor
   · rintro⟨⟨h1,h2⟩,h3⟩;exact⟨fun h=>by rcases h1 with h1|h1;exact h1 h.1;exact h1 h.2,h2,fun h=>by rcases h3 with h3|h3;exact h3 h.1;exact h3 h.2⟩
   · rintro⟨h1,h2,h3⟩;exact⟨⟨by by_cases e: (k.inbox.getD i bA.zero).frm=k.id;exact .inr fun h=>h1 ⟨e,h⟩;exact .inl e,h2⟩,by by_cases e:k.time< (k.inbox.getD i bA.zero).til;exact .inr fun h=>h3 ⟨e,h⟩;exact .inl e⟩)]
 constructor
 · rintro⟨⟨⟨⟨⟨⟨⟨⟨⟨⟨⟨a1,a2⟩,a3⟩,a4⟩,a5⟩,a6⟩,a7⟩,a8⟩,a9⟩,b1⟩,b2⟩,b3⟩;exact⟨⟨a1,a2,a3,a4,a5,a6⟩,a7,a8,a9,b1,b2,b3⟩
 · rintro⟨⟨a1,a2,a3,a4,a5,a6⟩,a7,a8,a9,b1,b2,b3⟩;exact⟨⟨⟨⟨⟨⟨⟨⟨⟨⟨⟨a1,a2⟩,a3⟩,a4⟩,a5⟩,a6⟩,a7⟩,a8⟩,a9⟩,b1⟩,b2⟩,b3⟩
theorem aIb {l:List bA} {n x:bA}:x∈mW l n↔x=n∨x∈l:=aOa
theorem getD_some {α:Type} {l:List α} {i:Nat} {z:α} (h:i<l.length):l[i]? =some (l.getD i z):=by
 rw[aV6,aV8 h];rfl
def Ap (k:bO):Prop:= ∀n∈k.inbox,aW k.held n.frm n.num<0
theorem Ap.nil {k:bO} (h:k.inbox=[]):Ap k:=fun n hn=>by rw[h] at hn;cases hn
theorem Ap.put {k:bO} {n:bA} (h:Ap k) (hn:aW k.inbox n.frm n.num<0) {x:bO} (hx:x.held=mW k.held n) (hi:x.inbox=k.inbox):Ap x:=fun m hm=>by
 rw[hi] at hm
 rw[hx]
 refine aH8.2 fun y hy e=> ?_
 rcases aIb.1 hy with rfl|hy
 · exact aH8.1 hn m hm ⟨e.1.symm,e.2.symm⟩
 · exact aH8.1 (h m hm) y hy e
theorem zW {k:aJ}:aZ k=true↔eA k.id=true∧eJ k.log k.forced=true∧k.halves.length≤3∧(k.up=true∨k.halves.length=0)∧(bB k).2=true∧(gu k).2=true∧(aWb k.halves.length).all (hG k.halves)=true:=by
 constructor
 · intro h
   unfold aZ at h
   simp only[aV1] at h
   obtain⟨⟨⟨h1,h2⟩,h3⟩,h4⟩:=h
   obtain⟨q1,q2,q3,q4⟩:=fX h1
   exact⟨q1,q2,q3,q4,h2,h3,h4⟩
 · rintro⟨q1,q2,q3,q4,h2,h3,h4⟩
   unfold aZ jG
   have q3': ((k.halves.length:Nat):Int)≤3:=by omega
   have q4': (k.up||decide (k.halves.length=0))=true:=by
    rcases q4 with h|h
    · rw[h];rfl
    · rw[decide_eq_true h,Bool.or_true]
   rw[q1,q2,decide_eq_true q3',q4',h2,h3,h4];rfl
theorem zX {k:aJ} (h:aZ k=true):eE k=(bB k).1:=if_pos h
theorem aT5 {k:aJ} (h:aZ k=true): (eE k).id=k.id:=by rw[zX h];exact aFq h
theorem aT6 {k:aJ} (h:aZ k=true):eG (eE k)=true:=by rw[zX h];exact gU h
theorem aBq {k:aJ} (h:eJ k.log k.forced=true):lF k={k with forced:=k.log.length}:=by
 unfold lF fO
 rw[if_pos h]
theorem aDi {l:List UInt8} {f:Int} (h:eJ l f=true):eJ l l.length=true:=by
 obtain⟨h1,h2,h3,h4⟩:=mS h
 simp only[eJ,fG,aV1,decide_eq_true_eq]
 exact⟨⟨⟨h1,by omega⟩,h3⟩,by rw[aVy,aWd,h3]⟩
theorem aBr {k:aJ} (h:aZ k=true):aZ (lF k)=true:=by
 obtain⟨q1,q2,q3,q4,h2,h3,h4⟩:=zW.1 h
 rw[aBq q2]
 refine zW.2 ⟨q1,aDi q2,q3,q4,h2,?_,h4⟩
 unfold gu
 simp only
 rw[aVy,aWd];exact h2
theorem ya {k:aJ} (h:aZ k=true):eE (lF k)=eE k:=by
 obtain⟨q1,q2,_⟩:=zW.1 h
 rw[zX (aBr h),zX h,aBq q2];rfl
theorem zt {t:List UInt8} (ht:fG t.length 1 24=true) {i:Nat} (hi:i< (aY t).length):kD t i=(aY t).getD i []:=by
 have hl:=(nQ (t:=t)).1
 have h1:mD ((aY t).length:Nat) i=true:=by
  simp only[mD,fG,aV1,decide_eq_true_eq];omega
 have ho:bK ((aY t).length:Nat) i=[(i:Int)]:=nN h1 (by omega)
 rw[uG (by rw[ho];rintro(h|h);rw[h] at hi;simp at hi;cases h),ho]
 unfold sQ
 unfold sQ
 rw[aVy]
 exact aBe ((nQ (t:=t)).2 _ (dH hi))
def zY (bl:List (List UInt8)) (i:Nat):List (List UInt8):=bl.take i++List.replicate (bl.length - i) []
theorem aQp {bl:List (List UInt8)} {i j:Nat} (h:i≤bl.length): (zY bl i).getD j []=if j<i then bl.getD j [] else []:=by
 unfold zY
 rw[aV6]
 split
 · rename_i hj
   rw[List.getElem?_append_left (by rw[aV4];omega),List.getElem?_take,if_pos hj,← aV6]
 · rename_i hj
   rw[List.getElem?_append_right (by rw[aV4];omega),List.getElem?_replicate]
   split<;>rfl
theorem aOb {bl:List (List UInt8)} {i:Nat} (h:i<bl.length): (zY bl i).set i (bl.getD i [])=zY bl (i+1):=by
 have hl: (bl.take i).length=i:=by rw[aV4];omega
 unfold zY
 rw[List.set_append,if_neg (by omega),hl,Nat.sub_self,show bl.length - i=(bl.length - (i+1))+1 by omega,List.replicate_succ,List.set_cons_zero,fB (z:=[]) h,List.append_assoc];rfl
theorem aIc {t:List UInt8} (ht:fG t.length 1 24=true) {i:Nat} (hi:i< (aY t).length):fI ((aY t).length:Nat) (zY (aY t) i) ⟨i,kD t i⟩=(zY (aY t) (i+1),true):=by
 have hl:=(nQ (t:=t)).1
 have h1:mD ((aY t).length:Nat) i=true:=by
  simp only[mD,fG,aV1,decide_eq_true_eq];omega
 have ho:bK ((aY t).length:Nat) i=[(i:Int)]:=nN h1 (by omega)
 have hm:=zt ht hi
 have h4: (kD t i).length=4:=by rw[hm];exact(nQ (t:=t)).2 _ (dH hi)
 have hu:unk (zY (aY t) i) (i:Int)=true:=by
  unfold unk
  rw[aVy,aQp (by omega),if_neg (by omega)];rfl
 have hleft:fD (zY (aY t) i) (bK ((aY t).length:Nat) i)=[(i:Int)]:=by
  rw[ho];unfold fD
  rw[List.filter_cons_of_pos hu];rfl
 unfold fI
 rw[hleft,if_pos (by simp[oD,h1,h4]),ho]
 have hx:lN (zY (aY t) i) (kD t i) [(i:Int)]=kD t i:=by
  unfold lN
  rw[if_pos hu];rfl
 rw[hx,hm]
 exact Prod.ext (by show(zY _ _).set _ _=_;simp only[List.getD_cons_zero,aVy];exact aOb hi) rfl
theorem aBs {t:List UInt8} {n:Int} {x:List UInt8}:fI ((aY t).length:Nat) (aY t) ⟨n,x⟩=(aY t,false):=by
 unfold fI
 rw[if_neg]
 intro h
 simp only[aV1,beq_iff_eq] at h
 have hm: (fD (aY t) (bK ((aY t).length:Nat) n)).getD 0 0∈fD (aY t) (bK ((aY t).length:Nat) n):=dH (by have:=h.2;omega)
 obtain⟨h1,h2⟩:=ed hm
 have hr:=nO _ h1
 unfold unk at h2
 have h4:=(nQ (t:=t)).2 _ (dH (z:=([]:List UInt8)) (show((fD (aY t) (bK ((aY t).length:Nat) n)).getD 0 0).toNat< (aY t).length by omega))
 generalize (aY t).getD ((fD (aY t) (bK ((aY t).length:Nat) n)).getD 0 0).toNat []=z at*
 cases z with
 |nil=>simp at h4
 |cons a b=>simp at h2
def tL (t:List UInt8) (n:Nat):List gC:=(aWb n).map fun(i:Nat)=>⟨(i:Int),kD t (i:Int)⟩
theorem wM (t:List UInt8) (n:Nat):tL t (n+1)=tL t n++[⟨n,kD t n⟩]:=by simp[tL,List.range_succ]
theorem de {t:List UInt8} (ht:fG t.length 1 24=true): ∀n,bD ((aY t).length:Nat) (tL t n) (zY (aY t) 0,false)=(zY (aY t) (min n (aY t).length),decide (0<n))∨(aY t).length=0
 |0=> .inl (by simp[tL,bD])
 |n+1=>by
  rcases de ht n with ih|h
  · by_cases h0: (aY t).length=0
    · exact .inr h0
    · left
      rw[wM,uJ,ih]
      by_cases hn:n< (aY t).length
      · rw[Nat.min_eq_left (by omega),Nat.min_eq_left (by omega),aIc ht hn];simp
      · rw[Nat.min_eq_right (by omega),Nat.min_eq_right (by omega)]
        have hk:zY (aY t) (aY t).length=aY t:=by simp[zY]
        rw[hk,aBs]
        simp only[Bool.or_false]
        refine Prod.ext rfl ?_
        simp only
        rw[decide_eq_true (show 0<n by omega),decide_eq_true (show 0<n+1 by omega)]
  · exact .inr h
theorem fw {t:List UInt8}: ∀{l:List gC},bD ((aY t).length:Nat) l (aY t,false)=(aY t,false)
 | []=>rfl
 |m::l=>by
  unfold bD
  have:=aBs (t:=t) (n:=m.num) (x:=m.data)
  rw[show fI ((aY t).length:Nat) (aY t) m=(aY t,false) from this]
  exact fw
theorem yb {t:List UInt8} (ht:fG t.length 1 24=true) {n:Nat} (hn: (aY t).length≤n):cB ((aY t).length:Nat) (tL t n)=aY t:=by
 have hc:aY t=nP t ((t.length+3) / 4):=rO ht
 have hb:1≤(aY t).length∧(aY t).length≤6:=by
  rw[hc,jQ]
  simp only[fG,aV1,decide_eq_true_eq] at ht;omega
 have hk:zY (aY t) (aY t).length=aY t:=by simp[zY]
 have h0:zY (aY t) 0=List.replicate (aY t).length []:=by simp[zY]
 unfold cB
 rw[if_pos (by simp only[fG,aV1,decide_eq_true_eq];omega),aVy,← h0]
 rcases de ht n with h|h
 · rw[Nat.min_eq_right hn,hk,decide_eq_true (by omega)] at h
   unfold oM
   rw[h]
   simp only[if_true]
   unfold oM
   rw[fw];rfl
 · omega
theorem aFw (t:List UInt8): ∀k,(nP t k).flatten=(aWb (4*k)).map fun j=>t.getD j 0
 |0=>rfl
 |k+1=>by
  rw[gw,List.flatten_append,aFw t k,show 4*(k+1)=4*k+4 by omega,List.range_add,List.map_append]
  simp[tQ,List.range_succ]
theorem yc {t:List UInt8} (ht:fG t.length 1 24=true) {n:Nat} (hn:6≤n):dK t.length (tL t n)=(t,true):=by
 have hc:aY t=nP t ((t.length+3) / 4):=rO ht
 have hr:1≤t.length∧t.length≤24:=by simp only[fG,aV1,decide_eq_true_eq] at ht;omega
 have hlen: (aY t).length=(t.length+3) / 4:=by rw[hc,jQ]
 have hp:=yb ht (n:=n) (by omega)
 have e: (((t.length:Nat):Int)+3) / 4=((aY t).length:Nat):=by rw[hlen];omega
 have hall:jE (aY t)=(aWb (4*((t.length+3) / 4))).map fun j=>t.getD j 0:=by
  unfold jE;rw[hc];exact aFw t _
 have hsplit:jE (aY t)=t++List.replicate (4*((t.length+3) / 4) - t.length) 0:=by
  rw[hall]
  refine List.ext_getElem? fun j=> ?_
  rw[List.getElem?_map]
  by_cases h1:j<4*((t.length+3) / 4)
  · rw[List.getElem?_range h1]
    by_cases h2:j<t.length
    · rw[List.getElem?_append_left h2,aV8 h2]
      simp[aV6,aV8 h2]
    · rw[List.getElem?_append_right (by omega),List.getElem?_replicate,if_pos (by omega)]
      simp[aV6,List.getElem?_eq_none (show t.length≤j by omega)]
  · rw[List.getElem?_eq_none (by simp;omega),List.getElem?_eq_none (by simp;omega)];rfl
 rw[ck ht (by rw[e,hp];exact zO fun j hj=>by have:=(nQ (t:=t)).2 _ (dH (z:=([]:List UInt8)) hj);omega) (by
  rw[e,hp,hsplit,aVy,List.drop_left' rfl]
  simp),e,hp,hsplit,aVy,List.take_left' rfl]
theorem rg {b:Int} (hb:1≤b∧b≤6): ∀(k:Nat) (x:Int) (u:List Bool),UOk b u→((u.count true:Int)+k≤b)→(kj b k x u).count true=u.count true+k
 |0,x,u,h,hc=>rfl
 |k+1,x,u,h,hc=>by
  unfold kj
  obtain⟨h1,h2⟩:=kl (x:=x) hb h (by omega)
  rw[rg hb k _ _ h1 (by omega)];omega
theorem aOc {b n:Int} (h:mD b n=true):bK b n≠[]:=by
 have hb: (1≤b∧b≤6)∧0≤n∧n≤999:=by
  simp only[mD,fG,aV1,decide_eq_true_eq] at h;omega
 by_cases hn:n<b
 · rw[nN h hn];simp
 · rw[xS h hn]
   intro he
   have hd:=mJ h
   obtain⟨z1,z2⟩:=qO b
   have hc:=rg hb.1 (hO b n).toNat (cR (wrap64 (wrap64 (n*7)+1))) _ z1 (by rw[z2];omega)
   rw[z2] at hc
   have hpos:0< (oL b n).count true:=by unfold oL;omega
   have hm:=List.count_pos_iff.1 hpos
   obtain⟨i,hi⟩:=List.mem_iff_getElem?.1 hm
   have hlt:=(aV9.1 hi).1
   have: ((i:Nat):Int)∈aNq (oL b n):=by
    unfold aNq
    refine aWc.2 ⟨i,List.mem_filter.2 ⟨List.mem_range.2 hlt,?_⟩,rfl⟩
    rw[aV6,hi];rfl
   rw[he] at this
   cases this
theorem aDj {t:List UInt8} (ht:fG t.length 1 24=true) {n:Int} (hn:0≤n∧n≤999): (kD t n).length=4:=by
 have hl:=(nQ (t:=t)).1
 have hlen: (aY t).length=(t.length+3) / 4:=by rw[rO ht,jQ]
 have hr:1≤t.length∧t.length≤24:=by simp only[fG,aV1,decide_eq_true_eq] at ht;omega
 have h1:mD ((aY t).length:Nat) n=true:=by
  simp only[mD,fG,aV1,decide_eq_true_eq];omega
 rw[uG]
 · exact uF rfl
 · rintro(h|h)
   · rw[h] at hlen;simp at hlen;omega
   · exact aOc h1 h
theorem aId {a b:Int} (ha:0≤a∧a≤3) (hb:0≤b∧b≤3) (h:a≠b):0≤fR a b∧fR a b≤3:=by
 unfold fR
 rw[if_neg (by simp[eA,fG];omega)]
 split<;>omega
theorem aT7 {k:aJ} {f n mix:Int} (h: (aU k f n mix).2=true):aZ k=true∧k.up=true∧(0≤mix∧mix≤999)∧0≤aW (eE k).held f n∧(aU k f n mix).1=kr k ((eE k).held.getD (aW (eE k).held f n).toNat .zero) mix:=by
 unfold aU at h ⊢
 split at h
 · rename_i hc
   rw[if_pos hc]
   simp only[aV1,decide_eq_true_eq,fG] at hc
   obtain⟨⟨⟨h1,h2⟩,h3⟩,h4⟩:=hc
   rw[zX h1]
   exact⟨h1,h2,h3,h4,rfl⟩
 · cases h
theorem aQq {k:aJ} {f n mix:Int} (h: (aU k f n mix).2=true):dJ (aU k f n mix).1=true∧(aU k f n mix).1.src=k.id∧(aU k f n mix).1.mix=mix∧
 ∃t:List UInt8,fG t.length 1 24=true∧(aU k f n mix).1.size=t.length∧(∀i:Nat,i≤999→(aU k f n i).1.data=kD t i∧(aU k f n i).2=true)∧(⟨f,n,(aU k f n mix).1.to,(aU k f n mix).1.til,t⟩:bA)∈(eE k).held:=by
 obtain⟨hok,hu,hm,hp,e⟩:=aT7 h
 obtain⟨p1,p2,p3⟩:=aQo hp
 have hmem:=dH (z:=bA.zero) p1
 have hkk:=aT6 hok
 obtain⟨⟨i1,_⟩,⟨n1,_⟩,_,_,c1,_⟩:=aIa.1 hkk
 have hno:=lQ (n1 _ hmem)
 have hway:=(c1 _ hmem).2.2.1
 rw[aT5 hok] at i1 hway
 have hid:0≤k.id∧k.id≤3:=by simp[eA,fG] at i1;omega
 have hne:k.id≠((eE k).held.getD (aW (eE k).held f n).toNat .zero).to:=by
  unfold al at hway
  simp only[aV1,bne_iff_ne] at hway
  exact hway.1
 rw[e]
 generalize hg: (eE k).held.getD (aW (eE k).held f n).toNat .zero=nt at*
 have ht:fG nt.text.length 1 24=true:=by simp only[fG,aV1,decide_eq_true_eq];omega
 refine⟨?_,rfl,rfl,nt.text,ht,rfl,fun i hi=> ?_,?_⟩
 · have hnx:=aId hid hno.2.1 hne
   have h4:=aDj ht hm
   unfold dJ kr
   simp only[eA,fG,if_true,h4,aV1,decide_eq_true_eq]
   repeat' apply And.intro
   all_goals first|omega|rfl|trivial
 · have hii:fG (i:Int) 0 999=true:=by simp only[fG,aV1,decide_eq_true_eq];omega
   have ey:=wY (k:=k) (f:=f) (n:=n) (mix:=i) hok hu hii (by rw[← zX hok];exact hp)
   rw[← zX hok,hg] at ey
   rw[ey]
   exact⟨rfl,rfl⟩
 · show(⟨f,n,nt.to,nt.til,nt.text⟩:bA)∈_
   rw[← p2,← p3];exact hmem
def KQ (k:aJ):Prop:=k.log.length≤20000∧k.halves.length≤100∧ ∀x∈k.halves,x.got.length≤100
theorem iq.kq {k:aJ} (h:iq k):KQ k:=⟨by have:=h.1;omega,by have:=h.2.1;omega,fun x hx=>by have:=h.2.2 x hx;omega⟩
theorem KQ.log {k:aJ} (h:KQ k):k.log.length≤140737488355328:=by have:=h.1;omega
theorem KQ.idd {k:aJ} (h:KQ k) (i:Int):KQ {k with id:=i}:=h
theorem KQ.upp {k:aJ} (h:KQ k) (b:Bool):KQ {k with up:=b}:=h
theorem KQ.frc {k:aJ} (h:KQ k) (f:Int):KQ {k with forced:=f}:=h
theorem KQ.shelf {k:aJ} (h:KQ k) {l:List UInt8} (hl:l.length≤20000) (f:Int):KQ {k with log:=l,forced:=f}:=⟨hl,h.2⟩
theorem KQ.lgg {k:aJ} (h:KQ k) {l:List UInt8} (hl:l.length≤20000):KQ {k with log:=l}:=⟨hl,h.2⟩
theorem KQ.half {k:aJ} (h:iq k) {x:dT} (hx:x.got.length≤100):KQ {k with halves:=k.halves++[x]}:=
 ⟨by have:=h.1;show k.log.length≤_;omega,by have:=h.2.1;show(k.halves++[x]).length≤_;simp;omega,fun y hy=>by
  rcases List.mem_append.1 hy with hy|hy
  · have:=h.2.2 y hy;omega
  · rw[aWg.1 hy];exact hx⟩
theorem KQ.zero:KQ .zero:=⟨by show(0:Nat)≤_;omega,by show(0:Nat)≤_;omega,fun _ hx=>nomatch hx⟩
theorem tM (l:List UInt8) (f:Int): (fO l f).1.length≤l.length:=by
 unfold fO
 split
 · exact aWa _
 · exact aV5 _
theorem nV {l:List UInt8} {f:Int} {rec:List UInt8} (h:l.length≤2400): (bT l f rec).1.1.length≤2400:=by
 unfold bT
 split
 · split
   · rename_i hc
     simp only[aV1,decide_eq_true_eq] at hc
     show(l++kC rec).length≤_
     rw[aVz];omega
   · exact h
 · show(0:Nat)≤_;omega
structure xZ (x k:aJ):Prop where
 ok:aZ x=true
 time: (eE x).time=(eE k).time
 next: (eE x).next=(eE k).next
theorem xZ.refl {k:aJ} (h:aZ k=true):xZ k k:=⟨h,rfl,rfl⟩
theorem xZ.trans {a b c:aJ} (h:xZ a b) (g:xZ b c):xZ a c:=⟨h.ok,h.time.trans g.time,h.next.trans g.next⟩
theorem xZ.halves {k:aJ} {l:List dT} (hok:aZ k=true) (hu:k.up=true) (hl:l.length≤3) (h:HOk l):xZ (dV k l) k:=by
 have h2:=lk hok hu hl h
 have e:eE (dV k l)=eE k:=by rw[zX h2,zX hok];rfl
 exact⟨h2,by rw[e],by rw[e]⟩
theorem xZ.forced {k:aJ} (hok:aZ k=true):xZ (lF k) k:=⟨aBr hok,by rw[ya hok],by rw[ya hok]⟩
theorem aT8 {f:cI} {a:Int} (hf:dJ f=true) (hk:f.kind=1) (ha:a=2∨a=3):dJ (ba a f)=true∧(ba a f).src=f.dst∧(ba a f).dst=f.src:=by
 refine⟨?_,rfl,rfl⟩
 unfold dJ at hf ⊢
 rw[if_pos hk] at hf
 simp only[aV1,decide_eq_true_eq] at hf
 obtain⟨⟨⟨⟨⟨⟨h1,h2⟩,h3⟩,h4⟩,h5⟩,h6⟩,⟨⟨h7,h8⟩,h9⟩,h10⟩:=hf
 have e1: ¬(ba a f).kind=1:=by show ¬a=1;omega
 have e2: (ba a f).kind=2∨(ba a f).kind=3:=ha
 rw[if_neg e1,if_pos e2]
 simp only[aV1,decide_eq_true_eq]
 exact⟨⟨⟨⟨⟨⟨h2,h1⟩,h3⟩,h4⟩,h5⟩,h6⟩,⟨⟨rfl,rfl⟩,rfl⟩,h10⟩
def aJc (k:aJ) (f:cI) (r:aJ×List cI):Prop:=
 xZ r.1 k∧(∀g∈r.2,dJ g=true∧g.src=k.id∧g.dst=f.src)∧r.2.length≤1
theorem aJc.nil {k x:aJ} {f:cI} (h:xZ x k):aJc k f (x,[]):=⟨h,fun _ hg=>(nomatch hg),aV5 _⟩
theorem aJc.one {k x:aJ} {f:cI} {a:Int} (h:xZ x k) (hf:dJ f=true) (hk:f.kind=1) (hd:f.dst=k.id) (ha:a=2∨a=3):aJc k f (x,[ba a f]):=
 ⟨h,fun g hg=>by rw[aWg.1 hg];obtain⟨q1,q2,q3⟩:=aT8 hf hk ha;exact⟨q1,q2.trans hd,q3⟩,aWa _⟩
end Go.Ab
namespace Go.Proofs.YtmabaopgkimfmaaGreatDoor
open Int renaming toNat_natCast→aVy,tmod→aWe
open List renaming length_append→aVz,length_nil→aV2,length_cons→aV3,length_take→aV4,getD_eq_getElem?_getD→aV6,length_drop→aV7,getElem?_eq_getElem→aV8,getElem?_eq_some_iff→aV9,range→aWb,mem_map→aWc,take_length→aWd,all_eq_true→aWf,mem_singleton→aWg
open Nat renaming le_of_ble_eq_true→aV0,zero_le→aV5,le_refl→aWa,add_mul→aWh
open Bool renaming and_eq_true→aV1
open Go Go.Ab Go.RowKit
set_option linter.unusedVariables false
set_option linter.unusedSimpArgs false
set_option maxRecDepth 9000
theorem aFx {B:Nat} {ds:List D} (h:vP tab B 8 68 ds): ∃l:List UInt8,ds=[.sl (aA l)]∧l.length≤B:=by
 obtain⟨rows,rfl,h1,h2⟩:=h
 have h3: ∀r∈rows,r=[.u (Ab.byteOf r).toNat]:=fun r hr=>by
  obtain⟨n,rfl,hn⟩:=h2 r hr
  simp[Lit.wf,IntKind.min,IntKind.max,IntKind.signed,IntKind.bits] at hn
  simp[Ab.byteOf]
  omega
 refine⟨iZ rows,?_,?_⟩
 · congr 2
   unfold iZ aA
   rw[List.map_map]
   conv=>lhs;rw[← List.map_id rows]
   exact List.map_congr_left fun r hr=>h3 r hr
 have h1:rows.length*1≤B:=h1
 simpa[iZ] using h1
theorem aJd {l:List bA} {n:bA} {i:Nat} (hg: (aE l).getD i []=(l.getD i .zero).row):yT (nA aJw.zero ((aE l).getD (Int.toNat (i:Int)) []) 0) [.i n.frm,.i n.num,.i n.to,.i n.til,.s n.text]=decide (l.getD i .zero=n):=by
 rw[aVy,hg]
 generalize l.getD i .zero=m
 obtain⟨a,b,c,d,e⟩:=m
 obtain⟨a2,b2,c2,d2,e2⟩:=n
 rw[Bool.eq_iff_iff]
 simp[bA.row,nA,aMf,yT,eqD,and_assoc,sd,toS]
theorem aVv {l:List bA} {n:bA} {i:Nat} (hg: (aE l).getD i []=(l.getD i .zero).row) (h:yT (nA aJw.zero ((aE l).getD (Int.toNat (i:Int)) []) 0) [.i n.frm,.i n.num,.i n.to,.i n.til,.s n.text]=true):l.getD i .zero=n:=by rw[aJd hg] at h;exact of_decide_eq_true h
theorem aVw {l:List bA} {n:bA} {i:Nat} (hg: (aE l).getD i []=(l.getD i .zero).row) (h:yT (nA aJw.zero ((aE l).getD (Int.toNat (i:Int)) []) 0) [.i n.frm,.i n.num,.i n.to,.i n.til,.s n.text]=false): ¬l.getD i .zero=n:=by rw[aJd hg] at h;exact of_decide_eq_false h
theorem aDk (l:List bA) (n:bA) (hl:l.length≤100000):Sp 59 2 [tD 0 (.sl (aE l)),tV 1 n.V] [tB 0 (decide (n∈l))]:=by
 refine sb Tryz.func59 rfl (sq (rT [0,3] (s2 (sq (sq (rT [0,3,5] (s1 (bk (SW.loopW (n:=l.length) (fun m s=> ∃i:Nat,m=l.length - i∧i≤l.length∧n∉l.take i∧s=[tD 0 (.sl (aE l)),tP 3 3,tI 5 (i:Nat),oB 3 52 [.d (.i n.frm),.d (.i n.num),.d (.i n.to),.d (.i n.til),.d (.s n.text)]]) ?_ ?_)))))))))
 · exact wq (σ':=[tD 0 (.sl (aE l)),tP 3 3,tI 5 (0:Nat),oB 3 52 [.d (.i n.frm),.d (.i n.num),.d (.i n.to),.d (.i n.til),.d (.s n.text)]]) [] [] (⟨0,rfl,aV5 _,by simp,rfl⟩) qz
 rintro n s ⟨i,rfl,hi,hno,rfl⟩
 refine sq (sq (rT [0,3,5,9] (s4 (cd rfl (fun c9=> ?_) fun c9=> ?_))))
 · have hi2:i<l.length:=by simpa[aD] using c9
   have hg:=aT (l:=l) hi2
   have hlen:=aD l
   refine sk (sq (bk (sq (rD [0,3,5,17] (s2 (ai (by rw[aVy,hg];exact⟨⟨by omega,by rw[hlen];omega⟩,rfl⟩) (ai (by rw[aVy,hg];exact⟨aV0 rfl,rfl⟩) (s1 (aTw dA (nA aJw.zero ((aE l).getD (Int.toNat (i:Int)) []) 0) [.i n.frm,.i n.num,.i n.to,.i n.til,.s n.text] rfl rfl rfl (by kernel_rfl) (by kernel_rfl) (by kernel_rfl) (by kernel_rfl) rfl rfl (ai (by kernel_rfl) (cd rfl (fun c17=> ?_) fun c17=> ?_)))))))))))
   · have hat:l.getD i .zero=n:=aVv hg c17
     refine sq (rT [4] (s1 (rt (bL rfl (congrArg D.b ?_)))))
     rw[decide_eq_true (hat▸dH hi2)]
   have hat: ¬l.getD i .zero=n:=aVw hg c17
   refine sk (rT [0,3,5] (s3 ?_))
   have hno2:n∉l.take (i+1):=by rw[fB (z:=bA.zero) hi2];simp only[List.mem_append,aWg,not_or];exact⟨hno,fun e=>hat e.symm⟩
   refine wq [] [] (⟨l.length - (i+1),by omega,i+1,rfl,by omega,hno2,rfl⟩) ?_
   repeat' apply ai
   all_goals first|exact qx|exact congrArg D.i (aB (by omega))|rfl|exact qz
 have hie:i=l.length:=by simp[aD] at c9;omega
 refine xt (sq (rT [4] (s1 (rt (bL rfl (congrArg D.b ?_))))))
 rw[decide_eq_false (by rw[hie,aWd] at hno;exact hno)]
theorem aSd (l:List UInt8) (p:Int) (rs:List (List UInt8)) (hr:1≤rs.length) (hp:0≤p∧p≤1000000) (hl:l.length≤2000):Sp 168 2 [tP 0 0,tO 1 5 rs.length,oB 0 177 [.d (.sl (aA l)),.d (.i (p))],oR 5 9 1 (aX (rs))] [tD 0 (.s (rs.getD (bN l p (rs.length:Int)).toNat [])),oB 0 177 [.d (.sl (aA l)),.d (.i (p+1))],oR 5 9 1 (aX (rs))]:=by
 have hv:=cF l (p:=p) (n:=(rs.length:Int)) hp (by omega)
 refine sb Tryz.func168 rfl (sq (rT [0,1] (s1 (sq (rT [4] (s3 (ai (by exact aM _) (bH (robj:=[(0,.box 177 [.d (.sl (aA (l))),.d (.i (p))])]) (rl:=[(0,0)]) (bor:=[]) (cN (l) (p) _ (by omega) hl) rfl rfl rfl rfl ⟨bQ rfl rfl rfl rfl (cJ rfl rfl (aS rfl (aC rfl (aC rfl aG)) trivial)),rfl⟩ rfl (.inl rfl) (aH ⟨rfl,trivial⟩) (fun _ hj=>nomatch hj) (ai (by exact⟨aM _,hv.1,hv.2⟩) (ai (oldS (by omega) rfl) (s1 (rt (rq [] [] rfl ?_)))))))))))))
 repeat' apply ai
 all_goals try exact qx
 all_goals first|with_reducible rfl|(rw[eN (by omega)];rfl)|rfl
theorem yd (l:List UInt8) (p:Int) (tx:List UInt8) (hp:0≤p∧p≤790000) (hl:l.length≤2000) (htx:tx.length≤10000):xd 202 2 [tP 0 0,tD 1 (.s tx),oB 0 177 [.d (.sl (aA l)),.d (.i (p))]] (fun s=> ∃(x:List UInt8) (q:Int),(p≤q∧q≤p+10∧x.length≤2*tx.length+1)∧s=[tD 0 (.s x),oB 0 177 [.d (.sl (aA l)),.d (.i (q))]]):=by
 have hall1: ∀y∈([[32],[48],[45],[49],[120],[58],[59]]:List (List UInt8)),y.length≤1:=by decide
 have hall2: ∀y∈([[57],[45],[59],[32],[10]]:List (List UInt8)),y.length≤1:=by decide
 refine yf Tryz.func202 rfl (sq (rT [0,1] (s1 (sq (SW.midW (fun s=> ∃(cb:Bool) (q2:Int),(p≤q2∧q2≤p+1∧(cb=false→1≤tx.length))∧s=[tP 0 0,tD 1 (.s tx),tB 13 cb,oB 0 177 [.d (.sl (aA l)),.d (.i (q2))]]) ?_ ?_)))))
 · refine rF [0,1,13] (s1 (s1 (s1 (s1 (ai (fun h1=> ?_) (fun h1=> ?_))))))
   · refine s1 (ai (fun _=> ?_) (fun h=>absurd h (by rw[h1];simp)))
     refine gW (bH (robj:=[(0,.box 177 [.d (.sl (aA (l))),.d (.i (p))])]) (rl:=[(0,0)]) (bor:=[]) (cN (l) (p) _ (by omega) hl) rfl rfl rfl rfl ⟨bQ rfl rfl rfl rfl (cJ rfl rfl (aS rfl (aC rfl (aC rfl aG)) trivial)),rfl⟩ rfl (.inl rfl) (aH ⟨rfl,trivial⟩) (fun _ hj=>nomatch hj) (ai (fun _=> ?_) (fun h=>absurd h (by rw[h1];simp))))
     refine s1 (ai pk (wq [] [] ⟨?c1,p+1,⟨by omega,by omega,?e1⟩,rfl⟩ ?_))
     repeat' apply ai
     all_goals try exact qx
     all_goals try rfl
     all_goals(intro _;have h2: ¬tx=[]:=(by simpa[gb] using h1);have:=List.length_pos_iff.2 h2;omega)
   refine⟨I 0,?_⟩
   refine ai (fun h=>absurd h (by rw[h1];simp)) (fun _=>⟨I 0,?_⟩)
   refine ai (fun h=>absurd h (by rw[h1];simp)) (fun _=>⟨B false,?_⟩)
   refine ai (by constructor<;>intro h<;>first|trivial|(simp[gb,h] at h1;done)) (wq [] [] ⟨?d1,p,⟨by omega,by omega,?f1⟩,rfl⟩ ?_)
   repeat' apply ai
   all_goals try exact qx
   all_goals try rfl
   all_goals(intro h;have h2:tx=[]:=(by simpa[gb] using h1);simp[h2] at h)
 rintro s ⟨cb,q2,hq2,rfl⟩
 refine cd rfl (fun c13=> ?_) fun c13=> ?_
 · refine sq (rT [4] (s2 (rt (cW _ ⟨?za2,q2,⟨by omega,by omega,?zn2⟩,rfl⟩ (dQ _ [] [] rfl ?_ rfl rfl)))))
   all_goals try(refine qs ?_;(repeat' first|exact qx|apply ai))
   try any_goals with_reducible rfl
   try any_goals rfl
   all_goals((try simp only[aVz,aV4,aV7]);omega)
 have htl:=hq2.2.2 c13
 refine sk (sq ?_)
 obtain⟨i,hi,hil⟩: ∃i:Nat,bN l q2 (tx.length:Int)=(i:Int)∧i<tx.length:=by have:=cF l (p:=q2) (n:=(tx.length:Int)) (by omega) (by omega);exact⟨(bN l q2 (tx.length:Int)).toNat,by omega,by omega⟩
 refine rT [0,1,5] (s3 (bH (robj:=[(0,.box 177 [.d (.sl (aA (l))),.d (.i (q2))])]) (rl:=[(0,0)]) (bor:=[]) (cN (l) (q2) _ (by omega) hl) rfl rfl rfl rfl ⟨bQ rfl rfl rfl rfl (cJ rfl rfl (aS rfl (aC rfl (aC rfl aG)) trivial)),rfl⟩ rfl (.inl rfl) (aH ⟨rfl,trivial⟩) (fun _ hj=>nomatch hj) (s1 (sq (sq (wa [tP 0 0,tD 1 (.s tx),tI 5 (i:Nat),oB 0 177 [.d (.sl (aA l)),.d (.i (q2+1))]] [] [] ?_ ?_))))))
 · repeat' apply ai
   all_goals first|exact qx|exact congrArg D.i hi|rfl|exact qz
 have hwi:wrap64 ((i:Int)+1)=(i:Int)+1:=aB (by omega)
 refine rT [0,1,5,20] (s1 (bH (robj:=[(0,.box 177 [.d (.sl (aA (l))),.d (.i (q2+1))])]) (rl:=[(0,0)]) (bor:=[]) (cN (l) (q2+1) _ (by omega) hl) rfl rfl rfl rfl ⟨bQ rfl rfl rfl rfl (cJ rfl rfl (aS rfl (aC rfl (aC rfl aG)) trivial)),rfl⟩ rfl (.inl rfl) (aH ⟨rfl,trivial⟩) (fun _ hj=>nomatch hj) (bk (sq (rT [0,1,5,20,21] (ai (by first|trivial|(show _≤9223372036854775807;(try simp only[aVz,aV3,aV2,aV4,aV7]);omega)) (s1 (cd rfl (fun c21=> ?_) fun c21=> ?_))))))))
 · refine sq (rD [4] (s2 (ai (by(try rw[hwi]);simp[mu,eK,fM] at *; omega) (s2 (ai (by first|trivial|(show _≤9223372036854775807;(try simp only[aVz,aV3,aV2,aV4,aV7]);omega)) (ai (by(try rw[hwi]);simp[mu,eK,fM] at *; omega) (ai (by first|trivial|(show _≤9223372036854775807;(try simp only[aVz,aV3,aV2,aV4,aV7]);omega)) (s1 (ai (by kernel_rfl) (rt (cW _ ⟨?za3,q2+1+1,⟨by omega,by omega,?zn3⟩,rfl⟩ (dQ _ [] [] rfl ?_ rfl rfl))))))))))))
   all_goals try(refine qs ?_;(repeat' first|exact qx|apply ai))
   try any_goals with_reducible rfl
   try any_goals rfl
   all_goals((try simp only[aVz,aV4,aV7]);omega)
 refine sq (rT [0,1,5,20,31] (ai (by first|trivial|(show _≤9223372036854775807;(try simp only[aVz,aV3,aV2,aV4,aV7]);omega)) (s1 (cd rfl (fun c31=> ?_) fun c31=> ?_))))
 · refine sq ?_
   have ho:=hall1 (([[32],[48],[45],[49],[120],[58],[59]]:List (List UInt8)).getD (bN l (q2+1+1) (([[32],[48],[45],[49],[120],[58],[59]]:List (List UInt8)).length:Int)).toNat []) (dH (by have:=cF l (p:=q2+1+1) (n:=7) (by omega) (by omega);simp;omega))
   have ho2:=ho
   simp only[aV3,aV2] at ho2
   refine rD [4] (s2 (ai (by(try rw[hwi]);simp[mu,eK,fM] at *; omega) (s1 (ai (by exact⟨by simp,by decide⟩) (bH (robj:=[(0,.box 177 [.d (.sl (aA l)),.d (.i (q2+1+1))]),(37,.row 9 1 (aX ([[32],[48],[45],[49],[120],[58],[59]]:List (List UInt8))))]) (rl:=[(0,0),(5,37)]) (bor:=[]) (aSd l (q2+1+1) ([[32],[48],[45],[49],[120],[58],[59]]:List (List UInt8)) (by simp) (by omega) hl) rfl rfl rfl rfl ⟨bQ rfl rfl rfl rfl (fN rfl rfl rfl rfl (aS rfl (aC rfl (aC rfl aG)) (bR rfl rfl trivial))),rfl⟩ rfl (.inl rfl) (aH ⟨rfl,rfl,trivial⟩) (fun j hj=>nomatch hj) (ai (by first|trivial|(show _≤9223372036854775807;(try simp only[aVz,aV3,aV2,aV4,aV7]);omega)) (s2 (ai (by(try rw[hwi]);simp[mu,eK,fM] at *; omega) (ai (by first|trivial|(show _≤9223372036854775807;(try simp only[aVz,aV3,aV2,aV4,aV7]);omega)) (s1 (ai (by kernel_rfl) (rt (cW _ ⟨?za4,q2+1+1+1,⟨by omega,by omega,?zn4⟩,rfl⟩ (dQ _ [] [] rfl ?_ rfl rfl))))))))))))))
   all_goals try(refine qs ?_;(repeat' first|exact qx|apply ai))
   try any_goals with_reducible rfl
   try any_goals rfl
   all_goals((try simp only[aVz,aV4,aV7]);omega)
 refine sq (rT [0,1,5,20,44] (ai (by first|trivial|(show _≤9223372036854775807;(try simp only[aVz,aV3,aV2,aV4,aV7]);omega)) (s1 (cd rfl (fun c44=> ?_) fun c44=> ?_))))
 · refine sq ?_
   have ho:=hall2 (([[57],[45],[59],[32],[10]]:List (List UInt8)).getD (bN l (q2+1+1) (([[57],[45],[59],[32],[10]]:List (List UInt8)).length:Int)).toNat []) (dH (by have:=cF l (p:=q2+1+1) (n:=5) (by omega) (by omega);simp;omega))
   have ho2:=ho
   simp only[aV3,aV2] at ho2
   refine rD [4] (s2 (ai (by(try rw[hwi]);simp[mu,eK,fM] at *; omega) (s1 (ai (by exact⟨by simp,by decide⟩) (bH (robj:=[(0,.box 177 [.d (.sl (aA l)),.d (.i (q2+1+1))]),(50,.row 9 1 (aX ([[57],[45],[59],[32],[10]]:List (List UInt8))))]) (rl:=[(0,0),(5,50)]) (bor:=[]) (aSd l (q2+1+1) ([[57],[45],[59],[32],[10]]:List (List UInt8)) (by simp) (by omega) hl) rfl rfl rfl rfl ⟨bQ rfl rfl rfl rfl (fN rfl rfl rfl rfl (aS rfl (aC rfl (aC rfl aG)) (bR rfl rfl trivial))),rfl⟩ rfl (.inl rfl) (aH ⟨rfl,rfl,trivial⟩) (fun j hj=>nomatch hj) (ai (by first|trivial|(show _≤9223372036854775807;(try simp only[aVz,aV3,aV2,aV4,aV7]);omega)) (s2 (ai (by first|trivial|(show _≤9223372036854775807;(try simp only[aVz,aV3,aV2,aV4,aV7]);omega)) (ai (by(try rw[hwi]);simp[mu,eK,fM] at *; omega) (ai (by first|trivial|(show _≤9223372036854775807;(try simp only[aVz,aV3,aV2,aV4,aV7]);omega)) (s1 (ai (by kernel_rfl) (rt (cW _ ⟨?za5,q2+1+1+1,⟨by omega,by omega,?zn5⟩,rfl⟩ (dQ _ [] [] rfl ?_ rfl rfl)))))))))))))))
   all_goals try(refine qs ?_;(repeat' first|exact qx|apply ai))
   try any_goals with_reducible rfl
   try any_goals rfl
   all_goals((try simp only[aVz,aV4,aV7]);omega)
 refine sq (rT [1,5,58] (ai (by first|trivial|(show _≤9223372036854775807;(try simp only[aVz,aV3,aV2,aV4,aV7]);omega)) (s1 (cd rfl (fun c58=> ?_) fun c58=> ?_))))
 · refine sq (rT [4] (s2 (ai (by first|trivial|(show _≤9223372036854775807;(try simp only[aVz,aV3,aV2,aV4,aV7]);omega)) (s1 (rt (cW _ ⟨?za6,q2+1+1,⟨by omega,by omega,?zn6⟩,rfl⟩ (dQ _ [] [] rfl ?_ rfl rfl)))))))
   all_goals try(refine qs ?_;(repeat' first|exact qx|apply ai))
   try any_goals with_reducible rfl
   try any_goals rfl
   all_goals((try simp only[aVz,aV4,aV7]);omega)
 refine sk (sq (rT [4] (s2 (ai (by(try rw[hwi]);simp[mu,eK,fM] at *; omega) (s1 (rt (cW _ ⟨?za7,q2+1+1,⟨by omega,by omega,?zn7⟩,rfl⟩ (dQ _ [] [] rfl ?_ rfl rfl))))))))
 all_goals try(refine qs ?_;(repeat' first|exact qx|apply ai))
 try any_goals with_reducible rfl
 try any_goals rfl
 all_goals((try simp only[aVz,aV4,aV7]);omega)
theorem rz (l:List UInt8) (p:Int) (hp:0≤p∧p≤780000) (hl:l.length≤2000):xd 166 1 [tP 0 0,oB 0 177 [.d (.sl (aA l)),.d (.i (p))]] (fun s=> ∃(lg:List UInt8) (fr q:Int),(lg.length≤20000∧p≤q∧q≤p+1500)∧s=[tV 0 (.e (.agg [.d (.s lg),.d (.i fr)])),oB 0 177 [.d (.sl (aA l)),.d (.i (q))]]):=by
 refine yf Tryz.func166 rfl (sq (rT [0,2] (s1 (sq (rT [0,2,3] (s3 (sq (sq (rT [0,2,3,4] (s1 (bH (robj:=[(0,.box 177 [.d (.sl (aA (l))),.d (.i (p))])]) (rl:=[(0,0)]) (bor:=[]) (cN (l) (p) _ (by omega) hl) rfl rfl rfl rfl ⟨bQ rfl rfl rfl rfl (cJ rfl rfl (aS rfl (aC rfl (aC rfl aG)) trivial)),rfl⟩ rfl (.inl rfl) (aH ⟨rfl,trivial⟩) (fun _ hj=>nomatch hj) (s1 (bk ?_)))))))))))))
 obtain⟨n0,hn0,hn9⟩: ∃n0:Nat,bN l p 9=(n0:Int)∧n0≤8:=by have:=cF l (p:=p) (n:=9) (by omega) (by omega);exact⟨(bN l p 9).toNat,by omega,by omega⟩
 refine SW.loopW (n:=n0) (fun x s=> ∃(lg:List UInt8) (fr q:Int),(x≤n0∧lg.length≤2400∧p+1≤q∧q≤p+1+131*(n0 - x:Nat))∧s=[tP 0 0,tP 2 2,tP 3 3,tI 4 (x:Nat),oB 0 177 [.d (.sl (aA l)),.d (.i (q))],oB 2 28 [.d (.s ([])),.d (.i (0))],oB 3 28 [.d (.s (lg)),.d (.i (fr))]]) ?_ ?_
 · refine wq [] [] ⟨[],0,p+1,⟨by omega,by simp,by omega,by omega⟩,rfl⟩ ?_
   repeat' apply ai
   all_goals try exact qx
   all_goals try rfl
   all_goals exact congrArg D.i hn0
 rintro n s ⟨lg,fr,q,⟨hxn,hlg,hq⟩,rfl⟩
 refine sq (sq (rT [0,2,3,4,10] (s1 (ai (by first|trivial|(show _≤9223372036854775807;(try simp only[aVz,aV3,aV2,aV4,aV7]);omega)) (cd rfl (fun c10=> ?_) fun c10=> ?_)))))
 · have hn1:0<n:=by simp at c10;omega
   refine sk (sq (bk (sq (SW.regDE dA mo [0,2,3,4] 2 (fun _=>none) rfl rfl (by kernel_rfl) ?_))))
   refine s2 (dl (robj:=[(0,.box 177 [.d (.sl (aA l)),.d (.i (q))])]) (rl:=[(0,0)]) (bor:=[]) (news:=[]) (fv l q (by omega) hl) rfl rfl rfl rfl ⟨bQ rfl rfl rfl rfl (aS rfl (aC rfl (aC rfl aG)) trivial),rfl⟩ (by rintro _ ⟨x,q9,hx,rfl⟩;exact⟨rfl,.inl rfl,fun j hj=>nomatch hj⟩) (aH ⟨rfl,trivial⟩) (fun j hj=>nomatch hj) ⟨_,[],q,⟨by omega,by omega,by simp⟩,rfl⟩ ?_)
   rintro _ ⟨x,q9,hx,rfl⟩
   refine xp (tK lg fr x (by omega) (by omega)) (ai rfl ?_)
   refine s1 (s8 (ai (by kernel_rfl) (sq (rT [0,2,3,4,22] (s1 (bH (robj:=[(0,.box 177 [.d (.sl (aA (l))),.d (.i (q9))])]) (rl:=[(0,0)]) (bor:=[]) (cN (l) (q9) _ (by omega) hl) rfl rfl rfl rfl ⟨bQ rfl rfl rfl rfl (cJ rfl rfl (aS rfl (aC rfl (aC rfl aG)) trivial)),rfl⟩ rfl (.inl rfl) (aH ⟨rfl,trivial⟩) (fun _ hj=>nomatch hj) (ai (by first|trivial|(show _≤9223372036854775807;(try simp only[aVz,aV3,aV2,aV4,aV7]);omega)) (cd rfl (fun c22=> ?_) fun c22=> ?_))))))))
   · refine rT [0,2,3,4] (s1 (xp (iL (bT lg fr x).1.1 (bT lg fr x).1.2 (by have:=nV (f:=fr) (rec:=x) hlg;omega)) (ai rfl ?_)))
     refine s1 (rT [0,2,3,4] (s1 (ai (by first|trivial|(show _≤9223372036854775807;(try simp only[aVz,aV3,aV2,aV4,aV7]);omega)) (s1 ?_))))
     first
     |(refine wq (σ':=[tP 0 0,tP 2 2,tP 3 3,tI 4 (n - 1:Nat),oB 0 177 [.d (.sl (aA l)),.d (.i ((q9+1)))],oB 2 28 [.d (.s ([])),.d (.i (0))],oB 3 28 [.d (.s ((fO (bT lg fr x).1.1 (bT lg fr x).1.2).1)),.d (.i ((fO (bT lg fr x).1.1 (bT lg fr x).1.2).2))]]) [] [] (⟨n - 1,by omega,(fO (bT lg fr x).1.1 (bT lg fr x).1.2).1,(fO (bT lg fr x).1.1 (bT lg fr x).1.2).2,q9+1,⟨by omega,Nat.le_trans (tM _ _) (nV hlg),by omega,by omega⟩,rfl⟩) ?_
       repeat' apply ai
       all_goals first|exact qx|(refine congrArg D.i ?_;rw[aB (by omega)];omega)|rfl|exact qz)
     |(refine wq [] [] (⟨n - 1,by omega,(bT lg fr x).1.1,(bT lg fr x).1.2,q9+1,⟨by omega,nV hlg,by omega,by omega⟩,rfl⟩) ?_
       repeat' apply ai
       all_goals first|exact qx|(refine congrArg D.i ?_;rw[aB (by omega)];omega)|rfl|exact qz)
   refine sk (rT [0,2,3,4] (s1 (ai (by first|trivial|(show _≤9223372036854775807;(try simp only[aVz,aV3,aV2,aV4,aV7]);omega)) (s1 ?_))))
   first
   |(refine wq (σ':=[tP 0 0,tP 2 2,tP 3 3,tI 4 (n - 1:Nat),oB 0 177 [.d (.sl (aA l)),.d (.i ((q9+1)))],oB 2 28 [.d (.s ([])),.d (.i (0))],oB 3 28 [.d (.s ((fO (bT lg fr x).1.1 (bT lg fr x).1.2).1)),.d (.i ((fO (bT lg fr x).1.1 (bT lg fr x).1.2).2))]]) [] [] (⟨n - 1,by omega,(fO (bT lg fr x).1.1 (bT lg fr x).1.2).1,(fO (bT lg fr x).1.1 (bT lg fr x).1.2).2,q9+1,⟨by omega,Nat.le_trans (tM _ _) (nV hlg),by omega,by omega⟩,rfl⟩) ?_
     repeat' apply ai
     all_goals first|exact qx|(refine congrArg D.i ?_;rw[aB (by omega)];omega)|rfl|exact qz)
   |(refine wq [] [] (⟨n - 1,by omega,(bT lg fr x).1.1,(bT lg fr x).1.2,q9+1,⟨by omega,nV hlg,by omega,by omega⟩,rfl⟩) ?_
     repeat' apply ai
     all_goals first|exact qx|(refine congrArg D.i ?_;rw[aB (by omega)];omega)|rfl|exact qz)
 refine xt (SW.midW (fun s=> ∃(lh:List UInt8) (fg q2:Int),(lh.length≤20000∧q≤q2∧q2≤q+100)∧s=[tP 2 2,tP 3 3,oB 0 177 [.d (.sl (aA l)),.d (.i (q2))],oB 2 28 [.d (.s ([])),.d (.i (0))],oB 3 28 [.d (.s (lh)),.d (.i (fg))]]) ?_ ?_)
 · refine sq (rT [0,2,3,26] (s1 (bH (robj:=[(0,.box 177 [.d (.sl (aA (l))),.d (.i (q))])]) (rl:=[(0,0)]) (bor:=[]) (cN (l) (q) _ (by omega) hl) rfl rfl rfl rfl ⟨bQ rfl rfl rfl rfl (cJ rfl rfl (aS rfl (aC rfl (aC rfl aG)) trivial)),rfl⟩ rfl (.inl rfl) (aH ⟨rfl,trivial⟩) (fun _ hj=>nomatch hj) (bk (sq (rT [0,2,3,26,27] (ai (by first|trivial|(show _≤9223372036854775807;(try simp only[aVz,aV3,aV2,aV4,aV7]);omega)) (s1 (cd rfl (fun c27=> ?_) fun c27=> ?_)))))))))
   · refine rE [2,3] (s3 (cY (robj:=[(0,.box 177 [.d (.sl (aA l)),.d (.i (q+1))])]) (rl:=[(0,0)]) (bor:=[]) (news:=[]) (yd l (q+1) lg (by omega) hl (by omega)) rfl rfl rfl rfl ⟨bQ rfl rfl rfl rfl (cJ rfl rfl (aS rfl (aC rfl (aC rfl aG)) trivial)),rfl⟩ (by rintro _ ⟨y,q4,hy,rfl⟩;exact⟨rfl,.inl rfl,fun j hj=>nomatch hj⟩) (aH ⟨rfl,trivial⟩) (fun j hj=>nomatch hj) ?_))
     rintro _ ⟨y,q4,hy,rfl⟩
     refine s2 ?_
     first
     |(exact wq [] [] (⟨y,fr,q4,⟨by omega,by omega,by omega⟩,rfl⟩) qz)
     |(exact wq [] [] (⟨lh,fr,(q5+1),⟨by omega,by omega,by omega⟩,rfl⟩) qz)
     |(exact wq [] [] (⟨lg,fr,(q+1),⟨by omega,by omega,by omega⟩,rfl⟩) qz)
     |(exact wq [] [] (⟨lg,?fz8,q+1+1+1,⟨by omega,by omega,by omega⟩,rfl⟩) qz)
   refine sq (rT [0,2,3,26,34] (ai (by first|trivial|(show _≤9223372036854775807;(try simp only[aVz,aV3,aV2,aV4,aV7]);omega)) (s1 (cd rfl (fun c34=> ?_) fun c34=> ?_))))
   · have hv:=cF l (p:=q+1+1) (n:=3) (by omega) (by omega)
     refine rD [2,3] (s3 (ai (by first|trivial|(show _≤9223372036854775807;(try simp only[aVz,aV3,aV2,aV4,aV7]);omega)) (s4 (ai (by first|trivial|(show _≤9223372036854775807;(try simp only[aVz,aV3,aV2,aV4,aV7]);omega)) (bH (robj:=[(0,.box 177 [.d (.sl (aA (l))),.d (.i (q+1))])]) (rl:=[(0,0)]) (bor:=[]) (cN (l) (q+1) _ (by omega) hl) rfl rfl rfl rfl ⟨bQ rfl rfl rfl rfl (cJ rfl rfl (aS rfl (aC rfl (aC rfl aG)) trivial)),rfl⟩ rfl (.inl rfl) (aH ⟨rfl,trivial⟩) (fun _ hj=>nomatch hj) (ai (by exact⟨by simp,aV0 rfl⟩) (s1 (bH (robj:=[(0,.box 177 [.d (.sl (aA (l))),.d (.i (q+1+1))])]) (rl:=[(0,0)]) (bor:=[]) (cN (l) (q+1+1) _ (by omega) hl) rfl rfl rfl rfl ⟨bQ rfl rfl rfl rfl (cJ rfl rfl (aS rfl (aC rfl (aC rfl aG)) trivial)),rfl⟩ rfl (.inl rfl) (aH ⟨rfl,trivial⟩) (fun _ hj=>nomatch hj) ?_))))))))
     refine ai ⟨rfl,hv.1,hv.2⟩ (ai (yl (l:=[-1,wrap64 (((lg.length:Nat):Int)+1),bN l (q+1) (wrap64 (((lg.length:Nat):Int)+1))]) (by simp;omega) rfl) (s2 (ai (by kernel_rfl) ?_)))
     first
     |(exact wq [] [] (⟨y,fr,q4,⟨by omega,by omega,by omega⟩,rfl⟩) qz)
     |(exact wq [] [] (⟨lh,fr,(q5+1),⟨by omega,by omega,by omega⟩,rfl⟩) qz)
     |(exact wq [] [] (⟨lg,fr,(q+1),⟨by omega,by omega,by omega⟩,rfl⟩) qz)
     |(exact wq [] [] (⟨lg,?fz9,q+1+1+1,⟨by omega,by omega,by omega⟩,rfl⟩) qz)
   refine sq (rT [0,2,3,52] (ai (by first|trivial|(show _≤9223372036854775807;(try simp only[aVz,aV3,aV2,aV4,aV7]);omega)) (s1 (cd rfl (fun c52=> ?_) fun c52=> ?_))))
   · refine sq (rT [0,2,3,5] (s1 (bk (SW.loopW (n:=41) (fun x s=> ∃(i:Nat) (lh:List UInt8) (q5:Int),x=41 - i∧(i≤40∧lh.length≤2400+70*i∧q+1≤q5∧q5≤q+1+2*i)∧s=[tP 0 0,tP 2 2,tP 3 3,tI 5 (i:Nat),oB 0 177 [.d (.sl (aA l)),.d (.i (q5))],oB 2 28 [.d (.s ([])),.d (.i (0))],oB 3 28 [.d (.s (lh)),.d (.i (fr))]]) ?_ ?_))))
     · refine wq [] [] ⟨0,lg,q+1,rfl,⟨by omega,by omega,by omega,by omega⟩,rfl⟩ ?_
       repeat' apply ai
       all_goals try exact qx
       all_goals try rfl
     rintro n s ⟨i,lh,q5,rfl,⟨hi,hlh,hq5⟩,rfl⟩
     have hp2:=cF l (p:=q5) (n:=3) (by omega) (by omega)
     refine sq (sq (rT [0,2,3,5,58] (s2 (bH (robj:=[(0,.box 177 [.d (.sl (aA (l))),.d (.i (q5))])]) (rl:=[(0,0)]) (bor:=[]) (cN (l) (q5) _ (by omega) hl) rfl rfl rfl rfl ⟨bQ rfl rfl rfl rfl (cJ rfl rfl (aS rfl (aC rfl (aC rfl aG)) trivial)),rfl⟩ rfl (.inl rfl) (aH ⟨rfl,trivial⟩) (fun _ hj=>nomatch hj) (ai (by first|trivial|(show _≤9223372036854775807;(try simp only[aVz,aV3,aV2,aV4,aV7]);omega)) (ai (by first|trivial|(show _≤9223372036854775807;(try simp only[aVz,aV3,aV2,aV4,aV7]);omega)) (cd rfl (fun c58=> ?_) fun c58=> ?_)))))))
     · have hi3:i<40:=by have h9:=of_decide_eq_true c58;rw[aB (by omega)] at h9;omega
       refine sk (sq (bk (SW.regDE dA mo [0,2,3,5] 5 (fun _=>none) rfl rfl (by kernel_rfl) ?_)))
       refine s3 (bH (robj:=[(0,.box 177 [.d (.sl (aA (l))),.d (.i (q5+1))])]) (rl:=[(0,0)]) (bor:=[]) (cN (l) (q5+1) _ (by omega) hl) rfl rfl rfl rfl ⟨bQ rfl rfl rfl rfl (cJ rfl rfl (aS rfl (aC rfl (aC rfl aG)) trivial)),rfl⟩ rfl (.inl rfl) (aH ⟨rfl,trivial⟩) (fun _ hj=>nomatch hj) (ai (by first|trivial|(show _≤9223372036854775807;(try simp only[aVz,aV3,aV2,aV4,aV7]);omega)) ?_))
       have hp3:=cF l (p:=q5+1) (n:=3) (by omega) (by omega)
       refine dl (robj:=[]) (rl:=[]) (bor:=[]) (news:=[]) (oV [102] (wrap64 (58+bN l (q5+1) 3)) rfl (by rw[aB (by omega)];omega)) rfl rfl rfl rfl ⟨cJ rfl rfl (cJ rfl rfl trivial),rfl⟩ (by rintro _ ⟨x1,hx1,rfl⟩;exact⟨rfl,.inl rfl,fun j hj=>nomatch hj⟩) (fun p hp=>nomatch hp) (fun j hj=>nomatch hj) ⟨_,[],by simp,rfl⟩ ?_
       rintro _ ⟨x1,hx1,rfl⟩
       rw[aB (n:=58+bN l (q5+1) 3) (by omega)] at hx1
       have hst:=sP (rec:=x1) (by omega)
       refine xp (oU x1 (by omega)) (ai rfl ?_)
       refine s1 (ai (by first|trivial|(show _≤9223372036854775807;(try simp only[aVz,aV3,aV2,aV4,aV7]);omega)) (s5 (ai (by kernel_rfl) (rT [0,2,3,5] (s1 (ai (by first|trivial|(show _≤9223372036854775807;(try simp only[aVz,aV3,aV2,aV4,aV7]);omega)) (s1 (wq [] [] ⟨41 - (i+1),by omega,i+1,lh++kC x1,q5+1+1,rfl,⟨by omega,by rw[aVz];omega,by omega,by omega⟩,rfl⟩ ?_))))))))
       repeat' apply ai
       all_goals try exact qx
       all_goals try rfl
       all_goals exact congrArg D.i (aB (by omega))
     refine xt ?_
     first
     |(exact wq [] [] (⟨y,fr,q4,⟨by omega,by omega,by omega⟩,rfl⟩) qz)
     |(exact wq [] [] (⟨lh,fr,(q5+1),⟨by omega,by omega,by omega⟩,rfl⟩) qz)
     |(exact wq [] [] (⟨lg,fr,(q+1),⟨by omega,by omega,by omega⟩,rfl⟩) qz)
     |(exact wq [] [] (⟨lg,?fz10,q+1+1+1,⟨by omega,by omega,by omega⟩,rfl⟩) qz)
   refine sk ?_
   first
   |(exact wq [] [] (⟨y,fr,q4,⟨by omega,by omega,by omega⟩,rfl⟩) qz)
   |(exact wq [] [] (⟨lh,fr,(q5+1),⟨by omega,by omega,by omega⟩,rfl⟩) qz)
   |(exact wq [] [] (⟨lg,fr,(q+1),⟨by omega,by omega,by omega⟩,rfl⟩) qz)
   |(exact wq [] [] (⟨lg,?fz11,q+1+1+1,⟨by omega,by omega,by omega⟩,rfl⟩) qz)
 rintro s ⟨lh,fg,q2,hq2,rfl⟩
 exact sq (rT [2] (s2 (rt (cW [tV 0 (.e (.agg [.d (.s lh),.d (.i fg)])),oB 0 177 [.d (.sl (aA l)),.d (.i (q2))]] ⟨lh,fg,q2,⟨by omega,by omega,by omega⟩,rfl⟩ (rq [] [] rfl qz)))))
end Go.Proofs.YtmabaopgkimfmaaGreatDoor
namespace Go.Ab
open Int renaming toNat_natCast→aVy,tmod→aWe
open List renaming length_append→aVz,length_nil→aV2,length_cons→aV3,length_take→aV4,getD_eq_getElem?_getD→aV6,length_drop→aV7,getElem?_eq_getElem→aV8,getElem?_eq_some_iff→aV9,range→aWb,mem_map→aWc,take_length→aWd,all_eq_true→aWf,mem_singleton→aWg
open Nat renaming le_of_ble_eq_true→aV0,zero_le→aV5,le_refl→aWa,add_mul→aWh
open Bool renaming and_eq_true→aV1
open Go Go.RowKit
theorem aQr {P:Program} {T:gO} (hT:dM P T) {o:Oper} {σ:St} {t:TypeId} {len:Nat} {parts:Array (Nat×Operand)} {d oo n:Nat} {e:TypeId} {es:Nat} {rows:List (List D)} {R:List (dG×Option K)} {p:Prop} {k:List (dG×Option K)→List (dG×K)→Prop}
 (ho:o.op= .buildSlice t len parts) (ha:vW T σ t len parts.toList o.dst=some (p,R,[(.o oo,.row e es rows),(.t d,.v (.e (.c (.own oo n))))])) (hp:p) (hn:rows.length=n)
 (h:k R [(.o oo,.dead),(.t d,.v (Dv (.sl rows)))]): ∃R W,vT P o R W∧bV R σ∧k R W:=by
 obtain⟨h1,h2⟩:=aa hT ho p R _ ha hp
 refine⟨R,_,?_,h2,h⟩
 intro cx σ' ι S a w hr hw hb next Q hn2
 refine h1 cx σ' ι S a w hr hw hb next Q (fun ι' S' a' w' hw'=> ?_)
 have hf:=hw'.freeze (s:=d) (o:=oo) (n:=n) (e:=e) (es:=es) (rows:=rows) (by simp[hZ,lA]) (by simp[hZ,lA]) hn
 refine hn2 _ _ a' w' (hf.congr fun l=> ?_)
 simp only[hZ,lA]
 by_cases q1:dG.t d=l
 · simp[q1]
 · by_cases q2:dG.o oo=l
   · simp[q1,q2]
   · simp[q1,q2]
end Go.Ab
namespace Go.Proofs.YtmabaopgkimfmaaGreatDoor
open Int renaming toNat_natCast→aVy,tmod→aWe
open List renaming length_append→aVz,length_nil→aV2,length_cons→aV3,length_take→aV4,getD_eq_getElem?_getD→aV6,length_drop→aV7,getElem?_eq_getElem→aV8,getElem?_eq_some_iff→aV9,range→aWb,mem_map→aWc,take_length→aWd,all_eq_true→aWf,mem_singleton→aWg
open Nat renaming le_of_ble_eq_true→aV0,zero_le→aV5,le_refl→aWa,add_mul→aWh
open Bool renaming and_eq_true→aV1
open Go Go.Ab Go.RowKit
set_option linter.unusedVariables false
set_option linter.unusedSimpArgs false
set_option maxRecDepth 9000
theorem pc (l:List UInt8) (p:Int) (hp:0≤p∧p≤600000) (hl:l.length≤2000):xd 105 1 [tP 0 801,oB 801 177 [.d (.sl (aA l)),.d (.i (p))]] (fun s=> ∃(W2:eX) (k1:aJ) (q3:Int),(W2.ok∧KQ k1∧p≤q3∧q3≤p+18000)∧s=[tV 0 (.tup [.agg [.d (.i (W2.tm)),.own 802 4,.own 803 3,ps 804 4 (W2.a),ps 805 5 (W2.b),ps 806 5 (W2.c)],.agg [.d (.i (k1).id),.d (.b (k1).up),.d (.s (k1).log),.d (.i (k1).forced),.d (.sl (bC (k1).halves))]]),oB 801 177 [.d (.sl (aA l)),.d (.i (q3))],oR 802 31 5 (aF W2.ks),oR 803 4 1 (aL W2.ls),(.o 804,aI 260 4 eY),(.o 805,aI 52 5 cO),(.o 806,aI 52 5 cO)]):=by
 refine yf Tryz.func105 rfl (sq (rT [0,2,3] (s2 (sq (rE [0,2,3,4] (s1 (cY (robj:=[(801,.box 177 [.d (.sl (aA l)),.d (.i (p))])]) (rl:=[]) (bor:=[]) (news:=[800,802,803,804,805,806,807]) (aN9 l (p) 12 (by omega) hl (by omega)) rfl rfl rfl rfl ⟨bQ rfl rfl rfl rfl (cJ rfl rfl (aS rfl (aC rfl (aC rfl aG)) trivial)),rfl⟩ (by rintro _ ⟨W,q1,hw,rfl⟩;exact⟨rfl,.inl rfl,fun j hj=>hj⟩) (aH ⟨rfl,trivial⟩) (fun j hj=>by simp at hj;rcases hj with rfl|rfl|rfl|rfl|rfl|rfl|rfl<;>rfl) ?_)))))))
 rintro _ ⟨W,q1,hw,rfl⟩
 refine s1 (SW.midW (fun s=> ∃(W2:eX) (q2:Int),(W2.ok∧q1≤q2∧q2≤q1+200)∧s=[tP 0 801,tP 2 2,tP 3 3,tP 4 800,oB 800 147 [.pt 801 0,.d (.i (W2.tm)),.own 802 4,.own 803 3,ps 804 4 (W2.a),ps 805 5 (W2.b),ps 806 5 (W2.c),ps 807 10 (W2.d)],oB 801 177 [.d (.sl (aA l)),.d (.i (q2))],oR 802 31 5 (aF W2.ks),oR 803 4 1 (aL W2.ls),(.o 804,aI 260 4 eY),(.o 805,aI 52 5 cO),(.o 806,aI 52 5 cO),(.o 807,aI 204 10 iX),oB 2 123 [.d (.i 0),.nil,.nil,.nil,.nil,.nil],oB 3 31 [.d (.i 0),.d (.b false),.d (.s []),.d (.i 0),.nil]]) ?_ ?_)
 · refine sq (rT [0,2,3,4,11] (s1 (bH (robj:=[(801,.box 177 [.d (.sl (aA (l))),.d (.i (q1))])]) (rl:=[(0,801)]) (bor:=[]) (cN (l) (q1) _ (by omega) hl) rfl rfl rfl rfl ⟨bQ rfl rfl rfl rfl (cJ rfl rfl (aS rfl (aC rfl (aC rfl aG)) trivial)),rfl⟩ rfl (.inl rfl) (aH ⟨rfl,trivial⟩) (fun _ hj=>nomatch hj) (ai (by first|trivial|(show _≤9223372036854775807;(try simp only[aVz,aV3,aV2,aV4,aV7]);omega)) (cd rfl (fun c11=> ?_) fun c11=> ?_)))))
   · refine rE [0,2,3,4] (s1 (cY (robj:=[(800,.box 147 [.pt 801 0,.d (.i (W.tm)),.own 802 4,.own 803 3,ps 804 4 (W.a),ps 805 5 (W.b),ps 806 5 (W.c),ps 807 10 (W.d)]),(801,.box 177 [.d (.sl (aA l)),.d (.i (q1+1))]),(802,.row 31 5 (aF W.ks)),(803,.row 4 1 (aL W.ls)),(804,aI 260 4 eY),(805,aI 52 5 cO),(806,aI 52 5 cO),(807,aI 204 10 iX)]) (rl:=[]) (bor:=[]) (news:=[]) (me l (q1+1) W 7 0 (by omega) hl hw.1.ok (by have:=hw.1.few;have h0:eT.d=0:=rfl;omega) (by omega)) rfl rfl rfl rfl ⟨bQ rfl rfl rfl rfl (cJ rfl rfl (cJ rfl rfl (aS rfl (dD rfl rfl rfl (aC rfl (bJ rfl rfl rfl (bJ rfl rfl rfl (bF rfl rfl rfl (bF rfl rfl rfl (bF rfl rfl rfl (bF rfl rfl rfl aG)))))))) (aS rfl (aC rfl (aC rfl aG)) (bR rfl rfl (bR rfl rfl (aV rfl rfl (aV rfl rfl (aV rfl rfl (aV rfl rfl trivial)))))))))),rfl⟩ (by rintro _ ⟨W3,q3,hw3,rfl⟩;exact⟨rfl,.inl rfl,fun j hj=>nomatch hj⟩) (aH ⟨rfl,rfl,rfl,rfl,rfl,rfl,rfl,rfl,trivial⟩) (fun j hj=>nomatch hj) ?_))
     rintro _ ⟨W3,q3,hw3,rfl⟩
     first
     |(exact wq [] [] (⟨W3,q3,⟨hw3.1.ok,by omega,by omega⟩,rfl⟩) qz)
     |(exact wq [] [] (⟨W,q1+1,⟨hw.1.ok,by omega,by omega⟩,rfl⟩) qz)
   refine sk ?_
   first
   |(exact wq [] [] (⟨W3,q3,⟨hw3.1.ok,by omega,by omega⟩,rfl⟩) qz)
   |(exact wq [] [] (⟨W,q1+1,⟨hw.1.ok,by omega,by omega⟩,rfl⟩) qz)
 rintro s ⟨W2,q2,⟨hW,hq2⟩,rfl⟩
 refine sq (rT [0,2,3,5] (s6 (sq ?_)))
 obtain⟨i,hi,hil⟩:=wJ (show 0≤bN l q2 4∧bN l q2 4≤3 by have:=cF l (p:=q2) (n:=4) (by omega) (by omega);omega)
 have hsm:=hW.at hil
 have hs1:=hsm.1
 have hs2:=hsm.2.1
 refine rD [0,2,3,5,6] (s3 (bH (robj:=[(801,.box 177 [.d (.sl (aA (l))),.d (.i (q2))])]) (rl:=[(0,801)]) (bor:=[]) (cN (l) (q2) _ (by omega) hl) rfl rfl rfl rfl ⟨bQ rfl rfl rfl rfl (cJ rfl rfl (aS rfl (aC rfl (aC rfl aG)) trivial)),rfl⟩ rfl (.inl rfl) (aH ⟨rfl,trivial⟩) (fun _ hj=>nomatch hj) (ai (by rw[hi];exact⟨by rw[bE];exact hW.four,by omega,by omega⟩) (ai (by rw[hi,aVy,cD (by rw[hW.four];exact hil)];exact⟨⟨by rw[bE];exact hW.four,hil⟩,aV0 rfl,rfl⟩) (bH (robj:=[]) (rl:=[(0,24)]) (bor:=[]) (ij (W2.ks.getD i .zero) ⟨by have:=hsm.2.1;omega,fun x hx=>by have:=hsm.2.2 x hx;omega⟩) rfl rfl rfl rfl ⟨dB rfl (aC (by rw[hi,aVy,cD (by rw[hW.four];exact hil)];rfl) (aC (by rw[hi,aVy,cD (by rw[hW.four];exact hil)];rfl) (aC (by rw[hi,aVy,cD (by rw[hW.four];exact hil)];rfl) (aC (by rw[hi,aVy,cD (by rw[hW.four];exact hil)];rfl) (aC (by rw[hi,aVy,cD (by rw[hW.four];exact hil)];rfl) aG))))) trivial,rfl⟩ rfl (.inl rfl) (fun p hp=>nomatch hp) (fun j hj=>by(obtain rfl:j=0:=by simpa[kI,cE,iM] using hj);rfl) ?_)))))
 refine s2 (ai (by kernel_rfl) (SW.midW (fun s=> ∃(k1:aJ) (q3:Int),(KQ k1∧q2≤q3∧q3≤q2+1600)∧s=[tP 2 2,tP 3 3,tP 5 5,tP 6 6,oB 801 177 [.d (.sl (aA l)),.d (.i (q3))],oB 2 123 [.d (.i 0),.nil,.nil,.nil,.nil,.nil],oB 3 31 [.d (.i 0),.d (.b false),.d (.s []),.d (.i 0),.nil],oB 5 123 [.d (.i (W2.tm)),.own 802 4,.own 803 3,ps 804 4 (W2.a),ps 805 5 (W2.b),ps 806 5 (W2.c)],oB 6 31 [.d (.i (k1).id),.d (.b (k1).up),.d (.s (k1).log),.d (.i (k1).forced),.d (.sl (bC (k1).halves))],oR 802 31 5 (aF W2.ks),oR 803 4 1 (aL W2.ls),(.o 804,aI 260 4 eY),(.o 805,aI 52 5 cO),(.o 806,aI 52 5 cO)]) ?_ ?_))
 · refine sq (wa [tP 0 801,tP 2 2,tP 3 3,tP 5 5,tP 6 6,oB 801 177 [.d (.sl (aA l)),.d (.i (q2+1))],oB 2 123 [.d (.i 0),.nil,.nil,.nil,.nil,.nil],oB 3 31 [.d (.i 0),.d (.b false),.d (.s []),.d (.i 0),.nil],oB 5 123 [.d (.i (W2.tm)),.own 802 4,.own 803 3,ps 804 4 (W2.a),ps 805 5 (W2.b),ps 806 5 (W2.c)],oB 6 31 [.d (.i ((W2.ks.getD i .zero)).id),.d (.b ((W2.ks.getD i .zero)).up),.d (.s ((W2.ks.getD i .zero)).log),.d (.i ((W2.ks.getD i .zero)).forced),.own 24 (W2.ks.getD i .zero).halves.length],oR 24 138 6 (bC (W2.ks.getD i .zero).halves),oR 802 31 5 (aF W2.ks),oR 803 4 1 (aL W2.ls),(.o 804,aI 260 4 eY),(.o 805,aI 52 5 cO),(.o 806,aI 52 5 cO)] [] [] qz (rT [0,2,3,5,6,26] (s1 (bH (robj:=[(801,.box 177 [.d (.sl (aA (l))),.d (.i (q2+1))])]) (rl:=[(0,801)]) (bor:=[]) (cN (l) (q2+1) _ (by omega) hl) rfl rfl rfl rfl ⟨bQ rfl rfl rfl rfl (cJ rfl rfl (aS rfl (aC rfl (aC rfl aG)) trivial)),rfl⟩ rfl (.inl rfl) (aH ⟨rfl,trivial⟩) (fun _ hj=>nomatch hj) ?_))))
   refine bk (sq (rT [0,2,3,5,6,26,27] (ai (by first|trivial|(show _≤9223372036854775807;(try simp only[aVz,aV3,aV2,aV4,aV7]);omega)) (s1 (cd rfl (fun c27=> ?_) fun c27=> ?_)))))
   · have hv:=cF l (p:=q2+1+1) (n:=3) (by omega) (by omega)
     refine rD [2,3,5,6] (s2 (ai (by first|trivial|(show _≤9223372036854775807;(try simp only[aVz,aV3,aV2,aV4,aV7]);omega)) (ai (by decide) (ai (by exact⟨by simp,aV0 rfl⟩) (s1 (bH (robj:=[(801,.box 177 [.d (.sl (aA (l))),.d (.i (q2+1+1))])]) (rl:=[(0,801)]) (bor:=[]) (cN (l) (q2+1+1) _ (by omega) hl) rfl rfl rfl rfl ⟨bQ rfl rfl rfl rfl (cJ rfl rfl (aS rfl (aC rfl (aC rfl aG)) trivial)),rfl⟩ rfl (.inl rfl) (aH ⟨rfl,trivial⟩) (fun _ hj=>nomatch hj) (ai ⟨rfl,hv.1,hv.2⟩ (ai (yl (l:=[-1,4,aWe (wrap64 ((W2.ks.getD i .zero).id+1)) 4]) (by simp;omega) rfl) (s2 (ai (by kernel_rfl) (wq (σ':=[tP 2 2,tP 3 3,tP 5 5,tP 6 6,oB 801 177 [.d (.sl (aA l)),.d (.i ((q2+1+1+1)))],oB 2 123 [.d (.i 0),.nil,.nil,.nil,.nil,.nil],oB 3 31 [.d (.i 0),.d (.b false),.d (.s []),.d (.i 0),.nil],oB 5 123 [.d (.i (W2.tm)),.own 802 4,.own 803 3,ps 804 4 (W2.a),ps 805 5 (W2.b),ps 806 5 (W2.c)],oB 6 31 [.d (.i (({(W2.ks.getD i .zero) with id:=([-1,4,aWe (wrap64 ((W2.ks.getD i .zero).id+1)) 4]:List Int).getD (bN l (q2+1+1) 3).toNat 0}:aJ)).id),.d (.b (({(W2.ks.getD i .zero) with id:=([-1,4,aWe (wrap64 ((W2.ks.getD i .zero).id+1)) 4]:List Int).getD (bN l (q2+1+1) 3).toNat 0}:aJ)).up),.d (.s (({(W2.ks.getD i .zero) with id:=([-1,4,aWe (wrap64 ((W2.ks.getD i .zero).id+1)) 4]:List Int).getD (bN l (q2+1+1) 3).toNat 0}:aJ)).log),.d (.i (({(W2.ks.getD i .zero) with id:=([-1,4,aWe (wrap64 ((W2.ks.getD i .zero).id+1)) 4]:List Int).getD (bN l (q2+1+1) 3).toNat 0}:aJ)).forced),.d (.sl (bC (({(W2.ks.getD i .zero) with id:=([-1,4,aWe (wrap64 ((W2.ks.getD i .zero).id+1)) 4]:List Int).getD (bN l (q2+1+1) 3).toNat 0}:aJ)).halves))],oR 802 31 5 (aF W2.ks),oR 803 4 1 (aL W2.ls),(.o 804,aI 260 4 eY),(.o 805,aI 52 5 cO),(.o 806,aI 52 5 cO)]) [] [24] (⟨({(W2.ks.getD i .zero) with id:=([-1,4,aWe (wrap64 ((W2.ks.getD i .zero).id+1)) 4]:List Int).getD (bN l (q2+1+1) 3).toNat 0}:aJ),(q2+1+1+1),⟨KQ.idd hsm.kq _,by omega,by omega⟩,rfl⟩) ?_)))))))))))
     repeat' apply ai
     all_goals first|exact qx|exact aK _|exact congrArg (fun r:List D=>D.i (sd (r.getD 0 (.i 0)))) (eW (l:=[-1,4,aWe (wrap64 ((W2.ks.getD i .zero).id+1)) 4]) (by simp;omega))|exact qz
   refine sq (rT [0,2,3,5,6,26,39] (ai (by first|trivial|(show _≤9223372036854775807;(try simp only[aVz,aV3,aV2,aV4,aV7]);omega)) (s1 (cd rfl (fun c39=> ?_) fun c39=> ?_))))
   · refine rE [2,3,5,6] (s1 (cY (robj:=[(801,.box 177 [.d (.sl (aA l)),.d (.i (q2+1+1))])]) (rl:=[(0,801)]) (bor:=[]) (news:=[]) (rz l (q2+1+1) (by omega) hl) rfl rfl rfl rfl ⟨bQ rfl rfl rfl rfl (aS rfl (aC rfl (aC rfl aG)) trivial),rfl⟩ (by rintro _ ⟨lg,fr,q4,hs4,rfl⟩;exact⟨rfl,.inl rfl,fun j hj=>nomatch hj⟩) (aH ⟨rfl,trivial⟩) (fun j hj=>nomatch hj) ?_))
     rintro _ ⟨lg,fr,q4,hs4,rfl⟩
     refine s2 (wq (σ':=[tP 2 2,tP 3 3,tP 5 5,tP 6 6,oB 801 177 [.d (.sl (aA l)),.d (.i (q4))],oB 2 123 [.d (.i 0),.nil,.nil,.nil,.nil,.nil],oB 3 31 [.d (.i 0),.d (.b false),.d (.s []),.d (.i 0),.nil],oB 5 123 [.d (.i (W2.tm)),.own 802 4,.own 803 3,ps 804 4 (W2.a),ps 805 5 (W2.b),ps 806 5 (W2.c)],oB 6 31 [.d (.i (({(W2.ks.getD i .zero) with log:=lg,forced:=fr}:aJ)).id),.d (.b (({(W2.ks.getD i .zero) with log:=lg,forced:=fr}:aJ)).up),.d (.s (({(W2.ks.getD i .zero) with log:=lg,forced:=fr}:aJ)).log),.d (.i (({(W2.ks.getD i .zero) with log:=lg,forced:=fr}:aJ)).forced),.d (.sl (bC (({(W2.ks.getD i .zero) with log:=lg,forced:=fr}:aJ)).halves))],oR 802 31 5 (aF W2.ks),oR 803 4 1 (aL W2.ls),(.o 804,aI 260 4 eY),(.o 805,aI 52 5 cO),(.o 806,aI 52 5 cO)]) [] [24] (⟨({(W2.ks.getD i .zero) with log:=lg,forced:=fr}:aJ),q4,⟨KQ.shelf hsm.kq (by omega) _,by omega,by omega⟩,rfl⟩) ?_)
     repeat' apply ai
     all_goals first|exact qx|exact aK _|rfl|exact qz
   refine sq (rT [0,2,3,5,6,26,44] (ai (by first|trivial|(show _≤9223372036854775807;(try simp only[aVz,aV3,aV2,aV4,aV7]);omega)) (s1 (cd rfl (fun c44=> ?_) fun c44=> ?_))))
   · have hv:=cF l (p:=q2+1+1) (n:=4) (by omega) (by omega)
     refine rD [2,3,5,6] (s8 (ai (by first|trivial|(show _≤9223372036854775807;(try simp only[aVz,aV3,aV2,aV4,aV7]);omega)) (ai (by exact⟨by simp,aV0 rfl⟩) (s1 (bH (robj:=[(801,.box 177 [.d (.sl (aA (l))),.d (.i (q2+1+1))])]) (rl:=[(0,801)]) (bor:=[]) (cN (l) (q2+1+1) _ (by omega) hl) rfl rfl rfl rfl ⟨bQ rfl rfl rfl rfl (cJ rfl rfl (aS rfl (aC rfl (aC rfl aG)) trivial)),rfl⟩ rfl (.inl rfl) (aH ⟨rfl,trivial⟩) (fun _ hj=>nomatch hj) (ai ⟨rfl,hv.1,hv.2⟩ (ai (yl (l:=[-1,0,(((W2.ks.getD i .zero).log.length:Nat):Int),wrap64 ((((W2.ks.getD i .zero).log.length:Nat):Int)+1)]) (by simp;omega) rfl) (s3 (ai (by kernel_rfl) (wq (σ':=[tP 2 2,tP 3 3,tP 5 5,tP 6 6,oB 801 177 [.d (.sl (aA l)),.d (.i ((q2+1+1+1)))],oB 2 123 [.d (.i 0),.nil,.nil,.nil,.nil,.nil],oB 3 31 [.d (.i 0),.d (.b false),.d (.s []),.d (.i 0),.nil],oB 5 123 [.d (.i (W2.tm)),.own 802 4,.own 803 3,ps 804 4 (W2.a),ps 805 5 (W2.b),ps 806 5 (W2.c)],oB 6 31 [.d (.i (({(W2.ks.getD i .zero) with forced:=([-1,0,(((W2.ks.getD i .zero).log.length:Nat):Int),wrap64 ((((W2.ks.getD i .zero).log.length:Nat):Int)+1)]:List Int).getD (bN l (q2+1+1) 4).toNat 0}:aJ)).id),.d (.b (({(W2.ks.getD i .zero) with forced:=([-1,0,(((W2.ks.getD i .zero).log.length:Nat):Int),wrap64 ((((W2.ks.getD i .zero).log.length:Nat):Int)+1)]:List Int).getD (bN l (q2+1+1) 4).toNat 0}:aJ)).up),.d (.s (({(W2.ks.getD i .zero) with forced:=([-1,0,(((W2.ks.getD i .zero).log.length:Nat):Int),wrap64 ((((W2.ks.getD i .zero).log.length:Nat):Int)+1)]:List Int).getD (bN l (q2+1+1) 4).toNat 0}:aJ)).log),.d (.i (({(W2.ks.getD i .zero) with forced:=([-1,0,(((W2.ks.getD i .zero).log.length:Nat):Int),wrap64 ((((W2.ks.getD i .zero).log.length:Nat):Int)+1)]:List Int).getD (bN l (q2+1+1) 4).toNat 0}:aJ)).forced),.d (.sl (bC (({(W2.ks.getD i .zero) with forced:=([-1,0,(((W2.ks.getD i .zero).log.length:Nat):Int),wrap64 ((((W2.ks.getD i .zero).log.length:Nat):Int)+1)]:List Int).getD (bN l (q2+1+1) 4).toNat 0}:aJ)).halves))],oR 802 31 5 (aF W2.ks),oR 803 4 1 (aL W2.ls),(.o 804,aI 260 4 eY),(.o 805,aI 52 5 cO),(.o 806,aI 52 5 cO)]) [] [24] (⟨({(W2.ks.getD i .zero) with forced:=([-1,0,(((W2.ks.getD i .zero).log.length:Nat):Int),wrap64 ((((W2.ks.getD i .zero).log.length:Nat):Int)+1)]:List Int).getD (bN l (q2+1+1) 4).toNat 0}:aJ),(q2+1+1+1),⟨KQ.frc hsm.kq _,by omega,by omega⟩,rfl⟩) ?_))))))))))
     repeat' apply ai
     all_goals first|exact qx|exact aK _|exact congrArg (fun r:List D=>D.i (sd (r.getD 0 (.i 0)))) (eW (l:=[-1,0,(((W2.ks.getD i .zero).log.length:Nat):Int),wrap64 ((((W2.ks.getD i .zero).log.length:Nat):Int)+1)]) (by simp;omega))|exact qz
   refine sq (rT [0,2,3,5,6,26,62] (ai (by first|trivial|(show _≤9223372036854775807;(try simp only[aVz,aV3,aV2,aV4,aV7]);omega)) (s1 (cd rfl (fun c62=> ?_) fun c62=> ?_))))
   · refine rX [2,3,5,6] (sx dA rfl (by first|trivial|rfl) (sx dA rfl vc (sx dA rfl vc (bH (robj:=[(801,.box 177 [.d (.sl (aA (l))),.d (.i (q2+1+1))])]) (rl:=[(0,801)]) (bor:=[]) (cN (l) (q2+1+1) _ (by omega) hl) rfl rfl rfl rfl ⟨bQ rfl rfl rfl rfl (cJ rfl rfl (aS rfl (aC rfl (aC rfl aG)) trivial)),rfl⟩ rfl (.inl rfl) (aH ⟨rfl,trivial⟩) (fun _ hj=>nomatch hj) (sx dA rfl vc (bH (robj:=[(801,.box 177 [.d (.sl (aA (l))),.d (.i (q2+1+1+1))])]) (rl:=[(0,801)]) (bor:=[]) (cN (l) (q2+1+1+1) _ (by omega) hl) rfl rfl rfl rfl ⟨bQ rfl rfl rfl rfl (cJ rfl rfl (aS rfl (aC rfl (aC rfl aG)) trivial)),rfl⟩ rfl (.inl rfl) (aH ⟨rfl,trivial⟩) (fun _ hj=>nomatch hj) (sx dA rfl vc (sx dA rfl vc (bH (robj:=[(801,.box 177 [.d (.sl (aA (l))),.d (.i (q2+1+1+1+1))])]) (rl:=[(0,801)]) (bor:=[]) (cN (l) (q2+1+1+1+1) _ (by omega) hl) rfl rfl rfl rfl ⟨bQ rfl rfl rfl rfl (cJ rfl rfl (aS rfl (aC rfl (aC rfl aG)) trivial)),rfl⟩ rfl (.inl rfl) (aH ⟨rfl,trivial⟩) (fun _ hj=>nomatch hj) ?_)))))))))
     refine sx dA rfl vc (bH (robj:=[(801,.box 177 [.d (.sl (aA (l))),.d (.i (q2+1+1+1+1+1))])]) (rl:=[(0,801)]) (bor:=[]) (cN (l) (q2+1+1+1+1+1) _ (by omega) hl) rfl rfl rfl rfl ⟨bQ rfl rfl rfl rfl (cJ rfl rfl (aS rfl (aC rfl (aC rfl aG)) trivial)),rfl⟩ rfl (.inl rfl) (aH ⟨rfl,trivial⟩) (fun _ hj=>nomatch hj) (sx dA rfl vc (bH (robj:=[(801,.box 177 [.d (.sl (aA (l))),.d (.i (q2+1+1+1+1+1+1))])]) (rl:=[(0,801)]) (bor:=[]) (cN (l) (q2+1+1+1+1+1+1) _ (by omega) hl) rfl rfl rfl rfl ⟨bQ rfl rfl rfl rfl (cJ rfl rfl (aS rfl (aC rfl (aC rfl aG)) trivial)),rfl⟩ rfl (.inl rfl) (aH ⟨rfl,trivial⟩) (fun _ hj=>nomatch hj) (sx dA rfl vc (aQr dA rfl rfl ⟨by simp,aV0 rfl⟩ rfl (sx dA rfl vc (sx dA rfl (by exact⟨by simp,aV0 rfl⟩) ?_)))))))
     refine sx dA rfl (by exact⟨rfl,aK _,by intro r hr;rw[aWg.1 hr];rfl,by show(_+1)*64≤_;omega⟩) (sx dA rfl (by first|trivial|rfl) (sx dA rfl ⟨by kernel_rfl,aV0 (by kernel_rfl)⟩ (⟨by kernel_rfl,?_⟩)))
     refine wq [] [24] (⟨({(W2.ks.getD i .zero) with halves:=(W2.ks.getD i .zero).halves++[(⟨bN l (q2+1+1) 5,wrap64 (1+bN l (q2+1+1+1) 3),bN l (q2+1+1+1+1) 4,9,bN l (q2+1+1+1+1+1) 26,[⟨bN l (q2+1+1+1+1+1+1) 9,[97,98,99,100]⟩]⟩:dT)]}:aJ),(q2+1+1+1+1+1+1+1),⟨KQ.half hsm (by show(1:Nat)≤100;omega),by omega,by omega⟩,rfl⟩) ?_
     repeat' apply ai
     all_goals first|exact qx|exact congrArg D.sl (oS _ _).symm|(simp[aK];done)|rfl|exact qz
   refine sq (rT [0,2,3,5,6,26,83] (ai (by first|trivial|(show _≤9223372036854775807;(try simp only[aVz,aV3,aV2,aV4,aV7]);omega)) (s1 (cd rfl (fun c83=> ?_) fun c83=> ?_))))
   · refine rT [2,3,5,6] (s5 (wq (σ':=[tP 2 2,tP 3 3,tP 5 5,tP 6 6,oB 801 177 [.d (.sl (aA l)),.d (.i ((q2+1+1)))],oB 2 123 [.d (.i 0),.nil,.nil,.nil,.nil,.nil],oB 3 31 [.d (.i 0),.d (.b false),.d (.s []),.d (.i 0),.nil],oB 5 123 [.d (.i (W2.tm)),.own 802 4,.own 803 3,ps 804 4 (W2.a),ps 805 5 (W2.b),ps 806 5 (W2.c)],oB 6 31 [.d (.i (({(W2.ks.getD i .zero) with up:= !(W2.ks.getD i .zero).up}:aJ)).id),.d (.b (({(W2.ks.getD i .zero) with up:= !(W2.ks.getD i .zero).up}:aJ)).up),.d (.s (({(W2.ks.getD i .zero) with up:= !(W2.ks.getD i .zero).up}:aJ)).log),.d (.i (({(W2.ks.getD i .zero) with up:= !(W2.ks.getD i .zero).up}:aJ)).forced),.d (.sl (bC (({(W2.ks.getD i .zero) with up:= !(W2.ks.getD i .zero).up}:aJ)).halves))],oR 802 31 5 (aF W2.ks),oR 803 4 1 (aL W2.ls),(.o 804,aI 260 4 eY),(.o 805,aI 52 5 cO),(.o 806,aI 52 5 cO)]) [] [24] (⟨({(W2.ks.getD i .zero) with up:= !(W2.ks.getD i .zero).up}:aJ),(q2+1+1),⟨KQ.upp hsm.kq _,by omega,by omega⟩,rfl⟩) ?_))
     repeat' apply ai
     all_goals first|exact qx|exact aK _|rfl|exact qz
   refine sq (rT [0,2,3,5,6,89] (ai (by first|trivial|(show _≤9223372036854775807;(try simp only[aVz,aV3,aV2,aV4,aV7]);omega)) (s1 (cd rfl (fun c89=> ?_) fun c89=> ?_))))
   · refine SW.regDE dA mo [2,3,5,6] 4 (fun _=>none) rfl rfl (by kernel_rfl) ?_
     refine s4 (dl (robj:=[(801,.box 177 [.d (.sl (aA l)),.d (.i (q2+1+1))])]) (rl:=[(0,801)]) (bor:=[]) (news:=[]) (fv l (q2+1+1) (by omega) hl) rfl rfl rfl rfl ⟨bQ rfl rfl rfl rfl (aS rfl (aC rfl (aC rfl aG)) trivial),rfl⟩ (by rintro _ ⟨x,q4,hx,rfl⟩;exact⟨rfl,.inl rfl,fun j hj=>nomatch hj⟩) (aH ⟨rfl,trivial⟩) (fun j hj=>nomatch hj) ⟨_,[],q2+1+1,⟨by omega,by omega,by simp⟩,rfl⟩ ?_)
     rintro _ ⟨x,q4,hx,rfl⟩
     have hst:=sP (rec:=x) (by omega)
     refine xp (oU x (by omega)) (ai rfl ?_)
     refine s1 (ai (by first|trivial|(show _≤9223372036854775807;(try simp only[aVz,aV3,aV2,aV4,aV7]);omega)) (s7 (ai (by kernel_rfl) (wq [] [24] (⟨({(W2.ks.getD i .zero) with log:=(W2.ks.getD i .zero).log++kC x}:aJ),q4,⟨KQ.lgg hsm.kq (by have:=hsm.1;rw[aVz];omega),by omega,by omega⟩,rfl⟩) ?_))))
     repeat' apply ai
     all_goals first|exact qx|exact aK _|rfl|exact qz
   refine sk (wq [] [24] (⟨(W2.ks.getD i .zero),(q2+1+1),⟨hsm.kq,by omega,by omega⟩,rfl⟩) ?_)
   repeat' apply ai
   all_goals first|exact qx|exact aK _|rfl|exact qz
 rintro s ⟨k1,q3,⟨hk1,hq3⟩,rfl⟩
 exact sq (rD [2,3] (s4 (ai (by kernel_rfl) (rt (cW [tV 0 (.tup [.agg [.d (.i (W2.tm)),.own 802 4,.own 803 3,ps 804 4 (W2.a),ps 805 5 (W2.b),ps 806 5 (W2.c)],.agg [.d (.i (k1).id),.d (.b (k1).up),.d (.s (k1).log),.d (.i (k1).forced),.d (.sl (bC (k1).halves))]]),oB 801 177 [.d (.sl (aA l)),.d (.i (q3))],oR 802 31 5 (aF W2.ks),oR 803 4 1 (aL W2.ls),(.o 804,aI 260 4 eY),(.o 805,aI 52 5 cO),(.o 806,aI 52 5 cO)] ⟨W2,k1,q3,⟨hW,hk1,by omega,by omega⟩,rfl⟩ (rq [] [] rfl qz))))))
end Go.Proofs.YtmabaopgkimfmaaGreatDoor
namespace Go.Ab
open Int renaming toNat_natCast→aVy,tmod→aWe
open List renaming length_append→aVz,length_nil→aV2,length_cons→aV3,length_take→aV4,getD_eq_getElem?_getD→aV6,length_drop→aV7,getElem?_eq_getElem→aV8,getElem?_eq_some_iff→aV9,range→aWb,mem_map→aWc,take_length→aWd,all_eq_true→aWf,mem_singleton→aWg
open Nat renaming le_of_ble_eq_true→aV0,zero_le→aV5,le_refl→aWa,add_mul→aWh
open Bool renaming and_eq_true→aV1
structure KG (k:aJ):Prop where
 log:k.log.length≤140737488355328
 hal:k.halves.length≤100000∧ ∀x∈k.halves,x.got.length≤100000
theorem KG.of {k x:aJ} (h:KG k) (hl:x.log.length≤140737488355328) (hh:x.halves=k.halves∨x.halves=[]):KG x:=by
 refine⟨hl,?_⟩
 rcases hh with e|e
 · rw[e];exact h.hal
 · rw[e];exact⟨aV5 _,fun _ hx=>nomatch hx⟩
theorem KQ.kg {k:aJ} (h:KQ k):KG k:=⟨h.log,by have:=h.2.1;omega,fun x hx=>by have:=h.2.2 x hx;omega⟩
theorem iq.kg {k:aJ} (h:iq k):KG k:=h.kq.kg
theorem KG.start (n:Int):KG (gB n):=(wL n).kg
theorem aIe {k:aJ} (h:k.log.length≤140737488355328): (lF k).log.length≤140737488355328:=Nat.le_trans (tM _ _) h
theorem wN {k:aJ} {rec:List UInt8} (h:k.log.length≤140737488355328): (iR k rec).1.log.length≤140737488355328∧(iR k rec).1.halves=k.halves:=by
 obtain⟨h1,h2⟩:=aFh (rec:=rec) h
 unfold iR
 split
 · exact⟨aIe h1,h2⟩
 · exact⟨h,rfl⟩
theorem KG.time {k:aJ} (h:KG k):KG (dU k).1:=by
 refine h.of ?_ ?_
 · unfold dU
   split
   · split
     · exact(wN h.log).1
     · exact h.log
   · exact aV5 _
 · unfold dU
   split
   · split
     · exact .inl (wN h.log).2
     · exact .inl rfl
   · exact .inr rfl
theorem KG.own {k:aJ} (h:KG k) (tu til:Int) (tx:List UInt8):KG (dR k tu til tx).1:=by
 refine h.of ?_ ?_
 · unfold dR
   split
   · split
     · split
       · exact(wN h.log).1
       · exact h.log
     · exact h.log
   · exact aV5 _
 · unfold dR
   split
   · split
     · split
       · exact .inl (wN h.log).2
       · exact .inl rfl
     · exact .inl rfl
   · exact .inr rfl
theorem aT9 (k:aJ):KB (eE k):=by
 unfold eE
 split
 · rename_i h;exact sT h
 · exact KB.zero
end Go.Ab
namespace Go.Proofs.YtmabaopgkimfmaaGreatDoor
open Int renaming toNat_natCast→aVy,tmod→aWe
open List renaming length_append→aVz,length_nil→aV2,length_cons→aV3,length_take→aV4,getD_eq_getElem?_getD→aV6,length_drop→aV7,getElem?_eq_getElem→aV8,getElem?_eq_some_iff→aV9,range→aWb,mem_map→aWc,take_length→aWd,all_eq_true→aWf,mem_singleton→aWg
open Nat renaming le_of_ble_eq_true→aV0,zero_le→aV5,le_refl→aWa,add_mul→aWh
open Bool renaming and_eq_true→aV1
open Go Go.Ab Go.RowKit
set_option linter.unusedVariables false
set_option linter.unusedSimpArgs false
set_option maxRecDepth 9000
theorem df (l:List UInt8) (hl:l.length≤140737488355328):xd 55 1 [tD 0 (.sl (aA l))] (fun s=> ∃(k:aJ) (a b c:Int),KQ k∧s=[tV 0 (.tup [.agg [.d (.i (k).id),.d (.b (k).up),.d (.s (k).log),.d (.i (k).forced),.d (.sl (bC (k).halves))],.c (.d (.i (a))),.c (.d (.i (b))),.c (.d (.i (c)))])]):=by
 have hl2: (l.take 2000).length≤2000:=by simp;omega
 refine yf Tryz.func55 rfl (sq (rT [0,2] (s4 (sq (rT [2,6] (s1 (ui [(0,801)] (zp l hl) rfl rfl rfl rfl rfl rfl rfl (fun j hj=>by(obtain rfl:j=0:=by simpa[kI,cE,iM] using hj);rfl) (s1 (sq (rE [2,6,7] (s1 (cY (robj:=[(801,.box 177 [.d (.sl (aA (l.take 2000))),.d (.i (0))])]) (rl:=[]) (bor:=[]) (news:=[800,802,803,804,805,806,807]) (aN9 (l.take 2000) (0) 10 (by omega) hl2 (by omega)) rfl rfl rfl rfl ⟨bQ rfl rfl rfl rfl (cJ rfl rfl (aS rfl (aC rfl (aC rfl aG)) trivial)),rfl⟩ (by rintro _ ⟨W,q1,hw,rfl⟩;exact⟨rfl,.inl rfl,fun j hj=>hj⟩) (aH ⟨rfl,trivial⟩) (fun j hj=>by simp at hj;rcases hj with rfl|rfl|rfl|rfl|rfl|rfl|rfl<;>rfl) ?_))))))))))))
 rintro _ ⟨W,q1,hw,rfl⟩
 refine s1 (sq (rE [2,6,7,8,9,10] (s1 (cY (robj:=[(800,.box 147 [.pt 801 0,.d (.i (W.tm)),.own 802 4,.own 803 3,ps 804 4 (W.a),ps 805 5 (W.b),ps 806 5 (W.c),ps 807 10 (W.d)]),(801,.box 177 [.d (.sl (aA (l.take 2000))),.d (.i (q1))]),(802,.row 31 5 (aF W.ks)),(803,.row 4 1 (aL W.ls)),(804,aI 260 4 eY),(805,aI 52 5 cO),(806,aI 52 5 cO),(807,aI 204 10 iX)]) (rl:=[]) (bor:=[]) (news:=[]) (aN8 (l.take 2000) q1 W (by omega) hl2 hw.1.ok (by have:=hw.1.few;have h0:eT.d=0:=rfl;omega)) rfl rfl rfl rfl ⟨bQ rfl rfl rfl rfl (aS rfl (dD rfl rfl rfl (aC rfl (bJ rfl rfl rfl (bJ rfl rfl rfl (bF rfl rfl rfl (bF rfl rfl rfl (bF rfl rfl rfl (bF rfl rfl rfl aG)))))))) (aS rfl (aC rfl (aC rfl aG)) (bR rfl rfl (bR rfl rfl (aV rfl rfl (aV rfl rfl (aV rfl rfl (aV rfl rfl trivial)))))))),rfl⟩ (by rintro _ ⟨i0,n1,ok1,q3,hq3,rfl⟩;exact⟨rfl,.inl rfl,fun j hj=>nomatch hj⟩) (aH ⟨rfl,rfl,rfl,rfl,rfl,rfl,rfl,rfl,trivial⟩) (fun j hj=>nomatch hj) ?_))))
 rintro _ ⟨i0,n1,ok1,q3,hq3,rfl⟩
 refine s8 (sq (SW.midW (fun s=> ∃(cb:Bool) (q4:Int),(q3≤q4∧q4≤q3+1)∧s=[tP 2 2,tP 6 801,tP 7 800,tI 8 i0,tP 9 9,tB 28 cb,oB 800 147 [.pt 801 0,.d (.i (W.tm)),.own 802 4,.own 803 3,ps 804 4 (W.a),ps 805 5 (W.b),ps 806 5 (W.c),ps 807 10 (W.d)],oB 801 177 [.d (.sl (aA (l.take 2000))),.d (.i (q4))],oR 802 31 5 (aF W.ks),oR 803 4 1 (aL W.ls),(.o 804,aI 260 4 eY),(.o 805,aI 52 5 cO),(.o 806,aI 52 5 cO),(.o 807,aI 204 10 iX),oB 2 31 [.d (.i 0),.d (.b false),.d (.s []),.d (.i 0),.nil],oB 9 52 [.d (.i n1.frm),.d (.i n1.num),.d (.i n1.to),.d (.i n1.til),.d (.s n1.text)]]) ?_ ?_))
 · refine rF [2,6,7,8,9,28] (s1 (s1 (ai (fun h1=> ?_) (fun h1=> ?_))))
   · refine s1 (ai (fun _=> ?_) (fun h=>absurd h (by rw[h1];simp)))
     refine gW (bH (robj:=[(801,.box 177 [.d (.sl (aA ((l.take 2000)))),.d (.i (q3))])]) (rl:=[(0,801)]) (bor:=[]) (cN ((l.take 2000)) (q3) _ (by omega) hl2) rfl rfl rfl rfl ⟨bQ rfl rfl rfl rfl (cJ rfl rfl (aS rfl (aC rfl (aC rfl aG)) trivial)),rfl⟩ rfl (.inl rfl) (aH ⟨rfl,trivial⟩) (fun _ hj=>nomatch hj) (ai (fun _=> ?_) (fun h=>absurd h (by rw[h1];simp))))
     exact s1 (ai pk (wq [] [] ⟨?c1,q3+1,⟨by omega,by omega⟩,rfl⟩ qz))
   refine⟨I 0,?_⟩
   refine ai (fun h=>absurd h (by rw[h1];simp)) (fun _=>⟨I 0,?_⟩)
   refine ai (fun h=>absurd h (by rw[h1];simp)) (fun _=>⟨B false,?_⟩)
   exact ai (by constructor<;>intro h<;>first|trivial|exact absurd (h1.symm.trans h:false=true) (by decide)) (wq [] [] ⟨?d1,q3,⟨by omega,by omega⟩,rfl⟩ qz)
 rintro s ⟨cb,q4,hq4,rfl⟩
 refine cd rfl (fun c28=> ?_) fun c28=> ?_
 · refine sq ?_
   obtain⟨i,hi,hil⟩:=wJ (show 0≤i0∧i0≤3 by omega)
   have hW:W.ok:=hw.1.ok
   have hsm:=hW.at hil
   refine rD [2,3,4,5] (s6 (ai (by rw[hi];exact⟨by rw[bE];exact hW.four,by omega,by omega⟩) (ai (by rw[hi,aVy,cD (by rw[hW.four];exact hil)];exact⟨⟨by rw[bE];exact hW.four,hil⟩,aV0 rfl,rfl⟩) (s5 (bH (robj:=[(801,.box 177 [.d (.sl (aA ((l.take 2000)))),.d (.i (q4))])]) (rl:=[(0,801)]) (bor:=[]) (cN ((l.take 2000)) (q4) _ (by omega) hl2) rfl rfl rfl rfl ⟨bQ rfl rfl rfl rfl (cJ rfl rfl (aS rfl (aC rfl (aC rfl aG)) trivial)),rfl⟩ rfl (.inl rfl) (aH ⟨rfl,trivial⟩) (fun _ hj=>nomatch hj) (ai (by decide) (s2 (bH (robj:=[(801,.box 177 [.d (.sl (aA ((l.take 2000)))),.d (.i (q4+1))])]) (rl:=[(0,801)]) (bor:=[]) (cN ((l.take 2000)) (q4+1) _ (by omega) hl2) rfl rfl rfl rfl ⟨bQ rfl rfl rfl rfl (cJ rfl rfl (aS rfl (aC rfl (aC rfl aG)) trivial)),rfl⟩ rfl (.inl rfl) (aH ⟨rfl,trivial⟩) (fun _ hj=>nomatch hj) ?_))))))))
   refine s1 (bH (robj:=[(801,.box 177 [.d (.sl (aA ((l.take 2000)))),.d (.i (q4+1+1))])]) (rl:=[(0,801)]) (bor:=[]) (cN ((l.take 2000)) (q4+1+1) _ (by omega) hl2) rfl rfl rfl rfl ⟨bQ rfl rfl rfl rfl (cJ rfl rfl (aS rfl (aC rfl (aC rfl aG)) trivial)),rfl⟩ rfl (.inl rfl) (aH ⟨rfl,trivial⟩) (fun _ hj=>nomatch hj) (s2 (bH (robj:=[(801,.box 177 [.d (.sl (aA ((l.take 2000)))),.d (.i (q4+1+1+1))])]) (rl:=[(0,801)]) (bor:=[]) (cN ((l.take 2000)) (q4+1+1+1) _ (by omega) hl2) rfl rfl rfl rfl ⟨bQ rfl rfl rfl rfl (cJ rfl rfl (aS rfl (aC rfl (aC rfl aG)) trivial)),rfl⟩ rfl (.inl rfl) (aH ⟨rfl,trivial⟩) (fun _ hj=>nomatch hj) (s6 (ai (by kernel_rfl) (rt (cW [tV 0 (.tup [.agg [.d (.i ((W.ks.getD i .zero)).id),.d (.b ((W.ks.getD i .zero)).up),.d (.s ((W.ks.getD i .zero)).log),.d (.i ((W.ks.getD i .zero)).forced),.d (.sl (bC ((W.ks.getD i .zero)).halves))],.c (.d (.i (n1.frm))),.c (.d (.i (wrap64 (n1.num+wrap64 (Int.tdiv (bN (l.take 2000) q4 8) 7))))),.c (.d (.i (wrap64 (wrap64 (wrap64 (bN (l.take 2000) (q4+1) 2*bN (l.take 2000) (q4+1+1) 1002)+bN (l.take 2000) (q4+1+1+1) 9) - 1))))])] ⟨(W.ks.getD i .zero),n1.frm,wrap64 (n1.num+wrap64 (Int.tdiv (bN (l.take 2000) q4 8) 7)),wrap64 (wrap64 (wrap64 (bN (l.take 2000) (q4+1) 2*bN (l.take 2000) (q4+1+1) 1002)+bN (l.take 2000) (q4+1+1+1) 9) - 1),hsm.kq,rfl⟩ ?_)))))))
   refine rq [] [] rfl ?_
   repeat' apply ai
   all_goals try exact qx
   all_goals first|with_reducible rfl|(rw[hi,aVy,cD (by rw[hW.four];exact hil)];rfl)|rfl
 refine sk (sq (wa [tP 2 2,tP 6 801,oB 801 177 [.d (.sl (aA (l.take 2000))),.d (.i (q4))],oB 2 31 [.d (.i 0),.d (.b false),.d (.s []),.d (.i 0),.nil]] [] [] qz (rE [2,6,12] (s1 (cY (robj:=[(801,.box 177 [.d (.sl (aA (l.take 2000))),.d (.i (q4))])]) (rl:=[]) (bor:=[]) (news:=[802,803,804,805,806]) (pc (l.take 2000) (q4) (by omega) hl2) rfl rfl rfl rfl ⟨bQ rfl rfl rfl rfl (aS rfl (aC rfl (aC rfl aG)) trivial),rfl⟩ (by rintro _ ⟨W2,k,q2,hw2,rfl⟩;exact⟨rfl,.inl rfl,fun j hj=>hj⟩) (aH ⟨rfl,trivial⟩) (fun j hj=>by simp at hj;rcases hj with rfl|rfl|rfl|rfl|rfl<;>rfl) ?_)))))
 rintro _ ⟨W2,k,q2,hw2,rfl⟩
 have hkq:=hw2.2.1
 have hkl:=hkq.1
 refine s7 (sq (rD [2,3,4,5] (s2 (bH (robj:=[(801,.box 177 [.d (.sl (aA ((l.take 2000)))),.d (.i (q2))])]) (rl:=[(0,801)]) (bor:=[]) (cN ((l.take 2000)) (q2) _ (by omega) hl2) rfl rfl rfl rfl ⟨bQ rfl rfl rfl rfl (cJ rfl rfl (aS rfl (aC rfl (aC rfl aG)) trivial)),rfl⟩ rfl (.inl rfl) (aH ⟨rfl,trivial⟩) (fun _ hj=>nomatch hj) (s1 (bH (robj:=[(801,.box 177 [.d (.sl (aA ((l.take 2000)))),.d (.i (q2+1))])]) (rl:=[(0,801)]) (bor:=[]) (cN ((l.take 2000)) (q2+1) _ (by omega) hl2) rfl rfl rfl rfl ⟨bQ rfl rfl rfl rfl (cJ rfl rfl (aS rfl (aC rfl (aC rfl aG)) trivial)),rfl⟩ rfl (.inl rfl) (aH ⟨rfl,trivial⟩) (fun _ hj=>nomatch hj) (s2 (bH (robj:=[(801,.box 177 [.d (.sl (aA ((l.take 2000)))),.d (.i (q2+1+1))])]) (rl:=[(0,801)]) (bor:=[]) (cN ((l.take 2000)) (q2+1+1) _ (by omega) hl2) rfl rfl rfl rfl ⟨bQ rfl rfl rfl rfl (cJ rfl rfl (aS rfl (aC rfl (aC rfl aG)) trivial)),rfl⟩ rfl (.inl rfl) (aH ⟨rfl,trivial⟩) (fun _ hj=>nomatch hj) ?_))))))))
 exact s4 (ai (by kernel_rfl) (rt (cW [tV 0 (.tup [.agg [.d (.i (k).id),.d (.b (k).up),.d (.s (k).log),.d (.i (k).forced),.d (.sl (bC (k).halves))],.c (.d (.i (bN (l.take 2000) q2 4))),.c (.d (.i (wrap64 (1+bN (l.take 2000) (q2+1) 3)))),.c (.d (.i (bN (l.take 2000) (q2+1+1) 9)))])] ⟨k,bN (l.take 2000) q2 4,wrap64 (1+bN (l.take 2000) (q2+1) 3),bN (l.take 2000) (q2+1+1) 9,hkq,rfl⟩ (rq [] [] rfl qz))))
theorem ip (l:List UInt8) (hl:l.length≤140737488355328):Sp 14 1 [tD 0 (.sl (aA l))] [tB 0 true]:=by
 refine sb Tryz.func14 rfl (sq (rT [0] (s1 (sq (sq (rT [0,19] (s3 (cd rfl (fun c19=> ?_) fun c19=> ?_))))))))
 · refine sq (rT [2] (s1 (rt (bL rfl ?_))))
   rfl
 refine sk (sq (rE [3,4,5,6] (s1 (cY (robj:=[]) (rl:=[]) (bor:=[]) (news:=[]) (df l hl) rfl rfl rfl rfl ⟨cJ rfl rfl trivial,rfl⟩ (by rintro _ ⟨k,a,b,c,hkq,rfl⟩;exact⟨rfl,.inl rfl,fun j hj=>nomatch hj⟩) (fun p hp=>nomatch hp) (fun j hj=>nomatch hj) ?_))))
 rintro _ ⟨k,a,b,c,hkq,rfl⟩
 have hg:=hkq.kg
 have hkl:=hkq.1
 have hkb:=aT9 k
 refine s9 (s1 (sq (rT [3,4,5,6,7,8] (s4 (xp (xX k a b c hg.log) (ai rfl ?_))))))
 refine s6 (sq (rT [3,4,5,6,7,8,9,10] (s4 (xp (xW k a b c hg.log) (ai rfl ?_)))))
 refine s6 (sq (sq (rT [3,4,5,6,7,8,9,10,54] (s4 (y2 (aIv dA [.i (aU k a b c).1.kind,.i (aU k a b c).1.src,.i (aU k a b c).1.dst,.i (aU k a b c).1.frm,.i (aU k a b c).1.num,.i (aU k a b c).1.to,.i (aU k a b c).1.til,.i (aU k a b c).1.size,.i (aU k a b c).1.mix,.s (aU k a b c).1.data] [.i (aU k a b c).1.kind,.i (aU k a b c).1.src,.i (aU k a b c).1.dst,.i (aU k a b c).1.frm,.i (aU k a b c).1.num,.i (aU k a b c).1.to,.i (aU k a b c).1.til,.i (aU k a b c).1.size,.i (aU k a b c).1.mix,.s (aU k a b c).1.data] rfl rfl rfl (by kernel_rfl) (by kernel_rfl) (by kernel_rfl) (by kernel_rfl) rfl rfl rk (ai pk (s1 (y2 (ai pk (cd rfl (fun c54=> ?_) fun c54=> ?_)))))))))))
 · refine sq (rT [2] (s4 (y2 (aIv dA [.i (aU k a b c).1.kind,.i (aU k a b c).1.src,.i (aU k a b c).1.dst,.i (aU k a b c).1.frm,.i (aU k a b c).1.num,.i (aU k a b c).1.to,.i (aU k a b c).1.til,.i (aU k a b c).1.size,.i (aU k a b c).1.mix,.s (aU k a b c).1.data] [.i (aU k a b c).1.kind,.i (aU k a b c).1.src,.i (aU k a b c).1.dst,.i (aU k a b c).1.frm,.i (aU k a b c).1.num,.i (aU k a b c).1.to,.i (aU k a b c).1.til,.i (aU k a b c).1.size,.i (aU k a b c).1.mix,.s (aU k a b c).1.data] rfl rfl rfl (by kernel_rfl) (by kernel_rfl) (by kernel_rfl) (by kernel_rfl) rfl rfl rk (ai pk (s1 (rt (bL rfl (congrArg D.b ?_)))))))))
   simp[gb,yT,eqD]
 have hyes: (aU k a b c).2=true:=by simpa[gb,yT,eqD] using c54
 obtain⟨e1,e2,e3,tx,ht,hsz,hall,hmem⟩:=aQq hyes
 refine sk (sq (rT [3,4,5,6,9,11] (ai (by exact⟨by simp,aV0 rfl⟩) (s1 (sq (sq (rT [3,4,5,6,9,11,12] (s1 (bk (SW.loopW (n:=6) (fun x s=> ∃i:Nat,x=6 - i∧i≤6∧s=[tP 3 3,tI 4 a,tI 5 b,tI 6 c,tP 9 9,tO 11 63 (tL tx i).length,tI 12 (i:Nat),oB 3 31 [.d (.i (k).id),.d (.b (k).up),.d (.s (k).log),.d (.i (k).forced),.d (.sl (bC (k).halves))],oB 9 63 [.d (.i (aU k a b c).1.kind),.d (.i (aU k a b c).1.src),.d (.i (aU k a b c).1.dst),.d (.i (aU k a b c).1.frm),.d (.i (aU k a b c).1.num),.d (.i (aU k a b c).1.to),.d (.i (aU k a b c).1.til),.d (.i (aU k a b c).1.size),.d (.i (aU k a b c).1.mix),.d (.s (aU k a b c).1.data)],oR 63 86 2 (cC (tL tx i))]) ?_ ?_))))))))))
 · refine wq [] [] (⟨0,rfl,by omega,rfl⟩) ?_
   repeat' apply ai
   all_goals first|exact qx|rfl|exact qz
 rintro n s ⟨i,rfl,hi,rfl⟩
 refine sq (sq (rT [3,4,5,6,9,11,12,65] (s2 (cd rfl (fun c65=> ?_) fun c65=> ?_))))
 · have hi2:i<6:=by simp at c65;omega
   have hdi:=(hall i (by omega)).1
   refine sk (sq (bk (sq (rT [3,4,5,6,9,11,12,13] (s4 (xp (xW k a b (i:Nat) hg.log) (ai rfl ?_)))))))
   refine s6 (rT [3,4,5,6,9,11,12] (s6 (ai (by exact⟨rfl,bI _,by intro r hr;rw[aWg.1 hr];rfl,by simp only[tL,List.length_map,List.length_range];show(_+1)*24≤_;omega⟩) (s1 (rT [3,4,5,6,9,11,12] (s3 (wq [] [] (⟨6 - (i+1),by omega,i+1,rfl,by omega,rfl⟩) ?_)))))))
   repeat' apply ai
   all_goals first|exact qx|exact congrArg D.i (aB (by omega))|(rw[wM,aVz];rfl)|(rw[wM];simp[bI];done)|(rw[hdi,wM];exact uC _ ⟨(i:Int),kD tx (i:Int)⟩)|exact qz
 have hi3:i=6:=by simp at c65;omega
 subst hi3
 have hmt:=xq (tx.length:Int) (tL tx 6) (by simp[tL])
 rw[yc ht (aWa _)] at hmt
 refine xt (sq (SW.frz 11 63 rfl rfl (bI _) (by rfl) (rT [3,4,5,6,9,15,16] (s3 (xp hmt (ai (by rw[hsz];rfl) ?_))))))
 refine s5 (sq (rD [2] (s2 (y1 (xc (fun h=>(xV k hg.log)) (ai rfl (ai rk ?_)))))))
 refine y4 (y4 (y1 (xc (fun h=>(aDk (eE k).held (⟨a,b,(aU k a b c).1.to,(aU k a b c).1.til,tx⟩:bA) hkb.1.1)) (ai rfl (ai rk ?_)))))
 refine ai pk (s1 (y1 (xc (fun h=>(xr (aU k a b c).1)) (ai rfl (ai rk ?_)))))
 refine ai pk (s1 (y4 (y1 (ai pk (s1 (y4 (ai pk (s1 (ai (by kernel_rfl) (rt (bL rfl (congrArg D.b ?_))))))))))))
 simp[gb,e1,e2,e3,hmem]
end Go.Proofs.YtmabaopgkimfmaaGreatDoor
namespace Go.Ab
open Int renaming toNat_natCast→aVy,tmod→aWe
open List renaming length_append→aVz,length_nil→aV2,length_cons→aV3,length_take→aV4,getD_eq_getElem?_getD→aV6,length_drop→aV7,getElem?_eq_getElem→aV8,getElem?_eq_some_iff→aV9,range→aWb,mem_map→aWc,take_length→aWd,all_eq_true→aWf,mem_singleton→aWg
open Nat renaming le_of_ble_eq_true→aV0,zero_le→aV5,le_refl→aWa,add_mul→aWh
open Bool renaming and_eq_true→aV1
open Go Go.RowKit
set_option linter.unusedVariables false
theorem aOd {P:Program} {w w':World} {name:String} {cs:Array Value} (h:w.var? P name=some cs) (hf:Fr (fun _=>False) w w'):w'.var? P name=some cs:=by
 unfold World.var? at h ⊢
 cases hg:P.globalNamed name with
 |none=>rw[hg] at h;cases h
 |some g=>
  rw[hg] at h
  simp only[Option.bind_some] at h ⊢
  cases hh:w.heap[g]? with
  |none=>rw[hh] at h;cases h
  |some o=>
   have hlt:g<w.heap.size:=(Array.getElem?_eq_some_iff.1 hh).1
   rw[hf.block g hlt (fun h=>h),hh]
   rw[hh] at h
   exact h
theorem aQs {P:Program} {w:World} {name:String} {g:Nat} {cs:Array Value} {t:TypeId} {v:Value} (hg:P.globalNamed name=some g) (hh:w.heap[g]? =some (.cells cs t)) (hs:cs.size=1) (hc:w.cell? ⟨g,0,none⟩=some v):w.var? P name=some #[v]:=by
 have e:cs= #[v]:=by
  have h1:w.cell? ⟨g,0,none⟩=cs[0]?:=by rw[cell_of_row w g 0 cs t (0,0) hh]
  rw[hc] at h1
  apply Array.ext
  · simpa using hs
  · intro i h2 h3
    have:i=0:=by have:i<1:=by simpa using h3
                 omega
    subst this
    rw[Array.getElem?_eq_getElem h2] at h1
    exact(Option.some.inj h1).symm
 subst e
 unfold World.var?
 rw[hg]
 simp only[Option.bind_some]
 rw[hh]
theorem aVx {P:Program} {w:World} (h1:Lib.TabIs P w "internal/strconv.uint64pow10" .u64 Lib.pow10Tab) (h2: ∃m,w.var? P "internal/bytealg.MaxLen" =some #[.int .i64 m]):GB P w fun _=>False:=fun w' hf=>⟨aOd h1 hf,h2.imp fun m hm=>aOd hm hf⟩
end Go.Ab
