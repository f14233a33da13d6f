/- Walks. -/
import Derived.Test.YtonlghbbdcddoaaGreatP14
import Derived.Test.YtonlghbbdcddoaaGreatPA
import Derived.Test.YtonlghbbdcddoaaGreatE9
import Derived.Test.YtonlghbbdcddoaaGreatClB
set_option maxHeartbeats 4000000
set_option maxRecDepth 100000
namespace Go.Proofs.YtonlghbbdcddoaaGreat
namespace Cl
open Go.ChangeShapes Go.WideShapes Go.ChangeAt Go.RowKit
theorem Hy {b:List Nat} {c:Cu} {R:List Int} (h:(r13 b 8 c).1=R):LT R∧cu R=true:=by
 subst h
 obtain⟨h1,h2,h3⟩:=Nl b 8 c
 exact⟨LT.of (dD h1).1 h2 h3,h1⟩
theorem vH:(Tryz.prog.info? 27).map (·.size)=some 1:=by kernel_rfl
theorem cV:TI Tryz.prog 26 true 1:=⟨⟨_,Tryz.underlying26,rfl⟩,by kernel_rfl⟩
theorem vJ:TI Tryz.prog 27 false 1:=⟨⟨_,Tryz.underlying27,rfl⟩,by kernel_rfl⟩
theorem nf:Tryz.prog.underlying 50=some (.slice 27):=Tryz.underlying50
theorem jy:ZI Tryz.prog 26 (.agg #[.slice none 0 0]) 1 24:=by unfold ZI;kernel_rfl
theorem rx (b:List Nat) (c:Cu) (hb:b.length≤1048576) (hy:∀ x∈b,x<256) (hi:c.i≤b.length):FnO Tryz.prog 29 [.a (.ptr 1 0)] [(.o 1,some (.o ⟨58,3,true,[(.slv b.length 1 (ysl b):A),aI ((c.i:Nat):Int),aI c.h]⟩))] (V.b (.agg [(.sl 900 0 ((r13 b 8 c).1.length):A)])) [(.o 1,some (.o ⟨58,3,true,[(.slv b.length 1 (ysl b):A),aI ((((r13 b 8 c).2).i:Nat):Int),aI (((r13 b 8 c).2).h)]⟩)),(.o 900,some (.o ⟨3,1,true,pl (isl ((r13 b 8 c).1))⟩))] [1]:=by
 refine co (N:=20) Tryz.func29 rfl (by kernel_rfl) rfl (Nat.le_of_ble_eq_true rfl) rfl rfl (by kernel_rfl) (by kernel_rfl) ⟨ocs (by kernel_rfl),trivial⟩ [2,4,10,12,15,16,19,20,21,22,23] (mn rfl) (fun W own kp im0=> ?_)
 show Wp _ _ _ [kP 0 1 0,kO 1 58 3 true [(.slv b.length 1 (ysl b):A),aI ((c.i:Nat):Int),aI c.h],kF 2,kF 4,kF 10,kF 12,kF 15,kF 16,kF 19,kF 20,kF 21,kF 22,kF 23]
 refine sq (rg ?_)
 refine z ?_ (h:=fun Z=>aF (h:=2) (cap:=1) (s:=1) (cells:=[(.val (.slice none 0 0):A)]) Z jy rfl rfl (by decide))
 refine nl (sq (sq (rg (zk (nl (bkk ?_))))))
 refine bf (fun((k,cz):Nat × Cu)=>k≤8∧cz.i≤b.length∧r13 b (8-k) cz=(r13 b 8 c)) (fun((k,cz):Nat × Cu)=>[kP 0 1 0,kP 2 2 0,kI 3 ((k:Nat):Int),kO 1 58 3 true [(.slv b.length 1 (ysl b):A),aI ((cz.i:Nat):Int),aI cz.h],kO 2 26 1 true [(.val (.slice none 0 0):A)],kF 4,kF 10,kF 12,kF 15,kF 16,kF 19,kF 20,kF 21,kF 22,kF 23]) (fun((k,cz):Nat × Cu)=>8-k) ((0:Nat),(c:Cu)) (by exact⟨Nat.zero_le _,hi,rfl⟩) (wkf id (wS<|wS<|wE (e:=(aO (by rfl)))<|wX<|wX<|by(iterate 10 refine wF ?_);exact wN)) ?_
 rintro⟨k,cz⟩ inv1
 replace inv1:k≤8∧cz.i≤b.length∧r13 b (8-k) cz=(r13 b 8 c):=inv1
 obtain⟨hk8,hi0,hr13⟩:=inv1
 refine sq (sq (rg (zm ?_)))
 refine z ?_ (h:=fun Z=>ab Z vt vc (bP rfl))
 refine nl ?_
 refine wi (fun c2=> ?_) (fun c2=> ?_)
 ·skip
  have c2P:=of_decide_eq_true c2
  have hi4:=r3_i (b:=b) hi0
  have hl8:=No b cz
  have hcb:=Mm (bb (Ig b cz))
  refine sk (sq (bkk (sq (rg (zm ?_)))))
  refine z ?_ (h:=fun Z=>bo (d:=10) (f:=48) (os:=[(.o 1,some (.o ⟨58,3,true,[(.slv b.length 1 (ysl b):A),aI ((cz.i:Nat):Int),aI cz.h]⟩))]) (os':=[(.o 1,some (.o ⟨58,3,true,[(.slv b.length 1 (ysl b):A),aI ((((r3 b cz).2).i:Nat):Int),aI (((r3 b cz).2).h)]⟩)),(.o 4,some (.o ⟨3,1,true,pl (isl ((r3 b cz).1))⟩))]) (r:=V.b (.agg [(.sl 4 0 ((r3 b cz).1.length):A)])) (bs:=[.a (.ptr 1 0)]) (keep:=[1]) (new:=[4]) (dead:=[]) Z (FnO.ren' (rq b cz (by omega) (by omega) (by omega)) (bn [(900,4)]) rfl rfl (by kernel_rfl) (by kernel_rfl) ⟨ocs (by kernel_rfl),bB (fun _=>rfl),trivial⟩ (by kernel_rfl) rfl (by simp only[cH,Ob.ren,bM,aC,aD,aA,bt,bq];first |done |rfl) (by simp only[cH,Ob.ren,bM,aC,aD,aA,bt,bq];first |done |rfl) rfl rfl) (by kernel_rfl) ⟨ocs (by kernel_rfl),bB (fun _=>rfl),trivial⟩ (by kernel_rfl) (ArgOs.cons (ArgO.slot 9 (.a (.ptr 1 0))) (ArgOs.nil)))
  refine z ?_ (h:=fun Z=>aF (h:=10) (cap:=1) (s:=1) (cells:=[(.val (.slice none 0 0):A)]) Z jy rfl rfl (by decide))
  refine z ?_ (h:=fun _=>aw (cells:=[(.sl 4 0 ((r3 b cz).1.length):A)]) cV xt (by exact rfl) (by decide) (by exact ob1 rfl) (by exact Nat.le_of_ble_eq_true rfl) (by exact rfl))
  refine nl (sq ?_)
  rcases Bool.eq_false_or_eq_true ((cu ((r3 b cz).1)))with c3 |c3
  ·skip
   have hsi:=c3
   refine rg ?_
   refine z ?_ (h:=fun Z=>aa (xs:=[(.sl 4 0 ((r3 b cz).1.length):A)]) Z cV rfl (by decide) rfl)
   refine z ?_ (h:=fun Z=>ah Z (mp ((r3 b cz).1) (by omega)) (ac (ArgV.reg _ _ _ (s:=1) (by simp [isl]) (by exact List.take_of_length_le (by simp [isl]))) an) (aH (congrArg Value.bool c3)))
   refine zm ?_
   refine zg ?_ (h:=fun Z=>ae rfl rfl (aa (xs:=[(.sl 4 0 ((r3 b cz).1.length):A)]) Z cV rfl (by decide) rfl))
   refine zg ?_ (h:=fun Z=>ae rfl rfl (ah Z (mq ((r3 b cz).1) (by exact Ig _ _)) (ac (ArgV.reg _ _ _ (s:=1) (by simp [isl]) (by exact List.take_of_length_le (by simp [isl]))) an) rv))
   refine zg ?_ (h:=fun Z=>ae rfl rfl (ah Z (cP (((cnt (ag ((r3 b cz).1))):Nat):Int) 1 120 ) (ac (ArgV.v vt) (ac (ArgV.v vc) (ac (ArgV.v vc) an))) rv))
   refine z ?_ (h:=fun Z=>al Z vt xt)
   refine nl ?_
   refine wi (b:=(inB (((cnt (ag ((r3 b cz).1))):Nat):Int) 1 120)) (fun c4=> ?_) (fun c4=> ?_)
   ·skip
    have hfin:=hr13.symm.trans (KH (k:=8-k) (by omega) hsi c4)
    refine sq (rg ?_)
    refine z ?_ (h:=fun Z=>aa (xs:=[(.sl 4 0 ((r3 b cz).1.length):A)]) Z cV rfl (by decide) rfl)
    refine z ?_ (h:=fun _=>aw (cells:=[(.sl 4 0 ((r3 b cz).1.length):A)]) cV xt (by exact rfl) (by decide) (by exact ob1 rfl) (by exact Nat.le_of_ble_eq_true rfl) (by exact rfl))
    refine nl (aq ?_)
    exact⟨[kP 2 2 0,kO 1 58 3 true [(.slv b.length 1 (ysl b):A),aI ((((r3 b cz).2).i:Nat):Int),aI (((r3 b cz).2).h)],kO 2 26 1 true [(.sl 900 0 ((r3 b cz).1.length):A)],kO 900 3 1 true (pl (isl ((r3 b cz).1))),kF 4,kF 10,kF 12,kF 15,kF 16,kF 19,kF 20,kF 21,kF 22,kF 23],wkf (bn [(900,4)]) (wS<|wX<|wX<|wP<|by(iterate 10 refine wF ?_);exact wN),⟨cw (c:=[(.slv b.length 1 (ysl b):A),aI ((((r3 b cz).2).i:Nat):Int),aI (((r3 b cz).2).h)]) (by kernel_rfl) (by exact kM (congrArg Prod.snd hfin).symm _ _),cw (c:=pl (isl ((r3 b cz).1))) (by kernel_rfl) (congrArg (fun z=>pl (isl z)) (by exact(congrArg Prod.fst hfin).symm)),trivial⟩,lm (h:=2) ⟨26,1,true,[(.sl 900 0 ((r3 b cz).1.length):A)]⟩ (by kernel_rfl) (by kernel_rfl) cV (Nat.le_of_ble_eq_true rfl) (by(exact congrArg (fun z:Nat=>[A.sl 900 0 z]) (by first |exact congrArg (fun z=>z.1.length) hfin.symm |exact congrArg (fun z=>z.1.length) hfin)))⟩
   ·skip
    have hnx:=Ie (k:=8-k) (by omega) (.inr c4)
    refine sk (rg (zm ?_))
    refine z ?_ (h:=fun Z=>ab Z vt vc (rA (by omega) (by omega)))
    refine za (nl ?_)
    exact ar ((k+1),(r3 b cz).2) (by refine⟨by omega,hi4,?_⟩;rw[show 8-(k+1)=8-k-1 by omega];exact hnx.symm.trans hr13) (by show 8-(k+1)<8-k;omega) (wkf id (wS<|wS<|wE (e:=(aO (by rfl)))<|wX<|wX<|by(iterate 10 refine wF ?_);exact wN))
  ·skip
   have hnx:=Ie (k:=8-k) (by omega) (.inl c3)
   refine rg ?_
   refine z ?_ (h:=fun Z=>aa (xs:=[(.sl 4 0 ((r3 b cz).1.length):A)]) Z cV rfl (by decide) rfl)
   refine z ?_ (h:=fun Z=>ah Z (mp ((r3 b cz).1) (by omega)) (ac (ArgV.reg _ _ _ (s:=1) (by simp [isl]) (by exact List.take_of_length_le (by simp [isl]))) an) (aH (congrArg Value.bool c3)))
   refine zm (zo (zo (zo ?_)))
   refine z ?_ (h:=fun Z=>ao Z vt xc)
   refine nl (wf (sk (rg (zm ?_))))
   refine z ?_ (h:=fun Z=>ab Z vt vc (rA (by omega) (by omega)))
   refine za (nl ?_)
   exact ar ((k+1),(r3 b cz).2) (by refine⟨by omega,hi4,?_⟩;rw[show 8-(k+1)=8-k-1 by omega];exact hnx.symm.trans hr13) (by show 8-(k+1)<8-k;omega) (wkf id (wS<|wS<|wE (e:=(aO (by rfl)))<|wX<|wX<|by(iterate 10 refine wF ?_);exact wN))
 ·skip
  have c2P:=of_decide_eq_false c2
  have hend:=KG (b:=b) (k:=8-k) (c2:=cz) (by omega)
  have hfin:=hr13.symm.trans hend
  refine aJ (sq (rg ?_))
  refine z ?_ (h:=fun Z=>ah Z (lK 4 4 (by omega) (by omega)) (ac (ArgV.v vc) (ac (ArgV.v vc) an)) (ResV.reg _ _ _ _ 19))
  refine z ?_ (h:=fun _=>aw (cells:=[(.sl 19 0 ((ck 4 4).length):A)]) cV xt (by exact rfl) (by decide) (by exact ob1 rfl) (by exact Nat.le_of_ble_eq_true rfl) (by exact rfl))
  refine nl (aq ?_)
  exact⟨[kP 2 2 0,kO 1 58 3 true [(.slv b.length 1 (ysl b):A),aI ((cz.i:Nat):Int),aI cz.h],kO 2 26 1 true [(.sl 900 0 ((ck 4 4).length):A)],kO 900 3 1 true (pl (isl (ck 4 4))),kF 4,kF 10,kF 12,kF 15,kF 16,kF 19,kF 20,kF 21,kF 22,kF 23],wkf (bn [(900,19)]) (wS<|wX<|wX<|wP<|by(iterate 10 refine wF ?_);exact wN),⟨cw (c:=[(.slv b.length 1 (ysl b):A),aI ((cz.i:Nat):Int),aI cz.h]) (by kernel_rfl) (by exact kM (congrArg Prod.snd hfin).symm _ _),cw (c:=pl (isl (ck 4 4))) (by kernel_rfl) (congrArg (fun z=>pl (isl z)) (by exact(congrArg Prod.fst hfin).symm)),trivial⟩,lm (h:=2) ⟨26,1,true,[(.sl 900 0 ((ck 4 4).length):A)]⟩ (by kernel_rfl) (by kernel_rfl) cV (Nat.le_of_ble_eq_true rfl) (by(exact congrArg (fun z:Nat=>[A.sl 900 0 z]) (by first |exact congrArg (fun z=>z.1.length) hfin.symm |exact congrArg (fun z=>z.1.length) hfin)))⟩
theorem Ao (b:List Nat) (c:Cu) (R:List Int) (cz:Cu) (hb:b.length≤1048576) (hy:∀ x∈b,x<256) (hi:c.i≤b.length) (hR:(r13 b 8 c).1=R) (hz:(r13 b 8 c).2=cz):FnO Tryz.prog 29 [.a (.ptr 1 0)] [(.o 1,some (.o ⟨58,3,true,[(.slv b.length 1 (ysl b):A),aI ((c.i:Nat):Int),aI c.h]⟩))] (V.b (.agg [(.sl 900 0 R.length:A)])) [(.o 1,some (.o ⟨58,3,true,[(.slv b.length 1 (ysl b):A),aI ((cz.i:Nat):Int),aI cz.h]⟩)),(.o 900,some (.o ⟨3,1,true,pl (isl R)⟩))] [1]:=by
 subst hR hz
 exact rx b c hb hy hi
theorem wc (b:List Nat) (c:Cu) (R:List Int) (cz:Cu) (hb:b.length≤1048576) (hy:∀ x∈b,x<256) (hi:c.i≤b.length) (hR:(r13 b 8 c).1=R) (hz:(r13 b 8 c).2=cz):FnO Tryz.prog 15 [.a (.ptr 1 0)] [(.o 1,some (.o ⟨58,3,true,[(.slv b.length 1 (ysl b):A),aI ((c.i:Nat):Int),aI c.h]⟩))] (V.tup [.agg [(.sl 900 0 R.length:A)],.a (.slv ((gLd (ltR R) (cuX b cz (ltR R).length)).length) 3 (dsl (gLd (ltR R) (cuX b cz (ltR R).length)))),.a (.slv ((gLd (ltR R) (cuX b (cuN b cz (ltR R).length) (ltR R).length)).length) 3 (dsl (gLd (ltR R) (cuX b (cuN b cz (ltR R).length) (ltR R).length))))]) [(.o 1,some (.o ⟨58,3,true,[(.slv b.length 1 (ysl b):A),aI (((cuN b (cuN b cz (ltR R).length) (ltR R).length).i:Nat):Int),aI ((cuN b (cuN b cz (ltR R).length) (ltR R).length).h)]⟩)),(.o 900,some (.o ⟨3,1,true,pl (isl R)⟩))] [1]:=by
 obtain⟨hT,hsi⟩:=Hy hR
 have h8:=(fD hT.ok).1
 have hlen:=hT.len
 have hpos:=hT.pos
 have hxa:cuX b cz (ltR R).length<(ltR R).length:=lN (by omega)
 have hxb:cuX b (cuN b cz (ltR R).length) (ltR R).length<(ltR R).length:=lN (by omega)
 have hzi:cz.i≤b.length:=hz▸r13_i 8 c hi
 have hzj:=gM (n:=(ltR R).length) hzi
 refine co (N:=28) Tryz.func15 rfl (by kernel_rfl) rfl (Nat.le_of_ble_eq_true rfl) rfl rfl (by kernel_rfl) (by kernel_rfl) ⟨ocs (by kernel_rfl),trivial⟩ [2,5,9,11,15,16,24,25,28,29,30,31] (Io rfl) (fun W own kp im0=> ?_)
 show Wp _ _ _ [kP 0 1 0,kO 1 58 3 true [(.slv b.length 1 (ysl b):A),aI ((c.i:Nat):Int),aI c.h],kF 2,kF 5,kF 9,kF 11,kF 15,kF 16,kF 24,kF 25,kF 28,kF 29,kF 30,kF 31]
 refine sq (rg ?_)
 refine z ?_ (h:=fun Z=>aF (h:=2) (cap:=1) (s:=1) (cells:=[(.val (.slice none 0 0):A)]) Z jy rfl rfl (by decide))
 refine zk (zk (nl (sq (rg (zm ?_)))))
 refine z ?_ (h:=fun Z=>bo (d:=9) (f:=29) (os:=[(.o 1,some (.o ⟨58,3,true,[(.slv b.length 1 (ysl b):A),aI ((c.i:Nat):Int),aI c.h]⟩))]) (os':=[(.o 1,some (.o ⟨58,3,true,[(.slv b.length 1 (ysl b):A),aI ((cz.i:Nat):Int),aI cz.h]⟩)),(.o 5,some (.o ⟨3,1,true,pl (isl R)⟩))]) (r:=V.b (.agg [(.sl 5 0 R.length:A)])) (bs:=[.a (.ptr 1 0)]) (keep:=[1]) (new:=[5]) (dead:=[]) Z (FnO.ren' (Ao b c R cz (by omega) (by omega) (by omega) (by exact hR) (by exact hz)) (bn [(900,5)]) rfl rfl (by kernel_rfl) (by kernel_rfl) ⟨ocs (by kernel_rfl),bB (fun _=>rfl),trivial⟩ (by kernel_rfl) rfl (by simp only[cH,Ob.ren,bM,aC,aD,aA,bt,bq];first |done |rfl) (by simp only[cH,Ob.ren,bM,aC,aD,aA,bt,bq];first |done |rfl) rfl rfl) (by kernel_rfl) ⟨ocs (by kernel_rfl),bB (fun _=>rfl),trivial⟩ (by kernel_rfl) (ArgOs.cons (ArgO.slot 8 (.a (.ptr 1 0))) (ArgOs.nil)))
 refine z ?_ (h:=fun Z=>aF (h:=9) (cap:=1) (s:=1) (cells:=[(.val (.slice none 0 0):A)]) Z jy rfl rfl (by decide))
 refine z ?_ (h:=fun _=>aw (cells:=[(.sl 5 0 R.length:A)]) cV xt (by exact rfl) (by decide) (by exact ob1 rfl) (by exact Nat.le_of_ble_eq_true rfl) (by exact rfl))
 refine nl (sq (rg ?_))
 refine z ?_ (h:=fun Z=>aa (xs:=[(.sl 5 0 R.length:A)]) Z cV rfl (by decide) rfl)
 refine z ?_ (h:=fun Z=>bo (d:=11) (f:=26) (os:=[(.o 5,some (.o ⟨3,1,true,pl (isl R)⟩))]) (os':=[(.o 5,some (.o ⟨3,1,true,pl (isl R)⟩))]) (r:=V.b (.a (.slvv 3 (vwD (ltR R))))) (bs:=[.agg [(.sl 5 0 R.length:A)]]) (keep:=[5]) (new:=[]) (dead:=[]) Z (FnO.ren' (gS R (by omega)) (bn [(800,5)]) rfl rfl (by kernel_rfl) (by kernel_rfl) ⟨bB (fun _=>rfl),trivial⟩ (by kernel_rfl) rfl (by simp only[cH,Ob.ren,bM,aC,aD,aA,bt,bq];first |done |rfl) (by simp only[cH,Ob.ren,bM,aC,aD,aA,bt,bq];first |done |rfl) rfl rfl) (by kernel_rfl) ⟨bB (fun _=>rfl),trivial⟩ (by kernel_rfl) (ArgOs.cons (ArgO.slot 10 (.agg [(.sl 5 0 R.length:A)])) (ArgOs.nil)))
 refine za (nl (sq (rg (zm (zm (zm ?_))))))
 refine z ?_ (h:=fun Z=>lnD Z nf)
 refine z ?_ (h:=fun Z=>bo (d:=16) (f:=30) (os:=[(.o 1,some (.o ⟨58,3,true,[(.slv b.length 1 (ysl b):A),aI ((cz.i:Nat):Int),aI cz.h]⟩))]) (os':=[(.o 1,some (.o ⟨58,3,true,[(.slv b.length 1 (ysl b):A),aI (((cuN b cz ((ltR R).length)).i:Nat):Int),aI ((cuN b cz ((ltR R).length)).h)]⟩))]) (r:=V.v (.int .i64 (((cuX b cz ((ltR R).length)):Nat):Int))) (bs:=[.a (.ptr 1 0),.a (.val (.int .i64 (((ltR R).length:Nat):Int)))]) (keep:=[1]) (new:=[]) (dead:=[]) Z ((dk b cz ((ltR R).length) (by omega) (by omega) (by omega) (by omega) (by omega))) (by kernel_rfl) ⟨ocs (by kernel_rfl),trivial⟩ (by kernel_rfl) (ArgOs.cons (ArgO.slot 13 (.a (.ptr 1 0))) (ArgOs.cons ((ArgO.v vt)) (ArgOs.nil))))
 refine z ?_ (h:=fun Z=>xvv Z nf vH vt (hlt:=(by simp only[jL,ib];first |omega |assumption)))
 refine z ?_ (h:=fun Z=>lvD Z vJ (by omega))
 refine za (nl (sq (cg ?_)))
 refine zd ?_ (h:=fun Z=>aa (xs:=[(.sl 5 0 R.length:A)]) Z cV rfl (by decide) rfl)
 refine zdm (zdm (zdm (zdm ?_)))
 refine zd ?_ (h:=fun Z=>lnD Z nf)
 refine zd ?_ (h:=fun Z=>bo (d:=25) (f:=30) (os:=[(.o 1,some (.o ⟨58,3,true,[(.slv b.length 1 (ysl b):A),aI (((cuN b cz ((ltR R).length)).i:Nat):Int),aI ((cuN b cz ((ltR R).length)).h)]⟩))]) (os':=[(.o 1,some (.o ⟨58,3,true,[(.slv b.length 1 (ysl b):A),aI (((cuN b (cuN b cz ((ltR R).length)) ((ltR R).length)).i:Nat):Int),aI ((cuN b (cuN b cz ((ltR R).length)) ((ltR R).length)).h)]⟩))]) (r:=V.v (.int .i64 (((cuX b (cuN b cz ((ltR R).length)) ((ltR R).length)):Nat):Int))) (bs:=[.a (.ptr 1 0),.a (.val (.int .i64 (((ltR R).length:Nat):Int)))]) (keep:=[1]) (new:=[]) (dead:=[]) Z ((dk b (cuN b cz ((ltR R).length)) ((ltR R).length) (by omega) (by omega) (by omega) (by omega) (by omega))) (by kernel_rfl) ⟨ocs (by kernel_rfl),trivial⟩ (by kernel_rfl) (ArgOs.cons (ArgO.slot 22 (.a (.ptr 1 0))) (ArgOs.cons ((ArgO.v vt)) (ArgOs.nil))))
 refine zd ?_ (h:=fun Z=>xvv Z nf vH vt (hlt:=(by simp only[jL,ib];first |omega |assumption)))
 refine zd ?_ (h:=fun Z=>lvD Z vJ (by omega))
 refine zd ?_ (h:=fun _=>aw (cells:=[(.sl 5 0 R.length:A)]) cV xt (by exact rfl) (by decide) (by exact ob1 rfl) (by exact Nat.le_of_ble_eq_true rfl) (by exact rfl))
 refine zd ?_ (h:=fun Z=>gt Z)
 refine zd ?_ (h:=fun Z=>gt Z)
 refine bJ (aq ?_)
 exact⟨[kP 2 2 0,kV 3 (V.b (.a (.slv ((gLd (ltR R) (cuX b cz ((ltR R).length))).length) 3 (dsl (gLd (ltR R) (cuX b cz ((ltR R).length))))))),kV 4 (V.b (.a (.slv ((gLd (ltR R) (cuX b (cuN b cz ((ltR R).length)) ((ltR R).length))).length) 3 (dsl (gLd (ltR R) (cuX b (cuN b cz ((ltR R).length)) ((ltR R).length))))))),kO 1 58 3 true [(.slv b.length 1 (ysl b):A),aI (((cuN b (cuN b cz ((ltR R).length)) ((ltR R).length)).i:Nat):Int),aI ((cuN b (cuN b cz ((ltR R).length)) ((ltR R).length)).h)],kO 2 26 1 true [(.sl 900 0 R.length:A)],kO 900 3 1 true (pl (isl R)),kF 5,kF 9,kF 11,kF 15,kF 16,kF 24,kF 25,kF 28,kF 29,kF 30,kF 31],wkf (bn [(900,5)]) (wS<|wS<|wS<|wX<|wX<|wP<|by(iterate 11 refine wF ?_);exact wN),⟨cw (c:=[(.slv b.length 1 (ysl b):A),aI (((cuN b (cuN b cz ((ltR R).length)) ((ltR R).length)).i:Nat):Int),aI ((cuN b (cuN b cz ((ltR R).length)) ((ltR R).length)).h)]) (by kernel_rfl) (by rfl),by kernel_rfl,trivial⟩,⟨lm (h:=2) ⟨26,1,true,[(.sl 900 0 R.length:A)]⟩ (by kernel_rfl) (by kernel_rfl) cV (Nat.le_of_ble_eq_true rfl) rfl,da 3 (.a (.slv ((gLd (ltR R) (cuX b cz ((ltR R).length))).length) 3 (dsl (gLd (ltR R) (cuX b cz ((ltR R).length)))))) (.a (.slv ((gLd (ltR R) (cuX b cz (ltR R).length)).length) 3 (dsl (gLd (ltR R) (cuX b cz (ltR R).length))))) (by kernel_rfl) (DX (by rfl)),da 4 (.a (.slv ((gLd (ltR R) (cuX b (cuN b cz ((ltR R).length)) ((ltR R).length))).length) 3 (dsl (gLd (ltR R) (cuX b (cuN b cz ((ltR R).length)) ((ltR R).length)))))) (.a (.slv ((gLd (ltR R) (cuX b (cuN b cz (ltR R).length) (ltR R).length)).length) 3 (dsl (gLd (ltR R) (cuX b (cuN b cz (ltR R).length) (ltR R).length))))) (by kernel_rfl) (DX (by rfl))⟩⟩
theorem pD (b:List Nat) (R:List Int) (cz:Cu) (hb:b.length≤1048576) (hy:∀ x∈b,x<256) (hR:(r13 b 8 (cu0 b)).1=R) (hz:(r13 b 8 (cu0 b)).2=cz):FnO Tryz.prog 5 [.a (.slv b.length 1 (ysl b))] [] (V.tup [.agg [(.sl 900 0 R.length:A)],.a (.slv ((gLd (ltR R) (cuX b cz (ltR R).length)).length) 3 (dsl (gLd (ltR R) (cuX b cz (ltR R).length)))),.a (.slv ((gLd (ltR R) (cuX b (cuN b cz (ltR R).length) (ltR R).length)).length) 3 (dsl (gLd (ltR R) (cuX b (cuN b cz (ltR R).length) (ltR R).length))))]) [(.o 900,some (.o ⟨3,1,true,pl (isl R)⟩))] []:=by
 refine co (N:=18) Tryz.func5 rfl (by kernel_rfl) rfl (Nat.le_of_ble_eq_true rfl) rfl rfl (by kernel_rfl) (by kernel_rfl) trivial [2,5,10,11,18,19,20,21] (Io rfl) (fun W own kp im0=> ?_)
 show Wp _ _ _ [kV 0 (V.b (.a (.slv b.length 1 (ysl b)))),kF 2,kF 5,kF 10,kF 11,kF 18,kF 19,kF 20,kF 21]
 refine sq (rg ?_)
 refine z ?_ (h:=fun Z=>aF (h:=2) (cap:=1) (s:=1) (cells:=[(.val (.slice none 0 0):A)]) Z jy rfl rfl (by decide))
 refine zk (zk (nl (sq (rg (zm ?_)))))
 refine z ?_ (h:=fun Z=>bo (d:=10) (f:=16) (os:=[]) (os':=[(.o 5,some (.o ⟨58,3,true,[(.slv b.length 1 (ysl b):A),aI (((cu0 b).i:Nat):Int),aI ((cu0 b).h)]⟩))]) (r:=V.p 5 0) (bs:=[.a (.slv b.length 1 (ysl b))]) (keep:=[]) (new:=[5]) (dead:=[]) Z (FnO.ren' (wb b (by omega) (by omega)) (bn [(900,5)]) rfl rfl (by kernel_rfl) (by kernel_rfl) ⟨ocs (by kernel_rfl),trivial⟩ (by kernel_rfl) rfl (by simp only[cH,Ob.ren,bM,aC,aD,aA,bt,bq];first |done |rfl) (by simp only[cH,Ob.ren,bM,aC,aD,aA,bt,bq];first |done |rfl) rfl rfl) (by kernel_rfl) ⟨ocs (by kernel_rfl),trivial⟩ (by kernel_rfl) (ArgOs.cons (ArgO.slot 9 (.a (.slv b.length 1 (ysl b)))) (ArgOs.nil)))
 refine z ?_ (h:=fun Z=>bo (d:=11) (f:=15) (os:=[(.o 5,some (.o ⟨58,3,true,[(.slv b.length 1 (ysl b):A),aI (((cu0 b).i:Nat):Int),aI ((cu0 b).h)]⟩))]) (os':=[(.o 5,some (.o ⟨58,3,true,[(.slv b.length 1 (ysl b):A),aI (((cuN b (cuN b cz (ltR R).length) (ltR R).length).i:Nat):Int),aI ((cuN b (cuN b cz (ltR R).length) (ltR R).length).h)]⟩)),(.o 10,some (.o ⟨3,1,true,pl (isl R)⟩))]) (r:=V.tup [.agg [(.sl 10 0 R.length:A)],.a (.slv ((gLd (ltR R) (cuX b cz (ltR R).length)).length) 3 (dsl (gLd (ltR R) (cuX b cz (ltR R).length)))),.a (.slv ((gLd (ltR R) (cuX b (cuN b cz (ltR R).length) (ltR R).length)).length) 3 (dsl (gLd (ltR R) (cuX b (cuN b cz (ltR R).length) (ltR R).length))))]) (bs:=[.a (.ptr 5 0)]) (keep:=[5]) (new:=[10]) (dead:=[]) Z (FnO.ren' (wc b (cu0 b) R cz (by omega) (by omega) (by exact(Nat.zero_le _:0≤_)) (by exact hR) (by exact hz)) (bn [(1,5),(900,10)]) rfl rfl (by kernel_rfl) (by kernel_rfl) ⟨ocs (by kernel_rfl),bB (fun _=>rfl),trivial⟩ (by kernel_rfl) rfl (by simp only[cH,Ob.ren,bM,aC,aD,aA,bt,bq];first |done |rfl) (by simp only[cH,Ob.ren,bM,aC,aD,aA,bt,bq];first |done |rfl) rfl rfl) (by kernel_rfl) ⟨ocs (by kernel_rfl),bB (fun _=>rfl),trivial⟩ (by kernel_rfl) (ArgOs.cons (ArgO.slot 10 (.a (.ptr 5 0))) (ArgOs.nil)))
 refine zm ?_
 refine z ?_ (h:=fun Z=>az Z (by exact rfl))
 refine z ?_ (h:=fun Z=>az Z (by exact rfl))
 refine z ?_ (h:=fun Z=>az Z (by exact rfl))
 refine z ?_ (h:=fun Z=>aF (h:=11) (cap:=1) (s:=1) (cells:=[(.val (.slice none 0 0):A)]) Z jy rfl rfl (by decide))
 refine z ?_ (h:=fun _=>aw (cells:=[(.sl 10 0 R.length:A)]) cV xt (by exact rfl) (by decide) (by exact ob1 rfl) (by exact Nat.le_of_ble_eq_true rfl) (by exact rfl))
 refine za (za (nl (sq (rg ?_))))
 refine z ?_ (h:=fun Z=>aa (xs:=[(.sl 10 0 R.length:A)]) Z cV rfl (by decide) rfl)
 refine zm (zm ?_)
 refine z ?_ (h:=fun _=>aw (cells:=[(.sl 10 0 R.length:A)]) cV xt (by exact rfl) (by decide) (by exact ob1 rfl) (by exact Nat.le_of_ble_eq_true rfl) (by exact rfl))
 refine za (za (nl (aq ?_)))
 exact⟨[kP 2 2 0,kV 3 (V.b (.a (.slv ((gLd (ltR R) (cuX b cz (ltR R).length)).length) 3 (dsl (gLd (ltR R) (cuX b cz (ltR R).length)))))),kV 4 (V.b (.a (.slv ((gLd (ltR R) (cuX b (cuN b cz (ltR R).length) (ltR R).length)).length) 3 (dsl (gLd (ltR R) (cuX b (cuN b cz (ltR R).length) (ltR R).length)))))),kO 2 26 1 true [(.sl 900 0 R.length:A)],kO 900 3 1 true (pl (isl R)),kF 5,kF 10,kF 11,kF 18,kF 19,kF 20,kF 21],wkf (bn [(900,10)]) (wS<|wS<|wS<|wX<|wP<|wF<|wF<|wF<|wF<|wF<|wF<|wF<|wN),⟨by kernel_rfl,trivial⟩,⟨lm (h:=2) ⟨26,1,true,[(.sl 900 0 R.length:A)]⟩ (by kernel_rfl) (by kernel_rfl) cV (Nat.le_of_ble_eq_true rfl) rfl,VO.tmp 3 (.a (.slv ((gLd (ltR R) (cuX b cz (ltR R).length)).length) 3 (dsl (gLd (ltR R) (cuX b cz (ltR R).length))))) (by kernel_rfl),VO.tmp 4 (.a (.slv ((gLd (ltR R) (cuX b (cuN b cz (ltR R).length) (ltR R).length)).length) 3 (dsl (gLd (ltR R) (cuX b (cuN b cz (ltR R).length) (ltR R).length))))) (by kernel_rfl)⟩⟩
theorem wl (b:List Nat) (R:List Int) (cz:Cu) (P Q:List Dom) (hb:b.length≤1048576) (hy:∀ x∈b,x<256) (hR:(r13 b 8 (cu0 b)).1=R) (hz:(r13 b 8 (cu0 b)).2=cz) (hP:(gLd (ltR R) (cuX b cz (ltR R).length))=P) (hQ:(gLd (ltR R) (cuX b (cuN b cz (ltR R).length) (ltR R).length))=Q):FnO Tryz.prog 5 [.a (.slv b.length 1 (ysl b))] [] (V.tup [.agg [(.sl 900 0 R.length:A)],.a (.slv P.length 3 (dsl P)),.a (.slv Q.length 3 (dsl Q))]) [(.o 900,some (.o ⟨3,1,true,pl (isl R)⟩))] []:=by
 subst hP hQ
 exact pD b R cz hb hy hR hz
end Cl
end Go.Proofs.YtonlghbbdcddoaaGreat
