/- Walks. -/
import Derived.Test.YtgmkkfdnmdohlaaGreatDoorC10
import Derived.Test.YtgmkkfdnmdohlaaGreatDoorC1
import Derived.Test.YtgmkkfdnmdohlaaGreatDoorClB
set_option linter.unusedSimpArgs false
set_option linter.unusedVariables false
set_option maxHeartbeats 4000000
set_option maxRecDepth 100000
namespace Go.Proofs.YtgmkkfdnmdohlaaGreatDoor
namespace Cl
open Go.ChangeShapes Go.WideShapes Go.ChangeAt Go.RowKit
theorem ll:∀ (a b:Int),Tryz.prog.built 70 [(0,.int .i64 a),(1,.int .i64 b)]=some ([.int .i64 a,.int .i64 b]:List Value).toArray:=fun _ _=>rfl
theorem iJ:bK Tryz.prog 70 0=some 0:=by kernel_rfl
theorem iK:bK Tryz.prog 70 1=some 1:=by kernel_rfl
theorem cZ:(Tryz.prog.info? 3).map (·.size)=some 1:=by kernel_rfl
theorem ep:TI Tryz.prog 29 true 1:=⟨⟨_,Tryz.underlying29,rfl⟩,by kernel_rfl⟩
theorem bZ:TI Tryz.prog 3 false 1:=⟨⟨_,Tryz.underlying3,rfl⟩,by kernel_rfl⟩
theorem bJ:TI Tryz.prog 70 true 2:=⟨⟨_,Tryz.underlying70,rfl⟩,by kernel_rfl⟩
theorem cm:Tryz.prog.underlying 22=some (.slice 3):=Tryz.underlying22
theorem uX:ZI Tryz.prog 3 (.int .i64 0) 1 8:=by unfold ZI;kernel_rfl
theorem jr:ZI Tryz.prog 70 (.agg #[.int .i64 0,.int .i64 0]) 2 16:=by unfold ZI;kernel_rfl
theorem hG (l:List Int) (ho:bj l=true):Fn Tryz.prog 52 [.agg [(.slv l.length 1 (isl l):A)]] [.val (.int .i64 (((cnt (ao l)):Nat):Int))]:=by
 have hpl0:=kq (ao l) 0
 have hr0:(List.replicate 256 (0:Int)).length=256:=List.length_replicate
 have hrl:=(ez ho).1
 refine bm (N:=157) Tryz.func52 rfl (by kernel_rfl) rfl (Nat.le_of_ble_eq_true rfl) [1,7,14,15,18,33,38,41,64,94,98,122,126] (dN rfl) (fun W=> ?_)
 show Wp _ _ _ [kV 0 (V.b (.agg [(.slv l.length 1 (isl l):A)])),kF 1,kF 7,kF 14,kF 15,kF 18,kF 33,kF 38,kF 41,kF 64,kF 94,kF 98,kF 122,kF 126]
 refine sq (rg ?_)
 refine z ?_ (h:=fun Z=>bo (h:=1) Z xt (by exact ob1 rfl))
 refine zk (nl (sq (rg (zk (nl (sq (rg (zm ?_))))))))
 refine z ?_ (h:=fun Z=>aa Z vc vt (fw (c:=256) (by omega) (by decide)))
 refine z ?_ (h:=fun Z=>fJ (h:=18) (n:=256) (xs:=isl (List.replicate 256 0)) Z cm uX vt vt rfl rfl (by decide) (by omega) (jo 256))
 refine za (nl (sq (rg (zm ?_))))
 refine z ?_ (h:=fun Z=>ix0 (k:=0) Z cm cZ vc (hlt:=(by omega)))
 refine z ?_ (h:=fun _=>sI bZ xc (by omega))
 refine nl (sq (sq (rg (zk (nl (bkk ?_))))))
 refine bg (fun(i:Nat)=>i≤64) (fun(i:Nat)=>[kP 1 1 0,kI 3 8,kS 4 18 0 ((bR (ao l) i).length),kI 5 ((i:Nat):Int),kO 1 29 1 true [(.slv l.length 1 (isl l):A)],kO 18 3 1 true (pl (isl (bR (ao l) i))),kF 7,kF 14,kF 15,kF 33,kF 38,kF 41,kF 64,kF 94,kF 98,kF 122,kF 126]) (fun(i:Nat)=>64-i) ((0:Nat)) (by exact(Nat.zero_le _:0≤_)) (wkf id (wS<|wS<|wE (e:=(vsl (by rfl) rfl))<|wE (e:=(be (by rfl)))<|wX<|wO (e:=aJ (fun h=>h) (congrArg isl (by rfl)))<|by(iterate 11 refine wF ?_);exact wN)) ?_
 rintro i inv1
 replace inv1:i≤64:=inv1
 have invi:=inv1
 have hpl:=kq (ao l) i
 have hpl1:=kq (ao l) (i+1)
 have hcx:(cN i).x=((i%8:Nat):Int):=rfl
 have hcx0:0≤(cN i).x:=Int.natCast_nonneg _
 have hcy:(cN i).y=((i/8:Nat):Int):=rfl
 have hpw:2^ (i%8)<256:=Nat.pow_lt_pow_right (m:=i%8) (n:=8) (by decide) (by omega)
 have hpw1:2^ (i%8+1)<512:=Nat.pow_lt_pow_right (m:=i%8+1) (n:=9) (by decide) (by omega)
 refine sq (sq (rg (zm (zm (zm ?_)))))
 refine z ?_ (h:=fun Z=>aa Z vt vt (AO (c:=64) (by exact w64 (by omega) (by omega))))
 refine z ?_ (h:=fun Z=>aa Z vt vt (bA rfl))
 refine nl ?_
 refine wi (fun c2=> ?_) (fun c2=> ?_)
 ·skip
  have c2P:=of_decide_eq_true c2
  refine sk (sq (bkk (sq (rg (zm (zm ?_))))))
  refine z ?_ (h:=fun Z=>aa Z vt vt (tw (c:=(((i%8):Nat):Int)) (by decide) (remN (a:=((i:Nat):Int)) (b:=i) (c:=8) rfl)))
  refine za (nl (sq (rg (zm ?_))))
  refine z ?_ (h:=fun Z=>cH Z (gx i (by omega)) (ac (ArgV.v vt) an) (ResV.agg [vI ((cN i).x),vI ((cN i).y)]) rv)
  refine zm ?_
  refine z ?_ (h:=fun Z=>ba Z (by exact rfl))
  refine z ?_ (h:=fun Z=>ba Z (by exact rfl))
  refine z ?_ (h:=fun Z=>aL (h:=7) (cap:=1) (s:=2) (cells:=[aI 0,aI 0]) Z jr rfl rfl (by decide))
  refine z ?_ (h:=fun _=>aE (cells:=[aI ((cN i).x),aI ((cN i).y)]) bJ xt (by exact rfl) (by decide) (by exact ob1 rfl) (by exact Nat.le_of_ble_eq_true rfl) (by exact rfl))
  refine za (nl (sq (rg (zm ?_))))
  refine z ?_ (h:=fun Z=>aa Z vc vt (fw (c:=256) (by omega) (by decide)))
  refine z ?_ (h:=fun Z=>fJ (h:=38) (n:=256) (xs:=isl (List.replicate 256 0)) Z cm uX vt vt rfl rfl (by decide) (by omega) (jo 256))
  refine za (nl (sq (sq (rg (zk (nl (bkk ?_)))))))
  refine bg (fun(k:Nat)=>k≤256) (fun(k:Nat)=>[kP 1 1 0,kI 3 8,kS 4 18 0 ((bR (ao l) i).length),kI 5 ((i:Nat):Int),kI 6 (((i%8):Nat):Int),kP 7 7 0,kS 9 38 0 256,kI 10 ((k:Nat):Int),kO 1 29 1 true [(.slv l.length 1 (isl l):A)],kO 7 70 2 true [aI ((cN i).x),aI ((cN i).y)],kO 18 3 1 true (pl (isl (bR (ao l) i))),kO 38 3 1 true (pl (isl (cT (ao l) i (bR (ao l) i) k))),kF 14,kF 15,kF 33,kF 41,kF 64,kF 94,kF 98,kF 122,kF 126]) (fun(k:Nat)=>256-k) ((0:Nat)) (by exact(Nat.zero_le _:0≤_)) (wkf id (wS<|wS<|wS<|wS<|wS<|wS<|wS<|wE (e:=(be (by rfl)))<|wX<|wX<|wP<|wO (e:=aJ (fun h=>h) (congrArg isl (by rfl)))<|by(iterate 9 refine wF ?_);exact wN)) ?_
  rintro k inv3
  replace inv3:k≤256:=inv3
  have inv4:=inv3
  have hlt:=hJ (ao l) i (bR (ao l) i) k
  have hbt:∀ j,j<256→0≤gI (cT (ao l) i (bR (ao l) i) k) j∧gI (cT (ao l) i (bR (ao l) i) k) j≤1099511627776:=fun j hj=>by
   have:=rT (s:=ao l) (i:=i) (by omega) (m:=k) (k:=j) (by omega) hj
   omega
  refine sq (sq (rg (zm (zm ?_))))
  refine z ?_ (h:=fun Z=>lnS Z cm)
  refine z ?_ (h:=fun Z=>aa Z vt vt (bA rfl))
  refine nl ?_
  refine wi (fun c4=> ?_) (fun c4=> ?_)
  ·skip
   have c4P:=of_decide_eq_true c4
   have hpk:=pi (s:=ao l) (i:=i) (by omega) (k:=k) (by omega)
   have ho1:(k|||2^ (i%8))<256:=ij (by omega) (by omega)
   have ha1:andn k (2^ (i%8))<256:=lM (by omega)
   have hb1:=hbt _ ho1
   have hb2:=hbt _ ha1
   have hbk:=hbt k (by omega)
   refine sk (sq (bkk (sq (rg (zm (zm ?_))))))
   refine z ?_ (h:=fun Z=>ix0 Z cm cZ vt (hlt:=(by omega)))
   refine z ?_ (h:=fun Z=>lI Z bZ (by omega))
   refine za (nl (sq (sq (rg (zm ?_)))))
   refine z ?_ (h:=fun Z=>aa Z vt vc (ct rfl))
   refine nl ?_
   refine wi (fun c5=> ?_) (fun c5=> ?_)
   ·skip
    have c5P:=of_decide_eq_true c5
    refine aU (rg (zm ?_))
    refine z ?_ (h:=fun Z=>aa Z vt vc (rA (by omega) (by omega)))
    refine za (nl ?_)
    exact aA ((k+1)) (by show _≤_;omega) (by show 256-(k+1)<256-k;omega) (wkf id (wS<|wS<|wS<|wS<|wS<|wS<|wS<|wE (e:=(be (by rfl)))<|wX<|wX<|wP<|wO (e:=aJ (fun h=>h) (congrArg isl (by(rw[bt,AY (by assumption)];done))))<|by(iterate 9 refine wF ?_);exact wN))
   ·skip
    have c5P:=of_decide_eq_false c5
    have hN:¬gI (bR (ao l) i) k=0:=of_decide_eq_false c5
    refine sk (sq (rg (zm (zm ?_))))
    refine z ?_ (h:=fun Z=>aa Z vt vt (ml (c:=(((k>>>(i%8)):Nat):Int)) (by omega) (wH (m:=k) (n:=(i%8)) rfl rfl (by omega) rfl)))
    refine z ?_ (h:=fun Z=>aa Z vt vc (io (c:=((((k>>>(i%8))&&&1):Nat):Int)) (pN (m:=(k>>>(i%8))) (n:=1) rfl rfl (by exact Nat.lt_of_le_of_lt (jA _ _) (by first |omega |assumption |(first |omega |assumption |exact fP (by omega) |exact dr ho |(simp only[List.length_set];omega)))) (by omega))))
    refine z ?_ (h:=fun Z=>aa Z vt vc (ct (c:=(k.testBit (i%8))) (mD _ _)))
    refine za (nl (sq (rg (zm (za (nl (sq (sq (rg (zm (nl ?_)))))))))))
    refine wi (b:=(k.testBit (i%8))) (fun c6=> ?_) (fun c6=> ?_)
    ·skip
     have hK:k.testBit (i%8)=true:=c6
     refine rg (zm (zm ?_))
     refine z ?_ (h:=fun Z=>aa Z vc vt (fw (c:=(((2^ (i%8)):Nat):Int)) (by omega) (kA (n:=(i%8)) rfl (by omega))))
     refine z ?_ (h:=fun Z=>aa Z vt vt (nH (c:=(((andn k (2^ (i%8))):Nat):Int)) (Ip (by omega) (by assumption))))
     refine za (nl (sq (sq (rg ?_))))
     refine z ?_ (h:=fun Z=>ab (xs:=[(.slv l.length 1 (isl l):A)]) Z ep rfl (by decide) rfl)
     refine z ?_ (h:=fun Z=>ab (xs:=[vI ((cN i).x),vI ((cN i).y)].map A.val) Z bJ rfl (by decide) rfl)
     refine z ?_ (h:=fun Z=>ag Z (bE l (cN i) (by omega) (by exact fP (by omega))) (ac (ArgV.regv _ _ 1 _) (ac (ArgV.va va) an)) rv)
     refine z ?_ (h:=fun Z=>bn Z vt (bS rfl))
     refine nl ?_
     refine wi (b:=(!(cu l (cN i)))) (fun c7=> ?_) (fun c7=> ?_)
     ·skip
      have c8:(cu l (cN i))=false:=by first |(rw[←Bool.not_eq_true'];exact c7) |simpa using c7
      have hS:(ao l).testBit i=false:=wd ho (by omega) c8
      refine sq (sq (rg (zm ?_)))
      refine z ?_ (h:=fun Z=>bn Z vt (bS (c:=false) (by(rw[c6];rfl))))
      refine nl (wf (sk (aU (rg (zm ?_)))))
      refine z ?_ (h:=fun Z=>aa Z vt vc (rA (by omega) (by omega)))
      refine za (nl ?_)
      exact aA ((k+1)) (by show _≤_;omega) (by show 256-(k+1)<256-k;omega) (wkf id (wS<|wS<|wS<|wS<|wS<|wS<|wS<|wE (e:=(be (by rfl)))<|wX<|wX<|wP<|wO (e:=aJ (fun h=>h) (congrArg isl (by(rw[bt,sk_d hN hS hK];done))))<|by(iterate 9 refine wF ?_);exact wN))
     ·skip
      have c9:(cu l (cN i))=true:=by first |(rw[←Bool.not_eq_false'];exact c7) |simpa using c7
      have hS:(ao l).testBit i=true:=wd ho (by omega) c9
      refine sk (sq (sq (rg (zm (nl ?_)))))
      refine wi (b:=(k.testBit (i%8))) (fun c10=> ?_) (fun c10=> ?_)
      ·skip
       have hK:k.testBit (i%8)=true:=c10
       refine sq (rg (zm (zm (zm (zm ?_)))))
       refine z ?_ (h:=fun Z=>ix0 Z cm cZ vt (hlt:=(by omega)))
       refine z ?_ (h:=fun Z=>lI Z bZ (by omega))
       refine zm ?_
       refine z ?_ (h:=fun Z=>aa Z vt vt (rA (by omega) (by omega)))
       refine z ?_ (h:=fun Z=>ix0 Z cm cZ vt (hlt:=(by omega)))
       refine z ?_ (h:=fun _=>sI bZ xt (by omega))
       refine nl (aU (rg (zm ?_)))
       refine z ?_ (h:=fun Z=>aa Z vt vc (rA (by omega) (by omega)))
       refine za (nl ?_)
       exact aA ((k+1)) (by show _≤_;omega) (by show 256-(k+1)<256-k;omega) (wkf id (wS<|wS<|wS<|wS<|wS<|wS<|wS<|wE (e:=(be (by rfl)))<|wX<|wX<|wP<|wO (e:=aJ (fun h=>h) (congrArg isl (by(rw[bt,sk_b hN hS hK];first |done |rfl))))<|by(iterate 9 refine wF ?_);exact wN))
      ·skip
       have hK:k.testBit (i%8)=false:=c10
       exact absurd (c6.symm.trans c10) (by decide)
    ·skip
     have hK:k.testBit (i%8)=false:=c6
     refine sk (sq (sq (rg ?_)))
     refine z ?_ (h:=fun Z=>ab (xs:=[(.slv l.length 1 (isl l):A)]) Z ep rfl (by decide) rfl)
     refine z ?_ (h:=fun Z=>ab (xs:=[vI ((cN i).x),vI ((cN i).y)].map A.val) Z bJ rfl (by decide) rfl)
     refine z ?_ (h:=fun Z=>ag Z (bE l (cN i) (by omega) (by exact fP (by omega))) (ac (ArgV.regv _ _ 1 _) (ac (ArgV.va va) an)) rv)
     refine z ?_ (h:=fun Z=>bn Z vt (bS rfl))
     refine nl ?_
     refine wi (b:=(!(cu l (cN i)))) (fun c11=> ?_) (fun c11=> ?_)
     ·skip
      have c12:(cu l (cN i))=false:=by first |(rw[←Bool.not_eq_true'];exact c11) |simpa using c11
      have hS:(ao l).testBit i=false:=wd ho (by omega) c12
      refine sq (sq (rg (zm ?_)))
      refine z ?_ (h:=fun Z=>bn Z vt (bS (c:=true) (by(rw[c6];rfl))))
      refine nl (wt (rg (zm (zm (zm (zm ?_))))))
      refine z ?_ (h:=fun Z=>ix0 Z cm cZ vt (hlt:=(by omega)))
      refine z ?_ (h:=fun Z=>lI Z bZ (by omega))
      refine zm ?_
      refine z ?_ (h:=fun Z=>aa Z vt vt (rA (by omega) (by omega)))
      refine z ?_ (h:=fun Z=>ix0 Z cm cZ vt (hlt:=(by omega)))
      refine z ?_ (h:=fun _=>sI bZ xt (by omega))
      refine nl (aU (rg (zm ?_)))
      refine z ?_ (h:=fun Z=>aa Z vt vc (rA (by omega) (by omega)))
      refine za (nl ?_)
      exact aA ((k+1)) (by show _≤_;omega) (by show 256-(k+1)<256-k;omega) (wkf id (wS<|wS<|wS<|wS<|wS<|wS<|wS<|wE (e:=(be (by rfl)))<|wX<|wX<|wP<|wO (e:=aJ (fun h=>h) (congrArg isl (by(rw[bt,sk_a hN hS hK];first |done |rfl))))<|by(iterate 9 refine wF ?_);exact wN))
     ·skip
      have c13:(cu l (cN i))=true:=by first |(rw[←Bool.not_eq_false'];exact c11) |simpa using c11
      have hS:(ao l).testBit i=true:=wd ho (by omega) c13
      refine sk (sq (sq (rg (zm (nl ?_)))))
      refine wi (b:=(k.testBit (i%8))) (fun c14=> ?_) (fun c14=> ?_)
      ·skip
       have hK:k.testBit (i%8)=true:=c14
       exact absurd (c6.symm.trans c14) (by decide)
      ·skip
       have hK:k.testBit (i%8)=false:=c14
       refine sk (sq (rg ?_))
       refine z ?_ (h:=fun Z=>aq (off':=0) Z iJ rfl)
       refine z ?_ (h:=fun Z=>ah (x:= .val (.int .i64 ((cN i).x))) Z bZ (by exact rfl))
       refine z ?_ (h:=fun Z=>aq (off':=1) Z iK rfl)
       refine z ?_ (h:=fun Z=>ah (x:= .val (.int .i64 ((cN i).y))) Z bZ (by exact rfl))
       refine z ?_ (h:=fun Z=>aa Z vt vc (rA (by omega) (by omega)))
       refine z ?_ (h:=fun Z=>bC Z ll vt vt)
       refine z ?_ (h:=fun Z=>aL (h:=14) (cap:=1) (s:=2) (cells:=[aI 0,aI 0]) Z jr rfl rfl (by decide))
       refine z ?_ (h:=fun _=>aE (cells:=[aI ((cN i).x),aI ((cN i).y+1)]) bJ xt (by exact rfl) (by decide) (by exact ob1 rfl) (by exact Nat.le_of_ble_eq_true rfl) (by exact rfl))
       refine nl (sq (sq ?_))
       rcases Bool.eq_false_or_eq_true ((okc ((cN i).x) ((cN i).y+1)))with c15 |c15
       ·skip
        have hO1:=c15
        refine rg ?_
        refine z ?_ (h:=fun Z=>ab (xs:=[vI ((cN i).x),vI ((cN i).y+1)].map A.val) Z bJ rfl (by decide) rfl)
        refine z ?_ (h:=fun Z=>ag Z (bB (⟨(cN i).x,((cN i).y+1)⟩:Cel) ) (ac (ArgV.va va) an) (bi (congrArg Value.bool c15)))
        refine zm ?_
        refine zg ?_ (h:=fun Z=>ae rfl rfl (ab (xs:=[(.slv l.length 1 (isl l):A)]) Z ep rfl (by decide) rfl))
        refine zg ?_ (h:=fun Z=>ae rfl rfl (ab (xs:=[vI ((cN i).x),vI ((cN i).y+1)].map A.val) Z bJ rfl (by decide) rfl))
        refine zg ?_ (h:=fun Z=>ae rfl rfl (ag Z (bE l (⟨(cN i).x,((cN i).y+1)⟩:Cel) (by omega) (by omega)) (ac (ArgV.regv _ _ 1 _) (ac (ArgV.va va) an)) rv))
        refine z ?_ (h:=fun Z=>au Z vt xt)
        refine nl ?_
        refine wi (b:=(cu l (⟨(cN i).x,((cN i).y+1)⟩:Cel))) (fun c16=> ?_) (fun c16=> ?_)
        ·skip
         have hD:dnB (ao l) i=true:=DH ho (by omega) hO1 c16
         refine ch (zdm (zdm (zdm ?_)))
         refine zd ?_ (h:=fun Z=>aa Z vc vt (fw (c:=(((2^ (i%8)):Nat):Int)) (by omega) (kA (n:=(i%8)) rfl (by omega))))
         refine zd ?_ (h:=fun Z=>aa Z vt vt (pu (c:=(((k|||(2^ (i%8))):Nat):Int)) (orI (m:=k) (n:=(2^ (i%8))) rfl rfl (by omega) (by omega))))
         refine zdm (zdm (zdm ?_))
         refine zd ?_ (h:=fun Z=>aa Z vc vt (fw (c:=(((2^ (i%8)):Nat):Int)) (by omega) (kA (n:=(i%8)) rfl (by omega))))
         refine zd ?_ (h:=fun Z=>aa Z vt vt (pu (c:=(((k|||(2^ (i%8))):Nat):Int)) (orI (m:=k) (n:=(2^ (i%8))) rfl rfl (by omega) (by omega))))
         refine zd ?_ (h:=fun Z=>ix0 Z cm cZ vt (hlt:=(by omega)))
         refine zd ?_ (h:=fun Z=>lI Z bZ (by omega))
         refine zdm ?_
         refine zd ?_ (h:=fun Z=>aa Z vt vt (rA (by omega) (by omega)))
         refine zd ?_ (h:=fun Z=>ix0 Z cm cZ vt (hlt:=(by omega)))
         refine zd ?_ (h:=fun _=>sI bZ xt (by omega))
         refine bG (sq (rg ?_))
         refine z ?_ (h:=fun Z=>aq (off':=0) Z iJ rfl)
         refine z ?_ (h:=fun Z=>ah (x:= .val (.int .i64 ((cN i).x))) Z bZ (by exact rfl))
         refine z ?_ (h:=fun Z=>aa Z vt vc (rA (by omega) (by omega)))
         refine z ?_ (h:=fun Z=>aq (off':=1) Z iK rfl)
         refine z ?_ (h:=fun Z=>ah (x:= .val (.int .i64 ((cN i).y))) Z bZ (by exact rfl))
         refine z ?_ (h:=fun Z=>bC Z ll vt vt)
         refine z ?_ (h:=fun Z=>aL (h:=15) (cap:=1) (s:=2) (cells:=[aI 0,aI 0]) Z jr rfl rfl (by decide))
         refine z ?_ (h:=fun _=>aE (cells:=[aI ((cN i).x+1),aI ((cN i).y)]) bJ xt (by exact rfl) (by decide) (by exact ob1 rfl) (by exact Nat.le_of_ble_eq_true rfl) (by exact rfl))
         refine nl (sq ?_)
         rcases Bool.eq_false_or_eq_true ((okc ((cN i).x+1) ((cN i).y)))with c17 |c17
         ·skip
          have hO2:=c17
          rcases Bool.eq_false_or_eq_true ((cu l (⟨((cN i).x+1),(cN i).y⟩:Cel)))with c18 |c18
          ·skip
           have hR:rtB (ao l) i=true:=qB ho (by omega) hO2 c18
           have hr7:=pC hR
           have ho2:(k|||2^ (i%8+1))<256:=ij (by omega) hr7
           have hb3:=hbt _ ho2
           have hb4:=zH (s:=ao l) (i:=i) (k:=k) (by omega) (by omega) hR
           unfold el at hb4
           refine rg ?_
           refine z ?_ (h:=fun Z=>ab (xs:=[vI ((cN i).x+1),vI ((cN i).y)].map A.val) Z bJ rfl (by decide) rfl)
           refine z ?_ (h:=fun Z=>ag Z (bB (⟨((cN i).x+1),(cN i).y⟩:Cel) ) (ac (ArgV.va va) an) (bi (congrArg Value.bool c17)))
           refine zm ?_
           refine zg ?_ (h:=fun Z=>ae rfl rfl (ab (xs:=[(.slv l.length 1 (isl l):A)]) Z ep rfl (by decide) rfl))
           refine zg ?_ (h:=fun Z=>ae rfl rfl (ab (xs:=[vI ((cN i).x+1),vI ((cN i).y)].map A.val) Z bJ rfl (by decide) rfl))
           refine zg ?_ (h:=fun Z=>ae rfl rfl (ag Z (bE l (⟨((cN i).x+1),(cN i).y⟩:Cel) (by omega) (by omega)) (ac (ArgV.regv _ _ 1 _) (ac (ArgV.va va) an)) (bi (congrArg Value.bool c18))))
           refine z ?_ (h:=fun Z=>au Z vt xt)
           refine zm ?_
           refine zg ?_ (h:=fun Z=>ae rfl rfl (mt Z))
           refine zg ?_ (h:=fun Z=>ae rfl rfl (mt Z))
           refine zg ?_ (h:=fun Z=>ae rfl rfl (aa Z vt vc (rA (by omega) (by omega))))
           refine zg ?_ (h:=fun Z=>ae rfl rfl (aa Z vt vt (ml (c:=(((k>>>((i%8)+1)):Nat):Int)) (by omega) (wH (m:=k) (n:=((i%8)+1)) rfl (by rfl) (by omega) rfl))))
           refine zg ?_ (h:=fun Z=>ae rfl rfl (aa Z vt vc (io (c:=((((k>>>((i%8)+1))&&&1):Nat):Int)) (pN (m:=(k>>>((i%8)+1))) (n:=1) rfl rfl (by exact Nat.lt_of_le_of_lt (jA _ _) (by first |omega |assumption |(first |omega |assumption |exact fP (by omega) |exact dr ho |(simp only[List.length_set];omega)))) (by omega)))))
           refine zg ?_ (h:=fun Z=>ae rfl rfl (aa Z vt vc (ct (c:=(!(k.testBit ((i%8)+1)))) (oC _ _))))
           refine z ?_ (h:=fun Z=>au Z vt xt)
           refine nl ?_
           refine wi (b:=(!(k.testBit ((i%8)+1)))) (fun c19=> ?_) (fun c19=> ?_)
           ·skip
            have c20:(k.testBit ((i%8)+1))=false:=by first |(rw[←Bool.not_eq_true'];exact c19) |simpa using c19
            have hK1:k.testBit (i%8+1)=false:=c20
            refine ch (zdm (zdm (zdm ?_)))
            refine zd ?_ (h:=fun Z=>aa Z vt vc (rA (by omega) (by omega)))
            refine zd ?_ (h:=fun Z=>aa Z vc vt (fw (c:=(((2^ ((i%8)+1)):Nat):Int)) (by omega) (kA (n:=((i%8)+1)) (by rfl) (by omega))))
            refine zd ?_ (h:=fun Z=>aa Z vt vt (pu (c:=(((k|||(2^ ((i%8)+1))):Nat):Int)) (orI (m:=k) (n:=(2^ ((i%8)+1))) rfl rfl (by omega) (by omega))))
            refine zdm (zdm (zdm ?_))
            refine zd ?_ (h:=fun Z=>aa Z vt vc (rA (by omega) (by omega)))
            refine zd ?_ (h:=fun Z=>aa Z vc vt (fw (c:=(((2^ ((i%8)+1)):Nat):Int)) (by omega) (kA (n:=((i%8)+1)) (by rfl) (by omega))))
            refine zd ?_ (h:=fun Z=>aa Z vt vt (pu (c:=(((k|||(2^ ((i%8)+1))):Nat):Int)) (orI (m:=k) (n:=(2^ ((i%8)+1))) rfl rfl (by omega) (by omega))))
            refine zd ?_ (h:=fun Z=>ix0 Z cm cZ vt (hlt:=(by omega)))
            refine zd ?_ (h:=fun Z=>lI Z bZ (by(simp only[List.length_set];omega)))
            refine zdm ?_
            refine zd ?_ (h:=fun Z=>aa Z vt vt (rA (by omega) (by omega)))
            refine zd ?_ (h:=fun Z=>ix0 Z cm cZ vt (hlt:=(by omega)))
            refine zd ?_ (h:=fun _=>sI bZ xt (by(simp only[List.length_set];omega)))
            refine bG (rg (zm ?_))
            refine z ?_ (h:=fun Z=>aa Z vt vc (rA (by omega) (by omega)))
            refine za (nl ?_)
            exact aA ((k+1)) (by show _≤_;omega) (by show 256-(k+1)<256-k;omega) (wkf id (wS<|wS<|wS<|wS<|wS<|wS<|wS<|wE (e:=(be (by rfl)))<|wX<|wX<|wP<|wO (e:=aJ (fun h=>h) (congrArg isl (by(rw[bt,lK hN hS hK];simp only[hD,hR,hK1,cQ,Bool.true_and,Bool.false_and,Bool.not_false,Bool.not_true,if_true,if_false,Bool.false_eq_true];first |done |rfl))))<|by(iterate 9 refine wF ?_);exact wN))
           ·skip
            have c21:(k.testBit ((i%8)+1))=true:=by first |(rw[←Bool.not_eq_false'];exact c19) |simpa using c19
            have hK1:k.testBit (i%8+1)=true:=c21
            refine sk (rg (zm ?_))
            refine z ?_ (h:=fun Z=>aa Z vt vc (rA (by omega) (by omega)))
            refine za (nl ?_)
            exact aA ((k+1)) (by show _≤_;omega) (by show 256-(k+1)<256-k;omega) (wkf id (wS<|wS<|wS<|wS<|wS<|wS<|wS<|wE (e:=(be (by rfl)))<|wX<|wX<|wP<|wO (e:=aJ (fun h=>h) (congrArg isl (by(rw[bt,lK hN hS hK];simp only[hD,hR,hK1,cQ,Bool.true_and,Bool.false_and,Bool.not_false,Bool.not_true,if_true,if_false,Bool.false_eq_true];first |done |rfl))))<|by(iterate 9 refine wF ?_);exact wN))
          ·skip
           have hR:rtB (ao l) i=false:=qB ho (by omega) hO2 c18
           refine rg ?_
           refine z ?_ (h:=fun Z=>ab (xs:=[vI ((cN i).x+1),vI ((cN i).y)].map A.val) Z bJ rfl (by decide) rfl)
           refine z ?_ (h:=fun Z=>ag Z (bB (⟨((cN i).x+1),(cN i).y⟩:Cel) ) (ac (ArgV.va va) an) (bi (congrArg Value.bool c17)))
           refine zm ?_
           refine zg ?_ (h:=fun Z=>ae rfl rfl (ab (xs:=[(.slv l.length 1 (isl l):A)]) Z ep rfl (by decide) rfl))
           refine zg ?_ (h:=fun Z=>ae rfl rfl (ab (xs:=[vI ((cN i).x+1),vI ((cN i).y)].map A.val) Z bJ rfl (by decide) rfl))
           refine zg ?_ (h:=fun Z=>ae rfl rfl (ag Z (bE l (⟨((cN i).x+1),(cN i).y⟩:Cel) (by omega) (by omega)) (ac (ArgV.regv _ _ 1 _) (ac (ArgV.va va) an)) (bi (congrArg Value.bool c18))))
           refine z ?_ (h:=fun Z=>au Z vt xt)
           refine zm (zo (zo (zo (zo (zo (zo ?_))))))
           refine z ?_ (h:=fun Z=>ar Z vt xc)
           refine nl (wf (sk (rg (zm ?_))))
           refine z ?_ (h:=fun Z=>aa Z vt vc (rA (by omega) (by omega)))
           refine za (nl ?_)
           exact aA ((k+1)) (by show _≤_;omega) (by show 256-(k+1)<256-k;omega) (wkf id (wS<|wS<|wS<|wS<|wS<|wS<|wS<|wE (e:=(be (by rfl)))<|wX<|wX<|wP<|wO (e:=aJ (fun h=>h) (congrArg isl (by(rw[bt,lK hN hS hK];simp only[hD,hR,cQ,Bool.true_and,Bool.false_and,Bool.not_false,Bool.not_true,if_true,if_false,Bool.false_eq_true];first |done |rfl))))<|by(iterate 9 refine wF ?_);exact wN))
         ·skip
          have hR:rtB (ao l) i=false:=FC (by omega) c17
          refine rg ?_
          refine z ?_ (h:=fun Z=>ab (xs:=[vI ((cN i).x+1),vI ((cN i).y)].map A.val) Z bJ rfl (by decide) rfl)
          refine z ?_ (h:=fun Z=>ag Z (bB (⟨((cN i).x+1),(cN i).y⟩:Cel) ) (ac (ArgV.va va) an) (bi (congrArg Value.bool c17)))
          refine zm (zo (zo (zo ?_)))
          refine z ?_ (h:=fun Z=>ar Z vt xc)
          refine zm (zo (zo (zo (zo (zo (zo ?_))))))
          refine z ?_ (h:=fun Z=>ar Z vt xc)
          refine nl (wf (sk (rg (zm ?_))))
          refine z ?_ (h:=fun Z=>aa Z vt vc (rA (by omega) (by omega)))
          refine za (nl ?_)
          exact aA ((k+1)) (by show _≤_;omega) (by show 256-(k+1)<256-k;omega) (wkf id (wS<|wS<|wS<|wS<|wS<|wS<|wS<|wE (e:=(be (by rfl)))<|wX<|wX<|wP<|wO (e:=aJ (fun h=>h) (congrArg isl (by(rw[bt,lK hN hS hK];simp only[hD,hR,cQ,Bool.true_and,Bool.false_and,Bool.not_false,Bool.not_true,if_true,if_false,Bool.false_eq_true];first |done |rfl))))<|by(iterate 9 refine wF ?_);exact wN))
        ·skip
         have hD:dnB (ao l) i=false:=DH ho (by omega) hO1 c16
         refine sk (sq (rg ?_))
         refine z ?_ (h:=fun Z=>aq (off':=0) Z iJ rfl)
         refine z ?_ (h:=fun Z=>ah (x:= .val (.int .i64 ((cN i).x))) Z bZ (by exact rfl))
         refine z ?_ (h:=fun Z=>aa Z vt vc (rA (by omega) (by omega)))
         refine z ?_ (h:=fun Z=>aq (off':=1) Z iK rfl)
         refine z ?_ (h:=fun Z=>ah (x:= .val (.int .i64 ((cN i).y))) Z bZ (by exact rfl))
         refine z ?_ (h:=fun Z=>bC Z ll vt vt)
         refine z ?_ (h:=fun Z=>aL (h:=15) (cap:=1) (s:=2) (cells:=[aI 0,aI 0]) Z jr rfl rfl (by decide))
         refine z ?_ (h:=fun _=>aE (cells:=[aI ((cN i).x+1),aI ((cN i).y)]) bJ xt (by exact rfl) (by decide) (by exact ob1 rfl) (by exact Nat.le_of_ble_eq_true rfl) (by exact rfl))
         refine nl (sq ?_)
         rcases Bool.eq_false_or_eq_true ((okc ((cN i).x+1) ((cN i).y)))with c22 |c22
         ·skip
          have hO2:=c22
          rcases Bool.eq_false_or_eq_true ((cu l (⟨((cN i).x+1),(cN i).y⟩:Cel)))with c23 |c23
          ·skip
           have hR:rtB (ao l) i=true:=qB ho (by omega) hO2 c23
           have hr7:=pC hR
           have ho2:(k|||2^ (i%8+1))<256:=ij (by omega) hr7
           have hb3:=hbt _ ho2
           have hb4:=zH (s:=ao l) (i:=i) (k:=k) (by omega) (by omega) hR
           unfold el at hb4
           refine rg ?_
           refine z ?_ (h:=fun Z=>ab (xs:=[vI ((cN i).x+1),vI ((cN i).y)].map A.val) Z bJ rfl (by decide) rfl)
           refine z ?_ (h:=fun Z=>ag Z (bB (⟨((cN i).x+1),(cN i).y⟩:Cel) ) (ac (ArgV.va va) an) (bi (congrArg Value.bool c22)))
           refine zm ?_
           refine zg ?_ (h:=fun Z=>ae rfl rfl (ab (xs:=[(.slv l.length 1 (isl l):A)]) Z ep rfl (by decide) rfl))
           refine zg ?_ (h:=fun Z=>ae rfl rfl (ab (xs:=[vI ((cN i).x+1),vI ((cN i).y)].map A.val) Z bJ rfl (by decide) rfl))
           refine zg ?_ (h:=fun Z=>ae rfl rfl (ag Z (bE l (⟨((cN i).x+1),(cN i).y⟩:Cel) (by omega) (by omega)) (ac (ArgV.regv _ _ 1 _) (ac (ArgV.va va) an)) (bi (congrArg Value.bool c23))))
           refine z ?_ (h:=fun Z=>au Z vt xt)
           refine zm ?_
           refine zg ?_ (h:=fun Z=>ae rfl rfl (mt Z))
           refine zg ?_ (h:=fun Z=>ae rfl rfl (mt Z))
           refine zg ?_ (h:=fun Z=>ae rfl rfl (aa Z vt vc (rA (by omega) (by omega))))
           refine zg ?_ (h:=fun Z=>ae rfl rfl (aa Z vt vt (ml (c:=(((k>>>((i%8)+1)):Nat):Int)) (by omega) (wH (m:=k) (n:=((i%8)+1)) rfl (by rfl) (by omega) rfl))))
           refine zg ?_ (h:=fun Z=>ae rfl rfl (aa Z vt vc (io (c:=((((k>>>((i%8)+1))&&&1):Nat):Int)) (pN (m:=(k>>>((i%8)+1))) (n:=1) rfl rfl (by exact Nat.lt_of_le_of_lt (jA _ _) (by first |omega |assumption |(first |omega |assumption |exact fP (by omega) |exact dr ho |(simp only[List.length_set];omega)))) (by omega)))))
           refine zg ?_ (h:=fun Z=>ae rfl rfl (aa Z vt vc (ct (c:=(!(k.testBit ((i%8)+1)))) (oC _ _))))
           refine z ?_ (h:=fun Z=>au Z vt xt)
           refine nl ?_
           refine wi (b:=(!(k.testBit ((i%8)+1)))) (fun c24=> ?_) (fun c24=> ?_)
           ·skip
            have c25:(k.testBit ((i%8)+1))=false:=by first |(rw[←Bool.not_eq_true'];exact c24) |simpa using c24
            have hK1:k.testBit (i%8+1)=false:=c25
            refine ch (zdm (zdm (zdm ?_)))
            refine zd ?_ (h:=fun Z=>aa Z vt vc (rA (by omega) (by omega)))
            refine zd ?_ (h:=fun Z=>aa Z vc vt (fw (c:=(((2^ ((i%8)+1)):Nat):Int)) (by omega) (kA (n:=((i%8)+1)) (by rfl) (by omega))))
            refine zd ?_ (h:=fun Z=>aa Z vt vt (pu (c:=(((k|||(2^ ((i%8)+1))):Nat):Int)) (orI (m:=k) (n:=(2^ ((i%8)+1))) rfl rfl (by omega) (by omega))))
            refine zdm (zdm (zdm ?_))
            refine zd ?_ (h:=fun Z=>aa Z vt vc (rA (by omega) (by omega)))
            refine zd ?_ (h:=fun Z=>aa Z vc vt (fw (c:=(((2^ ((i%8)+1)):Nat):Int)) (by omega) (kA (n:=((i%8)+1)) (by rfl) (by omega))))
            refine zd ?_ (h:=fun Z=>aa Z vt vt (pu (c:=(((k|||(2^ ((i%8)+1))):Nat):Int)) (orI (m:=k) (n:=(2^ ((i%8)+1))) rfl rfl (by omega) (by omega))))
            refine zd ?_ (h:=fun Z=>ix0 Z cm cZ vt (hlt:=(by omega)))
            refine zd ?_ (h:=fun Z=>lI Z bZ (by omega))
            refine zdm ?_
            refine zd ?_ (h:=fun Z=>aa Z vt vt (rA (by omega) (by omega)))
            refine zd ?_ (h:=fun Z=>ix0 Z cm cZ vt (hlt:=(by omega)))
            refine zd ?_ (h:=fun _=>sI bZ xt (by omega))
            refine bG (rg (zm ?_))
            refine z ?_ (h:=fun Z=>aa Z vt vc (rA (by omega) (by omega)))
            refine za (nl ?_)
            exact aA ((k+1)) (by show _≤_;omega) (by show 256-(k+1)<256-k;omega) (wkf id (wS<|wS<|wS<|wS<|wS<|wS<|wS<|wE (e:=(be (by rfl)))<|wX<|wX<|wP<|wO (e:=aJ (fun h=>h) (congrArg isl (by(rw[bt,lK hN hS hK];simp only[hD,hR,hK1,cQ,Bool.true_and,Bool.false_and,Bool.not_false,Bool.not_true,if_true,if_false,Bool.false_eq_true];first |done |rfl))))<|by(iterate 9 refine wF ?_);exact wN))
           ·skip
            have c26:(k.testBit ((i%8)+1))=true:=by first |(rw[←Bool.not_eq_false'];exact c24) |simpa using c24
            have hK1:k.testBit (i%8+1)=true:=c26
            refine sk (rg (zm ?_))
            refine z ?_ (h:=fun Z=>aa Z vt vc (rA (by omega) (by omega)))
            refine za (nl ?_)
            exact aA ((k+1)) (by show _≤_;omega) (by show 256-(k+1)<256-k;omega) (wkf id (wS<|wS<|wS<|wS<|wS<|wS<|wS<|wE (e:=(be (by rfl)))<|wX<|wX<|wP<|wO (e:=aJ (fun h=>h) (congrArg isl (by(rw[bt,lK hN hS hK];simp only[hD,hR,hK1,cQ,Bool.true_and,Bool.false_and,Bool.not_false,Bool.not_true,if_true,if_false,Bool.false_eq_true];first |done |rfl))))<|by(iterate 9 refine wF ?_);exact wN))
          ·skip
           have hR:rtB (ao l) i=false:=qB ho (by omega) hO2 c23
           refine rg ?_
           refine z ?_ (h:=fun Z=>ab (xs:=[vI ((cN i).x+1),vI ((cN i).y)].map A.val) Z bJ rfl (by decide) rfl)
           refine z ?_ (h:=fun Z=>ag Z (bB (⟨((cN i).x+1),(cN i).y⟩:Cel) ) (ac (ArgV.va va) an) (bi (congrArg Value.bool c22)))
           refine zm ?_
           refine zg ?_ (h:=fun Z=>ae rfl rfl (ab (xs:=[(.slv l.length 1 (isl l):A)]) Z ep rfl (by decide) rfl))
           refine zg ?_ (h:=fun Z=>ae rfl rfl (ab (xs:=[vI ((cN i).x+1),vI ((cN i).y)].map A.val) Z bJ rfl (by decide) rfl))
           refine zg ?_ (h:=fun Z=>ae rfl rfl (ag Z (bE l (⟨((cN i).x+1),(cN i).y⟩:Cel) (by omega) (by omega)) (ac (ArgV.regv _ _ 1 _) (ac (ArgV.va va) an)) (bi (congrArg Value.bool c23))))
           refine z ?_ (h:=fun Z=>au Z vt xt)
           refine zm (zo (zo (zo (zo (zo (zo ?_))))))
           refine z ?_ (h:=fun Z=>ar Z vt xc)
           refine nl (wf (sk (rg (zm ?_))))
           refine z ?_ (h:=fun Z=>aa Z vt vc (rA (by omega) (by omega)))
           refine za (nl ?_)
           exact aA ((k+1)) (by show _≤_;omega) (by show 256-(k+1)<256-k;omega) (wkf id (wS<|wS<|wS<|wS<|wS<|wS<|wS<|wE (e:=(be (by rfl)))<|wX<|wX<|wP<|wO (e:=aJ (fun h=>h) (congrArg isl (by(rw[bt,lK hN hS hK];simp only[hD,hR,cQ,Bool.true_and,Bool.false_and,Bool.not_false,Bool.not_true,if_true,if_false,Bool.false_eq_true];first |done |rfl))))<|by(iterate 9 refine wF ?_);exact wN))
         ·skip
          have hR:rtB (ao l) i=false:=FC (by omega) c22
          refine rg ?_
          refine z ?_ (h:=fun Z=>ab (xs:=[vI ((cN i).x+1),vI ((cN i).y)].map A.val) Z bJ rfl (by decide) rfl)
          refine z ?_ (h:=fun Z=>ag Z (bB (⟨((cN i).x+1),(cN i).y⟩:Cel) ) (ac (ArgV.va va) an) (bi (congrArg Value.bool c22)))
          refine zm (zo (zo (zo ?_)))
          refine z ?_ (h:=fun Z=>ar Z vt xc)
          refine zm (zo (zo (zo (zo (zo (zo ?_))))))
          refine z ?_ (h:=fun Z=>ar Z vt xc)
          refine nl (wf (sk (rg (zm ?_))))
          refine z ?_ (h:=fun Z=>aa Z vt vc (rA (by omega) (by omega)))
          refine za (nl ?_)
          exact aA ((k+1)) (by show _≤_;omega) (by show 256-(k+1)<256-k;omega) (wkf id (wS<|wS<|wS<|wS<|wS<|wS<|wS<|wE (e:=(be (by rfl)))<|wX<|wX<|wP<|wO (e:=aJ (fun h=>h) (congrArg isl (by(rw[bt,lK hN hS hK];simp only[hD,hR,cQ,Bool.true_and,Bool.false_and,Bool.not_false,Bool.not_true,if_true,if_false,Bool.false_eq_true];first |done |rfl))))<|by(iterate 9 refine wF ?_);exact wN))
       ·skip
        have hD:dnB (ao l) i=false:=dn_no (by omega) c15
        refine rg ?_
        refine z ?_ (h:=fun Z=>ab (xs:=[vI ((cN i).x),vI ((cN i).y+1)].map A.val) Z bJ rfl (by decide) rfl)
        refine z ?_ (h:=fun Z=>ag Z (bB (⟨(cN i).x,((cN i).y+1)⟩:Cel) ) (ac (ArgV.va va) an) (bi (congrArg Value.bool c15)))
        refine zm (zo (zo (zo ?_)))
        refine z ?_ (h:=fun Z=>ar Z vt xc)
        refine nl (wf (sk (sq (rg ?_))))
        refine z ?_ (h:=fun Z=>aq (off':=0) Z iJ rfl)
        refine z ?_ (h:=fun Z=>ah (x:= .val (.int .i64 ((cN i).x))) Z bZ (by exact rfl))
        refine z ?_ (h:=fun Z=>aa Z vt vc (rA (by omega) (by omega)))
        refine z ?_ (h:=fun Z=>aq (off':=1) Z iK rfl)
        refine z ?_ (h:=fun Z=>ah (x:= .val (.int .i64 ((cN i).y))) Z bZ (by exact rfl))
        refine z ?_ (h:=fun Z=>bC Z ll vt vt)
        refine z ?_ (h:=fun Z=>aL (h:=15) (cap:=1) (s:=2) (cells:=[aI 0,aI 0]) Z jr rfl rfl (by decide))
        refine z ?_ (h:=fun _=>aE (cells:=[aI ((cN i).x+1),aI ((cN i).y)]) bJ xt (by exact rfl) (by decide) (by exact ob1 rfl) (by exact Nat.le_of_ble_eq_true rfl) (by exact rfl))
        refine nl (sq ?_)
        rcases Bool.eq_false_or_eq_true ((okc ((cN i).x+1) ((cN i).y)))with c27 |c27
        ·skip
         have hO2:=c27
         rcases Bool.eq_false_or_eq_true ((cu l (⟨((cN i).x+1),(cN i).y⟩:Cel)))with c28 |c28
         ·skip
          have hR:rtB (ao l) i=true:=qB ho (by omega) hO2 c28
          have hr7:=pC hR
          have ho2:(k|||2^ (i%8+1))<256:=ij (by omega) hr7
          have hb3:=hbt _ ho2
          have hb4:=zH (s:=ao l) (i:=i) (k:=k) (by omega) (by omega) hR
          unfold el at hb4
          refine rg ?_
          refine z ?_ (h:=fun Z=>ab (xs:=[vI ((cN i).x+1),vI ((cN i).y)].map A.val) Z bJ rfl (by decide) rfl)
          refine z ?_ (h:=fun Z=>ag Z (bB (⟨((cN i).x+1),(cN i).y⟩:Cel) ) (ac (ArgV.va va) an) (bi (congrArg Value.bool c27)))
          refine zm ?_
          refine zg ?_ (h:=fun Z=>ae rfl rfl (ab (xs:=[(.slv l.length 1 (isl l):A)]) Z ep rfl (by decide) rfl))
          refine zg ?_ (h:=fun Z=>ae rfl rfl (ab (xs:=[vI ((cN i).x+1),vI ((cN i).y)].map A.val) Z bJ rfl (by decide) rfl))
          refine zg ?_ (h:=fun Z=>ae rfl rfl (ag Z (bE l (⟨((cN i).x+1),(cN i).y⟩:Cel) (by omega) (by omega)) (ac (ArgV.regv _ _ 1 _) (ac (ArgV.va va) an)) (bi (congrArg Value.bool c28))))
          refine z ?_ (h:=fun Z=>au Z vt xt)
          refine zm ?_
          refine zg ?_ (h:=fun Z=>ae rfl rfl (mt Z))
          refine zg ?_ (h:=fun Z=>ae rfl rfl (mt Z))
          refine zg ?_ (h:=fun Z=>ae rfl rfl (aa Z vt vc (rA (by omega) (by omega))))
          refine zg ?_ (h:=fun Z=>ae rfl rfl (aa Z vt vt (ml (c:=(((k>>>((i%8)+1)):Nat):Int)) (by omega) (wH (m:=k) (n:=((i%8)+1)) rfl (by rfl) (by omega) rfl))))
          refine zg ?_ (h:=fun Z=>ae rfl rfl (aa Z vt vc (io (c:=((((k>>>((i%8)+1))&&&1):Nat):Int)) (pN (m:=(k>>>((i%8)+1))) (n:=1) rfl rfl (by exact Nat.lt_of_le_of_lt (jA _ _) (by first |omega |assumption |(first |omega |assumption |exact fP (by omega) |exact dr ho |(simp only[List.length_set];omega)))) (by omega)))))
          refine zg ?_ (h:=fun Z=>ae rfl rfl (aa Z vt vc (ct (c:=(!(k.testBit ((i%8)+1)))) (oC _ _))))
          refine z ?_ (h:=fun Z=>au Z vt xt)
          refine nl ?_
          refine wi (b:=(!(k.testBit ((i%8)+1)))) (fun c29=> ?_) (fun c29=> ?_)
          ·skip
           have c30:(k.testBit ((i%8)+1))=false:=by first |(rw[←Bool.not_eq_true'];exact c29) |simpa using c29
           have hK1:k.testBit (i%8+1)=false:=c30
           refine ch (zdm (zdm (zdm ?_)))
           refine zd ?_ (h:=fun Z=>aa Z vt vc (rA (by omega) (by omega)))
           refine zd ?_ (h:=fun Z=>aa Z vc vt (fw (c:=(((2^ ((i%8)+1)):Nat):Int)) (by omega) (kA (n:=((i%8)+1)) (by rfl) (by omega))))
           refine zd ?_ (h:=fun Z=>aa Z vt vt (pu (c:=(((k|||(2^ ((i%8)+1))):Nat):Int)) (orI (m:=k) (n:=(2^ ((i%8)+1))) rfl rfl (by omega) (by omega))))
           refine zdm (zdm (zdm ?_))
           refine zd ?_ (h:=fun Z=>aa Z vt vc (rA (by omega) (by omega)))
           refine zd ?_ (h:=fun Z=>aa Z vc vt (fw (c:=(((2^ ((i%8)+1)):Nat):Int)) (by omega) (kA (n:=((i%8)+1)) (by rfl) (by omega))))
           refine zd ?_ (h:=fun Z=>aa Z vt vt (pu (c:=(((k|||(2^ ((i%8)+1))):Nat):Int)) (orI (m:=k) (n:=(2^ ((i%8)+1))) rfl rfl (by omega) (by omega))))
           refine zd ?_ (h:=fun Z=>ix0 Z cm cZ vt (hlt:=(by omega)))
           refine zd ?_ (h:=fun Z=>lI Z bZ (by omega))
           refine zdm ?_
           refine zd ?_ (h:=fun Z=>aa Z vt vt (rA (by omega) (by omega)))
           refine zd ?_ (h:=fun Z=>ix0 Z cm cZ vt (hlt:=(by omega)))
           refine zd ?_ (h:=fun _=>sI bZ xt (by omega))
           refine bG (rg (zm ?_))
           refine z ?_ (h:=fun Z=>aa Z vt vc (rA (by omega) (by omega)))
           refine za (nl ?_)
           exact aA ((k+1)) (by show _≤_;omega) (by show 256-(k+1)<256-k;omega) (wkf id (wS<|wS<|wS<|wS<|wS<|wS<|wS<|wE (e:=(be (by rfl)))<|wX<|wX<|wP<|wO (e:=aJ (fun h=>h) (congrArg isl (by(rw[bt,lK hN hS hK];simp only[hD,hR,hK1,cQ,Bool.true_and,Bool.false_and,Bool.not_false,Bool.not_true,if_true,if_false,Bool.false_eq_true];first |done |rfl))))<|by(iterate 9 refine wF ?_);exact wN))
          ·skip
           have c31:(k.testBit ((i%8)+1))=true:=by first |(rw[←Bool.not_eq_false'];exact c29) |simpa using c29
           have hK1:k.testBit (i%8+1)=true:=c31
           refine sk (rg (zm ?_))
           refine z ?_ (h:=fun Z=>aa Z vt vc (rA (by omega) (by omega)))
           refine za (nl ?_)
           exact aA ((k+1)) (by show _≤_;omega) (by show 256-(k+1)<256-k;omega) (wkf id (wS<|wS<|wS<|wS<|wS<|wS<|wS<|wE (e:=(be (by rfl)))<|wX<|wX<|wP<|wO (e:=aJ (fun h=>h) (congrArg isl (by(rw[bt,lK hN hS hK];simp only[hD,hR,hK1,cQ,Bool.true_and,Bool.false_and,Bool.not_false,Bool.not_true,if_true,if_false,Bool.false_eq_true];first |done |rfl))))<|by(iterate 9 refine wF ?_);exact wN))
         ·skip
          have hR:rtB (ao l) i=false:=qB ho (by omega) hO2 c28
          refine rg ?_
          refine z ?_ (h:=fun Z=>ab (xs:=[vI ((cN i).x+1),vI ((cN i).y)].map A.val) Z bJ rfl (by decide) rfl)
          refine z ?_ (h:=fun Z=>ag Z (bB (⟨((cN i).x+1),(cN i).y⟩:Cel) ) (ac (ArgV.va va) an) (bi (congrArg Value.bool c27)))
          refine zm ?_
          refine zg ?_ (h:=fun Z=>ae rfl rfl (ab (xs:=[(.slv l.length 1 (isl l):A)]) Z ep rfl (by decide) rfl))
          refine zg ?_ (h:=fun Z=>ae rfl rfl (ab (xs:=[vI ((cN i).x+1),vI ((cN i).y)].map A.val) Z bJ rfl (by decide) rfl))
          refine zg ?_ (h:=fun Z=>ae rfl rfl (ag Z (bE l (⟨((cN i).x+1),(cN i).y⟩:Cel) (by omega) (by omega)) (ac (ArgV.regv _ _ 1 _) (ac (ArgV.va va) an)) (bi (congrArg Value.bool c28))))
          refine z ?_ (h:=fun Z=>au Z vt xt)
          refine zm (zo (zo (zo (zo (zo (zo ?_))))))
          refine z ?_ (h:=fun Z=>ar Z vt xc)
          refine nl (wf (sk (rg (zm ?_))))
          refine z ?_ (h:=fun Z=>aa Z vt vc (rA (by omega) (by omega)))
          refine za (nl ?_)
          exact aA ((k+1)) (by show _≤_;omega) (by show 256-(k+1)<256-k;omega) (wkf id (wS<|wS<|wS<|wS<|wS<|wS<|wS<|wE (e:=(be (by rfl)))<|wX<|wX<|wP<|wO (e:=aJ (fun h=>h) (congrArg isl (by(rw[bt,lK hN hS hK];simp only[hD,hR,cQ,Bool.true_and,Bool.false_and,Bool.not_false,Bool.not_true,if_true,if_false,Bool.false_eq_true];first |done |rfl))))<|by(iterate 9 refine wF ?_);exact wN))
        ·skip
         have hR:rtB (ao l) i=false:=FC (by omega) c27
         refine rg ?_
         refine z ?_ (h:=fun Z=>ab (xs:=[vI ((cN i).x+1),vI ((cN i).y)].map A.val) Z bJ rfl (by decide) rfl)
         refine z ?_ (h:=fun Z=>ag Z (bB (⟨((cN i).x+1),(cN i).y⟩:Cel) ) (ac (ArgV.va va) an) (bi (congrArg Value.bool c27)))
         refine zm (zo (zo (zo ?_)))
         refine z ?_ (h:=fun Z=>ar Z vt xc)
         refine zm (zo (zo (zo (zo (zo (zo ?_))))))
         refine z ?_ (h:=fun Z=>ar Z vt xc)
         refine nl (wf (sk (rg (zm ?_))))
         refine z ?_ (h:=fun Z=>aa Z vt vc (rA (by omega) (by omega)))
         refine za (nl ?_)
         exact aA ((k+1)) (by show _≤_;omega) (by show 256-(k+1)<256-k;omega) (wkf id (wS<|wS<|wS<|wS<|wS<|wS<|wS<|wE (e:=(be (by rfl)))<|wX<|wX<|wP<|wO (e:=aJ (fun h=>h) (congrArg isl (by(rw[bt,lK hN hS hK];simp only[hD,hR,cQ,Bool.true_and,Bool.false_and,Bool.not_false,Bool.not_true,if_true,if_false,Bool.false_eq_true];first |done |rfl))))<|by(iterate 9 refine wF ?_);exact wN))
  ·skip
   have c4P:=of_decide_eq_false c4
   refine aU (rg (zm (za (nl (rg (zm ?_))))))
   refine z ?_ (h:=fun Z=>aa Z vt vc (rA (by omega) (by omega)))
   refine za (nl ?_)
   exact aA ((i+1)) (by show _≤_;omega) (by show 64-(i+1)<64-i;omega) (wkf (aX [(18,38)]) (wS<|wS<|wE (e:=(vsl (by omega) rfl))<|wE (e:=(be (by rfl)))<|wX<|wO (e:=aJ (fun h=>h) (congrArg isl (by(have e:k=256:=by omega);subst e;rfl)))<|by(iterate 11 refine wF ?_);exact wN))
 ·skip
  have c2P:=of_decide_eq_false c2
  refine aU (sq (rg (zm ?_)))
  refine z ?_ (h:=fun Z=>ix0 (k:=0) Z cm cZ vc (hlt:=(by omega)))
  refine z ?_ (h:=fun Z=>lI (k:=0) Z bZ (by omega))
  refine za (nl (aC ?_))
  exact VRes.tmp _ _ _ (by exact rfl) (ce (congrArg (Value.int .i64) (by(have e:i=64:=by omega);subst e;exact sZ (dr ho))))
end Cl
end Go.Proofs.YtgmkkfdnmdohlaaGreatDoor
