/- Walks. -/
import Derived.Test.YtonlghbbdcddoaaGreatC10
import Derived.Test.YtonlghbbdcddoaaGreatC1
import Derived.Test.YtonlghbbdcddoaaGreatClB
set_option maxHeartbeats 4000000
set_option maxRecDepth 100000
namespace Go.Proofs.YtonlghbbdcddoaaGreat
namespace Cl
open Go.ChangeShapes Go.WideShapes Go.ChangeAt Go.RowKit
theorem mV:∀ (a b:Int),Tryz.prog.built 67 [(0,.int .i64 a),(1,.int .i64 b)]=some ([.int .i64 a,.int .i64 b]:List Value).toArray:=fun _ _=>rfl
theorem kt:ce Tryz.prog 67 0=some 0:=by kernel_rfl
theorem ku:ce Tryz.prog 67 1=some 1:=by kernel_rfl
theorem dX:(Tryz.prog.info? 3).map (·.size)=some 1:=by kernel_rfl
theorem fB:TI Tryz.prog 26 true 1:=⟨⟨_,Tryz.underlying26,rfl⟩,by kernel_rfl⟩
theorem cC:TI Tryz.prog 3 false 1:=⟨⟨_,Tryz.underlying3,rfl⟩,by kernel_rfl⟩
theorem cd:TI Tryz.prog 67 true 2:=⟨⟨_,Tryz.underlying67,rfl⟩,by kernel_rfl⟩
theorem cT:Tryz.prog.underlying 24=some (.slice 3):=Tryz.underlying24
theorem xE:ZI Tryz.prog 3 (.int .i64 0) 1 8:=by unfold ZI;kernel_rfl
theorem lc:ZI Tryz.prog 67 (.agg #[.int .i64 0,.int .i64 0]) 2 16:=by unfold ZI;kernel_rfl
theorem mq (l:List Int) (ho:aU l=true):Fn Tryz.prog 50 [.agg [(.slv l.length 1 (isl l):A)]] [.val (.int .i64 (((cnt (ag l)):Nat):Int))]:=by
 have hpl0:=md (ag l) 0
 have hr0:(List.replicate 256 (0:Int)).length=256:=List.length_replicate
 have hrl:=(fD ho).1
 refine aN (N:=157) Tryz.func50 rfl (by kernel_rfl) rfl (Nat.le_of_ble_eq_true rfl) [1,7,14,15,18,33,38,41,64,94,98,122,126] (dB rfl) (fun W=> ?_)
 show Wp _ _ _ [kV 0 (V.b (.agg [(.slv l.length 1 (isl l):A)])),kF 1,kF 7,kF 14,kF 15,kF 18,kF 33,kF 38,kF 41,kF 64,kF 94,kF 98,kF 122,kF 126]
 refine sq (rg ?_)
 refine z ?_ (h:=fun Z=>aM (h:=1) Z xt (by exact ob1 rfl))
 refine zk (nl (sq (rg (zk (nl (sq (rg (zm ?_))))))))
 refine z ?_ (h:=fun Z=>ab Z vc vt (gX (c:=256) (by omega) (by decide)))
 refine z ?_ (h:=fun Z=>fW (h:=18) (n:=256) (xs:=isl (List.replicate 256 0)) Z cT xE vt vt rfl rfl (by decide) (by omega) (ji 256))
 refine za (nl (sq (rg (zm ?_))))
 refine z ?_ (h:=fun Z=>ix0 (k:=0) Z cT dX vc (hlt:=(by omega)))
 refine z ?_ (h:=fun _=>sI cC xc (by omega))
 refine nl (sq (sq (rg (zk (nl (bkk ?_))))))
 refine bf (fun(i:Nat)=>i≤64) (fun(i:Nat)=>[kP 1 1 0,kI 3 8,kS 4 18 0 ((cm (ag l) i).length),kI 5 ((i:Nat):Int),kO 1 26 1 true [(.slv l.length 1 (isl l):A)],kO 18 3 1 true (pl (isl (cm (ag l) i))),kF 7,kF 14,kF 15,kF 33,kF 38,kF 41,kF 64,kF 94,kF 98,kF 122,kF 126]) (fun(i:Nat)=>64-i) ((0:Nat)) (by exact(Nat.zero_le _:0≤_)) (wkf id (wS<|wS<|wE (e:=(vsl (by rfl) rfl))<|wE (e:=(aO (by rfl)))<|wX<|wO (e:=aG (fun h=>h) (congrArg isl (by rfl)))<|by(iterate 11 refine wF ?_);exact wN)) ?_
 rintro i inv1
 replace inv1:i≤64:=inv1
 have invi:=inv1
 have hpl:=md (ag l) i
 have hpl1:=md (ag l) (i+1)
 have hcx:(cN i).x=((i%8:Nat):Int):=rfl
 have hcx0:0≤(cN i).x:=Int.natCast_nonneg _
 have hcy:(cN i).y=((i/8:Nat):Int):=rfl
 have hpw:2^ (i%8)<256:=Nat.pow_lt_pow_right (m:=i%8) (n:=8) (by decide) (by omega)
 have hpw1:2^ (i%8+1)<512:=Nat.pow_lt_pow_right (m:=i%8+1) (n:=9) (by decide) (by omega)
 refine sq (sq (rg (zm (zm (zm ?_)))))
 refine z ?_ (h:=fun Z=>ab Z vt vt (DI (c:=64) (by exact w64 (by omega) (by omega))))
 refine z ?_ (h:=fun Z=>ab Z vt vt (bP rfl))
 refine nl ?_
 refine wi (fun c2=> ?_) (fun c2=> ?_)
 ·skip
  have c2P:=of_decide_eq_true c2
  refine sk (sq (bkk (sq (rg (zm (zm ?_))))))
  refine z ?_ (h:=fun Z=>ab Z vt vt (rh (c:=(((i%8):Nat):Int)) (by decide) (remN (a:=((i:Nat):Int)) (b:=i) (c:=8) rfl)))
  refine za (nl (sq (rg (zm ?_))))
  refine z ?_ (h:=fun Z=>cS Z (iW i (by omega)) (ac (ArgV.v vt) an) (ResV.agg [vI ((cN i).x),vI ((cN i).y)]) rv)
  refine zm ?_
  refine z ?_ (h:=fun Z=>az Z (by exact rfl))
  refine z ?_ (h:=fun Z=>az Z (by exact rfl))
  refine z ?_ (h:=fun Z=>aF (h:=7) (cap:=1) (s:=2) (cells:=[aI 0,aI 0]) Z lc rfl rfl (by decide))
  refine z ?_ (h:=fun _=>aw (cells:=[aI ((cN i).x),aI ((cN i).y)]) cd xt (by exact rfl) (by decide) (by exact ob1 rfl) (by exact Nat.le_of_ble_eq_true rfl) (by exact rfl))
  refine za (nl (sq (rg (zm ?_))))
  refine z ?_ (h:=fun Z=>ab Z vc vt (gX (c:=256) (by omega) (by decide)))
  refine z ?_ (h:=fun Z=>fW (h:=38) (n:=256) (xs:=isl (List.replicate 256 0)) Z cT xE vt vt rfl rfl (by decide) (by omega) (ji 256))
  refine za (nl (sq (sq (rg (zk (nl (bkk ?_)))))))
  refine bf (fun(k:Nat)=>k≤256) (fun(k:Nat)=>[kP 1 1 0,kI 3 8,kS 4 18 0 ((cm (ag l) i).length),kI 5 ((i:Nat):Int),kI 6 (((i%8):Nat):Int),kP 7 7 0,kS 9 38 0 256,kI 10 ((k:Nat):Int),kO 1 26 1 true [(.slv l.length 1 (isl l):A)],kO 7 67 2 true [aI ((cN i).x),aI ((cN i).y)],kO 18 3 1 true (pl (isl (cm (ag l) i))),kO 38 3 1 true (pl (isl (dS (ag l) i (cm (ag l) i) k))),kF 14,kF 15,kF 33,kF 41,kF 64,kF 94,kF 98,kF 122,kF 126]) (fun(k:Nat)=>256-k) ((0:Nat)) (by exact(Nat.zero_le _:0≤_)) (wkf id (wS<|wS<|wS<|wS<|wS<|wS<|wS<|wE (e:=(aO (by rfl)))<|wX<|wX<|wP<|wO (e:=aG (fun h=>h) (congrArg isl (by rfl)))<|by(iterate 9 refine wF ?_);exact wN)) ?_
  rintro k inv3
  replace inv3:k≤256:=inv3
  have inv4:=inv3
  have hlt:=jC (ag l) i (cm (ag l) i) k
  have hbt:∀ j,j<256→0≤gI (dS (ag l) i (cm (ag l) i) k) j∧gI (dS (ag l) i (cm (ag l) i) k) j≤1099511627776:=fun j hj=>by
   have:=un (s:=ag l) (i:=i) (by omega) (m:=k) (k:=j) (by omega) hj
   omega
  refine sq (sq (rg (zm (zm ?_))))
  refine z ?_ (h:=fun Z=>lnS Z cT)
  refine z ?_ (h:=fun Z=>ab Z vt vt (bP rfl))
  refine nl ?_
  refine wi (fun c4=> ?_) (fun c4=> ?_)
  ·skip
   have c4P:=of_decide_eq_true c4
   have hpk:=qZ (s:=ag l) (i:=i) (by omega) (k:=k) (by omega)
   have ho1:(k|||2^ (i%8))<256:=jV (by omega) (by omega)
   have ha1:andn k (2^ (i%8))<256:=nJ (by omega)
   have hb1:=hbt _ ho1
   have hb2:=hbt _ ha1
   have hbk:=hbt k (by omega)
   refine sk (sq (bkk (sq (rg (zm (zm ?_))))))
   refine z ?_ (h:=fun Z=>ix0 Z cT dX vt (hlt:=(by omega)))
   refine z ?_ (h:=fun Z=>lI Z cC (by omega))
   refine za (nl (sq (sq (rg (zm ?_)))))
   refine z ?_ (h:=fun Z=>ab Z vt vc (cW rfl))
   refine nl ?_
   refine wi (fun c5=> ?_) (fun c5=> ?_)
   ·skip
    have c5P:=of_decide_eq_true c5
    refine aJ (rg (zm ?_))
    refine z ?_ (h:=fun Z=>ab Z vt vc (rA (by omega) (by omega)))
    refine za (nl ?_)
    exact ar ((k+1)) (by show _≤_;omega) (by show 256-(k+1)<256-k;omega) (wkf id (wS<|wS<|wS<|wS<|wS<|wS<|wS<|wE (e:=(aO (by rfl)))<|wX<|wX<|wP<|wO (e:=aG (fun h=>h) (congrArg isl (by(rw[bT,DS (by assumption)];done))))<|by(iterate 9 refine wF ?_);exact wN))
   ·skip
    have c5P:=of_decide_eq_false c5
    have hN:¬gI (cm (ag l) i) k=0:=of_decide_eq_false c5
    refine sk (sq (rg (zm (zm ?_))))
    refine z ?_ (h:=fun Z=>ab Z vt vt (oj (c:=(((k>>>(i%8)):Nat):Int)) (by omega) (zf (m:=k) (n:=(i%8)) rfl rfl (by omega) rfl)))
    refine z ?_ (h:=fun Z=>ab Z vt vc (iK (c:=((((k>>>(i%8))&&&1):Nat):Int)) (tF (m:=(k>>>(i%8))) (n:=1) rfl rfl (by exact Nat.lt_of_le_of_lt (nk _ _) (by first |omega |assumption |(first |omega |assumption |exact fk (by omega) |exact bb ho |(simp only[List.length_set];omega)))) (by omega))))
    refine z ?_ (h:=fun Z=>ab Z vt vc (cW (c:=(k.testBit (i%8))) (oE _ _)))
    refine za (nl (sq (rg (zm (za (nl (sq (sq (rg (zm (nl ?_)))))))))))
    refine wi (b:=(k.testBit (i%8))) (fun c6=> ?_) (fun c6=> ?_)
    ·skip
     have hK:k.testBit (i%8)=true:=c6
     refine rg (zm (zm ?_))
     refine z ?_ (h:=fun Z=>ab Z vc vt (gX (c:=(((2^ (i%8)):Nat):Int)) (by omega) (nt (n:=(i%8)) rfl (by omega))))
     refine z ?_ (h:=fun Z=>ab Z vt vt (ns (c:=(((andn k (2^ (i%8))):Nat):Int)) (Lk (by omega) (by assumption))))
     refine za (nl (sq (sq (rg ?_))))
     refine z ?_ (h:=fun Z=>aa (xs:=[(.slv l.length 1 (isl l):A)]) Z fB rfl (by decide) rfl)
     refine z ?_ (h:=fun Z=>aa (xs:=[vI ((cN i).x),vI ((cN i).y)].map A.val) Z cd rfl (by decide) rfl)
     refine z ?_ (h:=fun Z=>ah Z (bZ l (cN i) (by omega) (by exact fk (by omega))) (ac (ArgV.regv _ _ 1 _) (ac (ArgV.va va) an)) rv)
     refine z ?_ (h:=fun Z=>aK Z vt (bE rfl))
     refine nl ?_
     refine wi (b:=(!(dm l (cN i)))) (fun c7=> ?_) (fun c7=> ?_)
     ·skip
      have c8:(dm l (cN i))=false:=by first |(rw[←Bool.not_eq_true'];exact c7) |simpa using c7
      have hS:(ag l).testBit i=false:=yt ho (by omega) c8
      refine sq (sq (rg (zm ?_)))
      refine z ?_ (h:=fun Z=>aK Z vt (bE (c:=false) (by(rw[c6];rfl))))
      refine nl (wf (sk (aJ (rg (zm ?_)))))
      refine z ?_ (h:=fun Z=>ab Z vt vc (rA (by omega) (by omega)))
      refine za (nl ?_)
      exact ar ((k+1)) (by show _≤_;omega) (by show 256-(k+1)<256-k;omega) (wkf id (wS<|wS<|wS<|wS<|wS<|wS<|wS<|wE (e:=(aO (by rfl)))<|wX<|wX<|wP<|wO (e:=aG (fun h=>h) (congrArg isl (by(rw[bT,sk_d hN hS hK];done))))<|by(iterate 9 refine wF ?_);exact wN))
     ·skip
      have c9:(dm l (cN i))=true:=by first |(rw[←Bool.not_eq_false'];exact c7) |simpa using c7
      have hS:(ag l).testBit i=true:=yt ho (by omega) c9
      refine sk (sq (sq (rg (zm (nl ?_)))))
      refine wi (b:=(k.testBit (i%8))) (fun c10=> ?_) (fun c10=> ?_)
      ·skip
       have hK:k.testBit (i%8)=true:=c10
       refine sq (rg (zm (zm (zm (zm ?_)))))
       refine z ?_ (h:=fun Z=>ix0 Z cT dX vt (hlt:=(by omega)))
       refine z ?_ (h:=fun Z=>lI Z cC (by omega))
       refine zm ?_
       refine z ?_ (h:=fun Z=>ab Z vt vt (rA (by omega) (by omega)))
       refine z ?_ (h:=fun Z=>ix0 Z cT dX vt (hlt:=(by omega)))
       refine z ?_ (h:=fun _=>sI cC xt (by omega))
       refine nl (aJ (rg (zm ?_)))
       refine z ?_ (h:=fun Z=>ab Z vt vc (rA (by omega) (by omega)))
       refine za (nl ?_)
       exact ar ((k+1)) (by show _≤_;omega) (by show 256-(k+1)<256-k;omega) (wkf id (wS<|wS<|wS<|wS<|wS<|wS<|wS<|wE (e:=(aO (by rfl)))<|wX<|wX<|wP<|wO (e:=aG (fun h=>h) (congrArg isl (by(rw[bT,sk_b hN hS hK];first |done |rfl))))<|by(iterate 9 refine wF ?_);exact wN))
      ·skip
       have hK:k.testBit (i%8)=false:=c10
       exact absurd (c6.symm.trans c10) (by decide)
    ·skip
     have hK:k.testBit (i%8)=false:=c6
     refine sk (sq (sq (rg ?_)))
     refine z ?_ (h:=fun Z=>aa (xs:=[(.slv l.length 1 (isl l):A)]) Z fB rfl (by decide) rfl)
     refine z ?_ (h:=fun Z=>aa (xs:=[vI ((cN i).x),vI ((cN i).y)].map A.val) Z cd rfl (by decide) rfl)
     refine z ?_ (h:=fun Z=>ah Z (bZ l (cN i) (by omega) (by exact fk (by omega))) (ac (ArgV.regv _ _ 1 _) (ac (ArgV.va va) an)) rv)
     refine z ?_ (h:=fun Z=>aK Z vt (bE rfl))
     refine nl ?_
     refine wi (b:=(!(dm l (cN i)))) (fun c11=> ?_) (fun c11=> ?_)
     ·skip
      have c12:(dm l (cN i))=false:=by first |(rw[←Bool.not_eq_true'];exact c11) |simpa using c11
      have hS:(ag l).testBit i=false:=yt ho (by omega) c12
      refine sq (sq (rg (zm ?_)))
      refine z ?_ (h:=fun Z=>aK Z vt (bE (c:=true) (by(rw[c6];rfl))))
      refine nl (wt (rg (zm (zm (zm (zm ?_))))))
      refine z ?_ (h:=fun Z=>ix0 Z cT dX vt (hlt:=(by omega)))
      refine z ?_ (h:=fun Z=>lI Z cC (by omega))
      refine zm ?_
      refine z ?_ (h:=fun Z=>ab Z vt vt (rA (by omega) (by omega)))
      refine z ?_ (h:=fun Z=>ix0 Z cT dX vt (hlt:=(by omega)))
      refine z ?_ (h:=fun _=>sI cC xt (by omega))
      refine nl (aJ (rg (zm ?_)))
      refine z ?_ (h:=fun Z=>ab Z vt vc (rA (by omega) (by omega)))
      refine za (nl ?_)
      exact ar ((k+1)) (by show _≤_;omega) (by show 256-(k+1)<256-k;omega) (wkf id (wS<|wS<|wS<|wS<|wS<|wS<|wS<|wE (e:=(aO (by rfl)))<|wX<|wX<|wP<|wO (e:=aG (fun h=>h) (congrArg isl (by(rw[bT,sk_a hN hS hK];first |done |rfl))))<|by(iterate 9 refine wF ?_);exact wN))
     ·skip
      have c13:(dm l (cN i))=true:=by first |(rw[←Bool.not_eq_false'];exact c11) |simpa using c11
      have hS:(ag l).testBit i=true:=yt ho (by omega) c13
      refine sk (sq (sq (rg (zm (nl ?_)))))
      refine wi (b:=(k.testBit (i%8))) (fun c14=> ?_) (fun c14=> ?_)
      ·skip
       have hK:k.testBit (i%8)=true:=c14
       exact absurd (c6.symm.trans c14) (by decide)
      ·skip
       have hK:k.testBit (i%8)=false:=c14
       refine sk (sq (rg ?_))
       refine z ?_ (h:=fun Z=>ak (off':=0) Z kt rfl)
       refine z ?_ (h:=fun Z=>ai (x:= .val (.int .i64 ((cN i).x))) Z cC (by exact rfl))
       refine z ?_ (h:=fun Z=>ak (off':=1) Z ku rfl)
       refine z ?_ (h:=fun Z=>ai (x:= .val (.int .i64 ((cN i).y))) Z cC (by exact rfl))
       refine z ?_ (h:=fun Z=>ab Z vt vc (rA (by omega) (by omega)))
       refine z ?_ (h:=fun Z=>bC Z mV vt vt)
       refine z ?_ (h:=fun Z=>aF (h:=14) (cap:=1) (s:=2) (cells:=[aI 0,aI 0]) Z lc rfl rfl (by decide))
       refine z ?_ (h:=fun _=>aw (cells:=[aI ((cN i).x),aI ((cN i).y+1)]) cd xt (by exact rfl) (by decide) (by exact ob1 rfl) (by exact Nat.le_of_ble_eq_true rfl) (by exact rfl))
       refine nl (sq (sq ?_))
       rcases Bool.eq_false_or_eq_true ((okc ((cN i).x) ((cN i).y+1)))with c15 |c15
       ·skip
        have hO1:=c15
        refine rg ?_
        refine z ?_ (h:=fun Z=>aa (xs:=[vI ((cN i).x),vI ((cN i).y+1)].map A.val) Z cd rfl (by decide) rfl)
        refine z ?_ (h:=fun Z=>ah Z (bW (⟨(cN i).x,((cN i).y+1)⟩:Cel) ) (ac (ArgV.va va) an) (aH (congrArg Value.bool c15)))
        refine zm ?_
        refine zg ?_ (h:=fun Z=>ae rfl rfl (aa (xs:=[(.slv l.length 1 (isl l):A)]) Z fB rfl (by decide) rfl))
        refine zg ?_ (h:=fun Z=>ae rfl rfl (aa (xs:=[vI ((cN i).x),vI ((cN i).y+1)].map A.val) Z cd rfl (by decide) rfl))
        refine zg ?_ (h:=fun Z=>ae rfl rfl (ah Z (bZ l (⟨(cN i).x,((cN i).y+1)⟩:Cel) (by omega) (by omega)) (ac (ArgV.regv _ _ 1 _) (ac (ArgV.va va) an)) rv))
        refine z ?_ (h:=fun Z=>al Z vt xt)
        refine nl ?_
        refine wi (b:=(dm l (⟨(cN i).x,((cN i).y+1)⟩:Cel))) (fun c16=> ?_) (fun c16=> ?_)
        ·skip
         have hD:dnB (ag l) i=true:=GE ho (by omega) hO1 c16
         refine cg (zdm (zdm (zdm ?_)))
         refine zd ?_ (h:=fun Z=>ab Z vc vt (gX (c:=(((2^ (i%8)):Nat):Int)) (by omega) (nt (n:=(i%8)) rfl (by omega))))
         refine zd ?_ (h:=fun Z=>ab Z vt vt (qk (c:=(((k|||(2^ (i%8))):Nat):Int)) (orI (m:=k) (n:=(2^ (i%8))) rfl rfl (by omega) (by omega))))
         refine zdm (zdm (zdm ?_))
         refine zd ?_ (h:=fun Z=>ab Z vc vt (gX (c:=(((2^ (i%8)):Nat):Int)) (by omega) (nt (n:=(i%8)) rfl (by omega))))
         refine zd ?_ (h:=fun Z=>ab Z vt vt (qk (c:=(((k|||(2^ (i%8))):Nat):Int)) (orI (m:=k) (n:=(2^ (i%8))) rfl rfl (by omega) (by omega))))
         refine zd ?_ (h:=fun Z=>ix0 Z cT dX vt (hlt:=(by omega)))
         refine zd ?_ (h:=fun Z=>lI Z cC (by omega))
         refine zdm ?_
         refine zd ?_ (h:=fun Z=>ab Z vt vt (rA (by omega) (by omega)))
         refine zd ?_ (h:=fun Z=>ix0 Z cT dX vt (hlt:=(by omega)))
         refine zd ?_ (h:=fun _=>sI cC xt (by omega))
         refine bJ (sq (rg ?_))
         refine z ?_ (h:=fun Z=>ak (off':=0) Z kt rfl)
         refine z ?_ (h:=fun Z=>ai (x:= .val (.int .i64 ((cN i).x))) Z cC (by exact rfl))
         refine z ?_ (h:=fun Z=>ab Z vt vc (rA (by omega) (by omega)))
         refine z ?_ (h:=fun Z=>ak (off':=1) Z ku rfl)
         refine z ?_ (h:=fun Z=>ai (x:= .val (.int .i64 ((cN i).y))) Z cC (by exact rfl))
         refine z ?_ (h:=fun Z=>bC Z mV vt vt)
         refine z ?_ (h:=fun Z=>aF (h:=15) (cap:=1) (s:=2) (cells:=[aI 0,aI 0]) Z lc rfl rfl (by decide))
         refine z ?_ (h:=fun _=>aw (cells:=[aI ((cN i).x+1),aI ((cN i).y)]) cd xt (by exact rfl) (by decide) (by exact ob1 rfl) (by exact Nat.le_of_ble_eq_true rfl) (by exact rfl))
         refine nl (sq ?_)
         rcases Bool.eq_false_or_eq_true ((okc ((cN i).x+1) ((cN i).y)))with c17 |c17
         ·skip
          have hO2:=c17
          rcases Bool.eq_false_or_eq_true ((dm l (⟨((cN i).x+1),(cN i).y⟩:Cel)))with c18 |c18
          ·skip
           have hR:rtB (ag l) i=true:=sG ho (by omega) hO2 c18
           have hr7:=rl hR
           have ho2:(k|||2^ (i%8+1))<256:=jV (by omega) hr7
           have hb3:=hbt _ ho2
           have hb4:=CF (s:=ag l) (i:=i) (k:=k) (by omega) (by omega) hR
           unfold fv at hb4
           refine rg ?_
           refine z ?_ (h:=fun Z=>aa (xs:=[vI ((cN i).x+1),vI ((cN i).y)].map A.val) Z cd rfl (by decide) rfl)
           refine z ?_ (h:=fun Z=>ah Z (bW (⟨((cN i).x+1),(cN i).y⟩:Cel) ) (ac (ArgV.va va) an) (aH (congrArg Value.bool c17)))
           refine zm ?_
           refine zg ?_ (h:=fun Z=>ae rfl rfl (aa (xs:=[(.slv l.length 1 (isl l):A)]) Z fB rfl (by decide) rfl))
           refine zg ?_ (h:=fun Z=>ae rfl rfl (aa (xs:=[vI ((cN i).x+1),vI ((cN i).y)].map A.val) Z cd rfl (by decide) rfl))
           refine zg ?_ (h:=fun Z=>ae rfl rfl (ah Z (bZ l (⟨((cN i).x+1),(cN i).y⟩:Cel) (by omega) (by omega)) (ac (ArgV.regv _ _ 1 _) (ac (ArgV.va va) an)) (aH (congrArg Value.bool c18))))
           refine z ?_ (h:=fun Z=>al Z vt xt)
           refine zm ?_
           refine zg ?_ (h:=fun Z=>ae rfl rfl (mt Z))
           refine zg ?_ (h:=fun Z=>ae rfl rfl (mt Z))
           refine zg ?_ (h:=fun Z=>ae rfl rfl (ab Z vt vc (rA (by omega) (by omega))))
           refine zg ?_ (h:=fun Z=>ae rfl rfl (ab Z vt vt (oj (c:=(((k>>>((i%8)+1)):Nat):Int)) (by omega) (zf (m:=k) (n:=((i%8)+1)) rfl (by rfl) (by omega) rfl))))
           refine zg ?_ (h:=fun Z=>ae rfl rfl (ab Z vt vc (iK (c:=((((k>>>((i%8)+1))&&&1):Nat):Int)) (tF (m:=(k>>>((i%8)+1))) (n:=1) rfl rfl (by exact Nat.lt_of_le_of_lt (nk _ _) (by first |omega |assumption |(first |omega |assumption |exact fk (by omega) |exact bb ho |(simp only[List.length_set];omega)))) (by omega)))))
           refine zg ?_ (h:=fun Z=>ae rfl rfl (ab Z vt vc (cW (c:=(!(k.testBit ((i%8)+1)))) (qw _ _))))
           refine z ?_ (h:=fun Z=>al Z vt xt)
           refine nl ?_
           refine wi (b:=(!(k.testBit ((i%8)+1)))) (fun c19=> ?_) (fun c19=> ?_)
           ·skip
            have c20:(k.testBit ((i%8)+1))=false:=by first |(rw[←Bool.not_eq_true'];exact c19) |simpa using c19
            have hK1:k.testBit (i%8+1)=false:=c20
            refine cg (zdm (zdm (zdm ?_)))
            refine zd ?_ (h:=fun Z=>ab Z vt vc (rA (by omega) (by omega)))
            refine zd ?_ (h:=fun Z=>ab Z vc vt (gX (c:=(((2^ ((i%8)+1)):Nat):Int)) (by omega) (nt (n:=((i%8)+1)) (by rfl) (by omega))))
            refine zd ?_ (h:=fun Z=>ab Z vt vt (qk (c:=(((k|||(2^ ((i%8)+1))):Nat):Int)) (orI (m:=k) (n:=(2^ ((i%8)+1))) rfl rfl (by omega) (by omega))))
            refine zdm (zdm (zdm ?_))
            refine zd ?_ (h:=fun Z=>ab Z vt vc (rA (by omega) (by omega)))
            refine zd ?_ (h:=fun Z=>ab Z vc vt (gX (c:=(((2^ ((i%8)+1)):Nat):Int)) (by omega) (nt (n:=((i%8)+1)) (by rfl) (by omega))))
            refine zd ?_ (h:=fun Z=>ab Z vt vt (qk (c:=(((k|||(2^ ((i%8)+1))):Nat):Int)) (orI (m:=k) (n:=(2^ ((i%8)+1))) rfl rfl (by omega) (by omega))))
            refine zd ?_ (h:=fun Z=>ix0 Z cT dX vt (hlt:=(by omega)))
            refine zd ?_ (h:=fun Z=>lI Z cC (by(simp only[List.length_set];omega)))
            refine zdm ?_
            refine zd ?_ (h:=fun Z=>ab Z vt vt (rA (by omega) (by omega)))
            refine zd ?_ (h:=fun Z=>ix0 Z cT dX vt (hlt:=(by omega)))
            refine zd ?_ (h:=fun _=>sI cC xt (by(simp only[List.length_set];omega)))
            refine bJ (rg (zm ?_))
            refine z ?_ (h:=fun Z=>ab Z vt vc (rA (by omega) (by omega)))
            refine za (nl ?_)
            exact ar ((k+1)) (by show _≤_;omega) (by show 256-(k+1)<256-k;omega) (wkf id (wS<|wS<|wS<|wS<|wS<|wS<|wS<|wE (e:=(aO (by rfl)))<|wX<|wX<|wP<|wO (e:=aG (fun h=>h) (congrArg isl (by(rw[bT,nC hN hS hK];simp only[hD,hR,hK1,dR,Bool.true_and,Bool.false_and,Bool.not_false,Bool.not_true,if_true,if_false,Bool.false_eq_true];first |done |rfl))))<|by(iterate 9 refine wF ?_);exact wN))
           ·skip
            have c21:(k.testBit ((i%8)+1))=true:=by first |(rw[←Bool.not_eq_false'];exact c19) |simpa using c19
            have hK1:k.testBit (i%8+1)=true:=c21
            refine sk (rg (zm ?_))
            refine z ?_ (h:=fun Z=>ab Z vt vc (rA (by omega) (by omega)))
            refine za (nl ?_)
            exact ar ((k+1)) (by show _≤_;omega) (by show 256-(k+1)<256-k;omega) (wkf id (wS<|wS<|wS<|wS<|wS<|wS<|wS<|wE (e:=(aO (by rfl)))<|wX<|wX<|wP<|wO (e:=aG (fun h=>h) (congrArg isl (by(rw[bT,nC hN hS hK];simp only[hD,hR,hK1,dR,Bool.true_and,Bool.false_and,Bool.not_false,Bool.not_true,if_true,if_false,Bool.false_eq_true];first |done |rfl))))<|by(iterate 9 refine wF ?_);exact wN))
          ·skip
           have hR:rtB (ag l) i=false:=sG ho (by omega) hO2 c18
           refine rg ?_
           refine z ?_ (h:=fun Z=>aa (xs:=[vI ((cN i).x+1),vI ((cN i).y)].map A.val) Z cd rfl (by decide) rfl)
           refine z ?_ (h:=fun Z=>ah Z (bW (⟨((cN i).x+1),(cN i).y⟩:Cel) ) (ac (ArgV.va va) an) (aH (congrArg Value.bool c17)))
           refine zm ?_
           refine zg ?_ (h:=fun Z=>ae rfl rfl (aa (xs:=[(.slv l.length 1 (isl l):A)]) Z fB rfl (by decide) rfl))
           refine zg ?_ (h:=fun Z=>ae rfl rfl (aa (xs:=[vI ((cN i).x+1),vI ((cN i).y)].map A.val) Z cd rfl (by decide) rfl))
           refine zg ?_ (h:=fun Z=>ae rfl rfl (ah Z (bZ l (⟨((cN i).x+1),(cN i).y⟩:Cel) (by omega) (by omega)) (ac (ArgV.regv _ _ 1 _) (ac (ArgV.va va) an)) (aH (congrArg Value.bool c18))))
           refine z ?_ (h:=fun Z=>al Z vt xt)
           refine zm (zo (zo (zo (zo (zo (zo ?_))))))
           refine z ?_ (h:=fun Z=>ao Z vt xc)
           refine nl (wf (sk (rg (zm ?_))))
           refine z ?_ (h:=fun Z=>ab Z vt vc (rA (by omega) (by omega)))
           refine za (nl ?_)
           exact ar ((k+1)) (by show _≤_;omega) (by show 256-(k+1)<256-k;omega) (wkf id (wS<|wS<|wS<|wS<|wS<|wS<|wS<|wE (e:=(aO (by rfl)))<|wX<|wX<|wP<|wO (e:=aG (fun h=>h) (congrArg isl (by(rw[bT,nC hN hS hK];simp only[hD,hR,dR,Bool.true_and,Bool.false_and,Bool.not_false,Bool.not_true,if_true,if_false,Bool.false_eq_true];first |done |rfl))))<|by(iterate 9 refine wF ?_);exact wN))
         ·skip
          have hR:rtB (ag l) i=false:=Iw (by omega) c17
          refine rg ?_
          refine z ?_ (h:=fun Z=>aa (xs:=[vI ((cN i).x+1),vI ((cN i).y)].map A.val) Z cd rfl (by decide) rfl)
          refine z ?_ (h:=fun Z=>ah Z (bW (⟨((cN i).x+1),(cN i).y⟩:Cel) ) (ac (ArgV.va va) an) (aH (congrArg Value.bool c17)))
          refine zm (zo (zo (zo ?_)))
          refine z ?_ (h:=fun Z=>ao Z vt xc)
          refine zm (zo (zo (zo (zo (zo (zo ?_))))))
          refine z ?_ (h:=fun Z=>ao Z vt xc)
          refine nl (wf (sk (rg (zm ?_))))
          refine z ?_ (h:=fun Z=>ab Z vt vc (rA (by omega) (by omega)))
          refine za (nl ?_)
          exact ar ((k+1)) (by show _≤_;omega) (by show 256-(k+1)<256-k;omega) (wkf id (wS<|wS<|wS<|wS<|wS<|wS<|wS<|wE (e:=(aO (by rfl)))<|wX<|wX<|wP<|wO (e:=aG (fun h=>h) (congrArg isl (by(rw[bT,nC hN hS hK];simp only[hD,hR,dR,Bool.true_and,Bool.false_and,Bool.not_false,Bool.not_true,if_true,if_false,Bool.false_eq_true];first |done |rfl))))<|by(iterate 9 refine wF ?_);exact wN))
        ·skip
         have hD:dnB (ag l) i=false:=GE ho (by omega) hO1 c16
         refine sk (sq (rg ?_))
         refine z ?_ (h:=fun Z=>ak (off':=0) Z kt rfl)
         refine z ?_ (h:=fun Z=>ai (x:= .val (.int .i64 ((cN i).x))) Z cC (by exact rfl))
         refine z ?_ (h:=fun Z=>ab Z vt vc (rA (by omega) (by omega)))
         refine z ?_ (h:=fun Z=>ak (off':=1) Z ku rfl)
         refine z ?_ (h:=fun Z=>ai (x:= .val (.int .i64 ((cN i).y))) Z cC (by exact rfl))
         refine z ?_ (h:=fun Z=>bC Z mV vt vt)
         refine z ?_ (h:=fun Z=>aF (h:=15) (cap:=1) (s:=2) (cells:=[aI 0,aI 0]) Z lc rfl rfl (by decide))
         refine z ?_ (h:=fun _=>aw (cells:=[aI ((cN i).x+1),aI ((cN i).y)]) cd xt (by exact rfl) (by decide) (by exact ob1 rfl) (by exact Nat.le_of_ble_eq_true rfl) (by exact rfl))
         refine nl (sq ?_)
         rcases Bool.eq_false_or_eq_true ((okc ((cN i).x+1) ((cN i).y)))with c22 |c22
         ·skip
          have hO2:=c22
          rcases Bool.eq_false_or_eq_true ((dm l (⟨((cN i).x+1),(cN i).y⟩:Cel)))with c23 |c23
          ·skip
           have hR:rtB (ag l) i=true:=sG ho (by omega) hO2 c23
           have hr7:=rl hR
           have ho2:(k|||2^ (i%8+1))<256:=jV (by omega) hr7
           have hb3:=hbt _ ho2
           have hb4:=CF (s:=ag l) (i:=i) (k:=k) (by omega) (by omega) hR
           unfold fv at hb4
           refine rg ?_
           refine z ?_ (h:=fun Z=>aa (xs:=[vI ((cN i).x+1),vI ((cN i).y)].map A.val) Z cd rfl (by decide) rfl)
           refine z ?_ (h:=fun Z=>ah Z (bW (⟨((cN i).x+1),(cN i).y⟩:Cel) ) (ac (ArgV.va va) an) (aH (congrArg Value.bool c22)))
           refine zm ?_
           refine zg ?_ (h:=fun Z=>ae rfl rfl (aa (xs:=[(.slv l.length 1 (isl l):A)]) Z fB rfl (by decide) rfl))
           refine zg ?_ (h:=fun Z=>ae rfl rfl (aa (xs:=[vI ((cN i).x+1),vI ((cN i).y)].map A.val) Z cd rfl (by decide) rfl))
           refine zg ?_ (h:=fun Z=>ae rfl rfl (ah Z (bZ l (⟨((cN i).x+1),(cN i).y⟩:Cel) (by omega) (by omega)) (ac (ArgV.regv _ _ 1 _) (ac (ArgV.va va) an)) (aH (congrArg Value.bool c23))))
           refine z ?_ (h:=fun Z=>al Z vt xt)
           refine zm ?_
           refine zg ?_ (h:=fun Z=>ae rfl rfl (mt Z))
           refine zg ?_ (h:=fun Z=>ae rfl rfl (mt Z))
           refine zg ?_ (h:=fun Z=>ae rfl rfl (ab Z vt vc (rA (by omega) (by omega))))
           refine zg ?_ (h:=fun Z=>ae rfl rfl (ab Z vt vt (oj (c:=(((k>>>((i%8)+1)):Nat):Int)) (by omega) (zf (m:=k) (n:=((i%8)+1)) rfl (by rfl) (by omega) rfl))))
           refine zg ?_ (h:=fun Z=>ae rfl rfl (ab Z vt vc (iK (c:=((((k>>>((i%8)+1))&&&1):Nat):Int)) (tF (m:=(k>>>((i%8)+1))) (n:=1) rfl rfl (by exact Nat.lt_of_le_of_lt (nk _ _) (by first |omega |assumption |(first |omega |assumption |exact fk (by omega) |exact bb ho |(simp only[List.length_set];omega)))) (by omega)))))
           refine zg ?_ (h:=fun Z=>ae rfl rfl (ab Z vt vc (cW (c:=(!(k.testBit ((i%8)+1)))) (qw _ _))))
           refine z ?_ (h:=fun Z=>al Z vt xt)
           refine nl ?_
           refine wi (b:=(!(k.testBit ((i%8)+1)))) (fun c24=> ?_) (fun c24=> ?_)
           ·skip
            have c25:(k.testBit ((i%8)+1))=false:=by first |(rw[←Bool.not_eq_true'];exact c24) |simpa using c24
            have hK1:k.testBit (i%8+1)=false:=c25
            refine cg (zdm (zdm (zdm ?_)))
            refine zd ?_ (h:=fun Z=>ab Z vt vc (rA (by omega) (by omega)))
            refine zd ?_ (h:=fun Z=>ab Z vc vt (gX (c:=(((2^ ((i%8)+1)):Nat):Int)) (by omega) (nt (n:=((i%8)+1)) (by rfl) (by omega))))
            refine zd ?_ (h:=fun Z=>ab Z vt vt (qk (c:=(((k|||(2^ ((i%8)+1))):Nat):Int)) (orI (m:=k) (n:=(2^ ((i%8)+1))) rfl rfl (by omega) (by omega))))
            refine zdm (zdm (zdm ?_))
            refine zd ?_ (h:=fun Z=>ab Z vt vc (rA (by omega) (by omega)))
            refine zd ?_ (h:=fun Z=>ab Z vc vt (gX (c:=(((2^ ((i%8)+1)):Nat):Int)) (by omega) (nt (n:=((i%8)+1)) (by rfl) (by omega))))
            refine zd ?_ (h:=fun Z=>ab Z vt vt (qk (c:=(((k|||(2^ ((i%8)+1))):Nat):Int)) (orI (m:=k) (n:=(2^ ((i%8)+1))) rfl rfl (by omega) (by omega))))
            refine zd ?_ (h:=fun Z=>ix0 Z cT dX vt (hlt:=(by omega)))
            refine zd ?_ (h:=fun Z=>lI Z cC (by omega))
            refine zdm ?_
            refine zd ?_ (h:=fun Z=>ab Z vt vt (rA (by omega) (by omega)))
            refine zd ?_ (h:=fun Z=>ix0 Z cT dX vt (hlt:=(by omega)))
            refine zd ?_ (h:=fun _=>sI cC xt (by omega))
            refine bJ (rg (zm ?_))
            refine z ?_ (h:=fun Z=>ab Z vt vc (rA (by omega) (by omega)))
            refine za (nl ?_)
            exact ar ((k+1)) (by show _≤_;omega) (by show 256-(k+1)<256-k;omega) (wkf id (wS<|wS<|wS<|wS<|wS<|wS<|wS<|wE (e:=(aO (by rfl)))<|wX<|wX<|wP<|wO (e:=aG (fun h=>h) (congrArg isl (by(rw[bT,nC hN hS hK];simp only[hD,hR,hK1,dR,Bool.true_and,Bool.false_and,Bool.not_false,Bool.not_true,if_true,if_false,Bool.false_eq_true];first |done |rfl))))<|by(iterate 9 refine wF ?_);exact wN))
           ·skip
            have c26:(k.testBit ((i%8)+1))=true:=by first |(rw[←Bool.not_eq_false'];exact c24) |simpa using c24
            have hK1:k.testBit (i%8+1)=true:=c26
            refine sk (rg (zm ?_))
            refine z ?_ (h:=fun Z=>ab Z vt vc (rA (by omega) (by omega)))
            refine za (nl ?_)
            exact ar ((k+1)) (by show _≤_;omega) (by show 256-(k+1)<256-k;omega) (wkf id (wS<|wS<|wS<|wS<|wS<|wS<|wS<|wE (e:=(aO (by rfl)))<|wX<|wX<|wP<|wO (e:=aG (fun h=>h) (congrArg isl (by(rw[bT,nC hN hS hK];simp only[hD,hR,hK1,dR,Bool.true_and,Bool.false_and,Bool.not_false,Bool.not_true,if_true,if_false,Bool.false_eq_true];first |done |rfl))))<|by(iterate 9 refine wF ?_);exact wN))
          ·skip
           have hR:rtB (ag l) i=false:=sG ho (by omega) hO2 c23
           refine rg ?_
           refine z ?_ (h:=fun Z=>aa (xs:=[vI ((cN i).x+1),vI ((cN i).y)].map A.val) Z cd rfl (by decide) rfl)
           refine z ?_ (h:=fun Z=>ah Z (bW (⟨((cN i).x+1),(cN i).y⟩:Cel) ) (ac (ArgV.va va) an) (aH (congrArg Value.bool c22)))
           refine zm ?_
           refine zg ?_ (h:=fun Z=>ae rfl rfl (aa (xs:=[(.slv l.length 1 (isl l):A)]) Z fB rfl (by decide) rfl))
           refine zg ?_ (h:=fun Z=>ae rfl rfl (aa (xs:=[vI ((cN i).x+1),vI ((cN i).y)].map A.val) Z cd rfl (by decide) rfl))
           refine zg ?_ (h:=fun Z=>ae rfl rfl (ah Z (bZ l (⟨((cN i).x+1),(cN i).y⟩:Cel) (by omega) (by omega)) (ac (ArgV.regv _ _ 1 _) (ac (ArgV.va va) an)) (aH (congrArg Value.bool c23))))
           refine z ?_ (h:=fun Z=>al Z vt xt)
           refine zm (zo (zo (zo (zo (zo (zo ?_))))))
           refine z ?_ (h:=fun Z=>ao Z vt xc)
           refine nl (wf (sk (rg (zm ?_))))
           refine z ?_ (h:=fun Z=>ab Z vt vc (rA (by omega) (by omega)))
           refine za (nl ?_)
           exact ar ((k+1)) (by show _≤_;omega) (by show 256-(k+1)<256-k;omega) (wkf id (wS<|wS<|wS<|wS<|wS<|wS<|wS<|wE (e:=(aO (by rfl)))<|wX<|wX<|wP<|wO (e:=aG (fun h=>h) (congrArg isl (by(rw[bT,nC hN hS hK];simp only[hD,hR,dR,Bool.true_and,Bool.false_and,Bool.not_false,Bool.not_true,if_true,if_false,Bool.false_eq_true];first |done |rfl))))<|by(iterate 9 refine wF ?_);exact wN))
         ·skip
          have hR:rtB (ag l) i=false:=Iw (by omega) c22
          refine rg ?_
          refine z ?_ (h:=fun Z=>aa (xs:=[vI ((cN i).x+1),vI ((cN i).y)].map A.val) Z cd rfl (by decide) rfl)
          refine z ?_ (h:=fun Z=>ah Z (bW (⟨((cN i).x+1),(cN i).y⟩:Cel) ) (ac (ArgV.va va) an) (aH (congrArg Value.bool c22)))
          refine zm (zo (zo (zo ?_)))
          refine z ?_ (h:=fun Z=>ao Z vt xc)
          refine zm (zo (zo (zo (zo (zo (zo ?_))))))
          refine z ?_ (h:=fun Z=>ao Z vt xc)
          refine nl (wf (sk (rg (zm ?_))))
          refine z ?_ (h:=fun Z=>ab Z vt vc (rA (by omega) (by omega)))
          refine za (nl ?_)
          exact ar ((k+1)) (by show _≤_;omega) (by show 256-(k+1)<256-k;omega) (wkf id (wS<|wS<|wS<|wS<|wS<|wS<|wS<|wE (e:=(aO (by rfl)))<|wX<|wX<|wP<|wO (e:=aG (fun h=>h) (congrArg isl (by(rw[bT,nC hN hS hK];simp only[hD,hR,dR,Bool.true_and,Bool.false_and,Bool.not_false,Bool.not_true,if_true,if_false,Bool.false_eq_true];first |done |rfl))))<|by(iterate 9 refine wF ?_);exact wN))
       ·skip
        have hD:dnB (ag l) i=false:=dn_no (by omega) c15
        refine rg ?_
        refine z ?_ (h:=fun Z=>aa (xs:=[vI ((cN i).x),vI ((cN i).y+1)].map A.val) Z cd rfl (by decide) rfl)
        refine z ?_ (h:=fun Z=>ah Z (bW (⟨(cN i).x,((cN i).y+1)⟩:Cel) ) (ac (ArgV.va va) an) (aH (congrArg Value.bool c15)))
        refine zm (zo (zo (zo ?_)))
        refine z ?_ (h:=fun Z=>ao Z vt xc)
        refine nl (wf (sk (sq (rg ?_))))
        refine z ?_ (h:=fun Z=>ak (off':=0) Z kt rfl)
        refine z ?_ (h:=fun Z=>ai (x:= .val (.int .i64 ((cN i).x))) Z cC (by exact rfl))
        refine z ?_ (h:=fun Z=>ab Z vt vc (rA (by omega) (by omega)))
        refine z ?_ (h:=fun Z=>ak (off':=1) Z ku rfl)
        refine z ?_ (h:=fun Z=>ai (x:= .val (.int .i64 ((cN i).y))) Z cC (by exact rfl))
        refine z ?_ (h:=fun Z=>bC Z mV vt vt)
        refine z ?_ (h:=fun Z=>aF (h:=15) (cap:=1) (s:=2) (cells:=[aI 0,aI 0]) Z lc rfl rfl (by decide))
        refine z ?_ (h:=fun _=>aw (cells:=[aI ((cN i).x+1),aI ((cN i).y)]) cd xt (by exact rfl) (by decide) (by exact ob1 rfl) (by exact Nat.le_of_ble_eq_true rfl) (by exact rfl))
        refine nl (sq ?_)
        rcases Bool.eq_false_or_eq_true ((okc ((cN i).x+1) ((cN i).y)))with c27 |c27
        ·skip
         have hO2:=c27
         rcases Bool.eq_false_or_eq_true ((dm l (⟨((cN i).x+1),(cN i).y⟩:Cel)))with c28 |c28
         ·skip
          have hR:rtB (ag l) i=true:=sG ho (by omega) hO2 c28
          have hr7:=rl hR
          have ho2:(k|||2^ (i%8+1))<256:=jV (by omega) hr7
          have hb3:=hbt _ ho2
          have hb4:=CF (s:=ag l) (i:=i) (k:=k) (by omega) (by omega) hR
          unfold fv at hb4
          refine rg ?_
          refine z ?_ (h:=fun Z=>aa (xs:=[vI ((cN i).x+1),vI ((cN i).y)].map A.val) Z cd rfl (by decide) rfl)
          refine z ?_ (h:=fun Z=>ah Z (bW (⟨((cN i).x+1),(cN i).y⟩:Cel) ) (ac (ArgV.va va) an) (aH (congrArg Value.bool c27)))
          refine zm ?_
          refine zg ?_ (h:=fun Z=>ae rfl rfl (aa (xs:=[(.slv l.length 1 (isl l):A)]) Z fB rfl (by decide) rfl))
          refine zg ?_ (h:=fun Z=>ae rfl rfl (aa (xs:=[vI ((cN i).x+1),vI ((cN i).y)].map A.val) Z cd rfl (by decide) rfl))
          refine zg ?_ (h:=fun Z=>ae rfl rfl (ah Z (bZ l (⟨((cN i).x+1),(cN i).y⟩:Cel) (by omega) (by omega)) (ac (ArgV.regv _ _ 1 _) (ac (ArgV.va va) an)) (aH (congrArg Value.bool c28))))
          refine z ?_ (h:=fun Z=>al Z vt xt)
          refine zm ?_
          refine zg ?_ (h:=fun Z=>ae rfl rfl (mt Z))
          refine zg ?_ (h:=fun Z=>ae rfl rfl (mt Z))
          refine zg ?_ (h:=fun Z=>ae rfl rfl (ab Z vt vc (rA (by omega) (by omega))))
          refine zg ?_ (h:=fun Z=>ae rfl rfl (ab Z vt vt (oj (c:=(((k>>>((i%8)+1)):Nat):Int)) (by omega) (zf (m:=k) (n:=((i%8)+1)) rfl (by rfl) (by omega) rfl))))
          refine zg ?_ (h:=fun Z=>ae rfl rfl (ab Z vt vc (iK (c:=((((k>>>((i%8)+1))&&&1):Nat):Int)) (tF (m:=(k>>>((i%8)+1))) (n:=1) rfl rfl (by exact Nat.lt_of_le_of_lt (nk _ _) (by first |omega |assumption |(first |omega |assumption |exact fk (by omega) |exact bb ho |(simp only[List.length_set];omega)))) (by omega)))))
          refine zg ?_ (h:=fun Z=>ae rfl rfl (ab Z vt vc (cW (c:=(!(k.testBit ((i%8)+1)))) (qw _ _))))
          refine z ?_ (h:=fun Z=>al Z vt xt)
          refine nl ?_
          refine wi (b:=(!(k.testBit ((i%8)+1)))) (fun c29=> ?_) (fun c29=> ?_)
          ·skip
           have c30:(k.testBit ((i%8)+1))=false:=by first |(rw[←Bool.not_eq_true'];exact c29) |simpa using c29
           have hK1:k.testBit (i%8+1)=false:=c30
           refine cg (zdm (zdm (zdm ?_)))
           refine zd ?_ (h:=fun Z=>ab Z vt vc (rA (by omega) (by omega)))
           refine zd ?_ (h:=fun Z=>ab Z vc vt (gX (c:=(((2^ ((i%8)+1)):Nat):Int)) (by omega) (nt (n:=((i%8)+1)) (by rfl) (by omega))))
           refine zd ?_ (h:=fun Z=>ab Z vt vt (qk (c:=(((k|||(2^ ((i%8)+1))):Nat):Int)) (orI (m:=k) (n:=(2^ ((i%8)+1))) rfl rfl (by omega) (by omega))))
           refine zdm (zdm (zdm ?_))
           refine zd ?_ (h:=fun Z=>ab Z vt vc (rA (by omega) (by omega)))
           refine zd ?_ (h:=fun Z=>ab Z vc vt (gX (c:=(((2^ ((i%8)+1)):Nat):Int)) (by omega) (nt (n:=((i%8)+1)) (by rfl) (by omega))))
           refine zd ?_ (h:=fun Z=>ab Z vt vt (qk (c:=(((k|||(2^ ((i%8)+1))):Nat):Int)) (orI (m:=k) (n:=(2^ ((i%8)+1))) rfl rfl (by omega) (by omega))))
           refine zd ?_ (h:=fun Z=>ix0 Z cT dX vt (hlt:=(by omega)))
           refine zd ?_ (h:=fun Z=>lI Z cC (by omega))
           refine zdm ?_
           refine zd ?_ (h:=fun Z=>ab Z vt vt (rA (by omega) (by omega)))
           refine zd ?_ (h:=fun Z=>ix0 Z cT dX vt (hlt:=(by omega)))
           refine zd ?_ (h:=fun _=>sI cC xt (by omega))
           refine bJ (rg (zm ?_))
           refine z ?_ (h:=fun Z=>ab Z vt vc (rA (by omega) (by omega)))
           refine za (nl ?_)
           exact ar ((k+1)) (by show _≤_;omega) (by show 256-(k+1)<256-k;omega) (wkf id (wS<|wS<|wS<|wS<|wS<|wS<|wS<|wE (e:=(aO (by rfl)))<|wX<|wX<|wP<|wO (e:=aG (fun h=>h) (congrArg isl (by(rw[bT,nC hN hS hK];simp only[hD,hR,hK1,dR,Bool.true_and,Bool.false_and,Bool.not_false,Bool.not_true,if_true,if_false,Bool.false_eq_true];first |done |rfl))))<|by(iterate 9 refine wF ?_);exact wN))
          ·skip
           have c31:(k.testBit ((i%8)+1))=true:=by first |(rw[←Bool.not_eq_false'];exact c29) |simpa using c29
           have hK1:k.testBit (i%8+1)=true:=c31
           refine sk (rg (zm ?_))
           refine z ?_ (h:=fun Z=>ab Z vt vc (rA (by omega) (by omega)))
           refine za (nl ?_)
           exact ar ((k+1)) (by show _≤_;omega) (by show 256-(k+1)<256-k;omega) (wkf id (wS<|wS<|wS<|wS<|wS<|wS<|wS<|wE (e:=(aO (by rfl)))<|wX<|wX<|wP<|wO (e:=aG (fun h=>h) (congrArg isl (by(rw[bT,nC hN hS hK];simp only[hD,hR,hK1,dR,Bool.true_and,Bool.false_and,Bool.not_false,Bool.not_true,if_true,if_false,Bool.false_eq_true];first |done |rfl))))<|by(iterate 9 refine wF ?_);exact wN))
         ·skip
          have hR:rtB (ag l) i=false:=sG ho (by omega) hO2 c28
          refine rg ?_
          refine z ?_ (h:=fun Z=>aa (xs:=[vI ((cN i).x+1),vI ((cN i).y)].map A.val) Z cd rfl (by decide) rfl)
          refine z ?_ (h:=fun Z=>ah Z (bW (⟨((cN i).x+1),(cN i).y⟩:Cel) ) (ac (ArgV.va va) an) (aH (congrArg Value.bool c27)))
          refine zm ?_
          refine zg ?_ (h:=fun Z=>ae rfl rfl (aa (xs:=[(.slv l.length 1 (isl l):A)]) Z fB rfl (by decide) rfl))
          refine zg ?_ (h:=fun Z=>ae rfl rfl (aa (xs:=[vI ((cN i).x+1),vI ((cN i).y)].map A.val) Z cd rfl (by decide) rfl))
          refine zg ?_ (h:=fun Z=>ae rfl rfl (ah Z (bZ l (⟨((cN i).x+1),(cN i).y⟩:Cel) (by omega) (by omega)) (ac (ArgV.regv _ _ 1 _) (ac (ArgV.va va) an)) (aH (congrArg Value.bool c28))))
          refine z ?_ (h:=fun Z=>al Z vt xt)
          refine zm (zo (zo (zo (zo (zo (zo ?_))))))
          refine z ?_ (h:=fun Z=>ao Z vt xc)
          refine nl (wf (sk (rg (zm ?_))))
          refine z ?_ (h:=fun Z=>ab Z vt vc (rA (by omega) (by omega)))
          refine za (nl ?_)
          exact ar ((k+1)) (by show _≤_;omega) (by show 256-(k+1)<256-k;omega) (wkf id (wS<|wS<|wS<|wS<|wS<|wS<|wS<|wE (e:=(aO (by rfl)))<|wX<|wX<|wP<|wO (e:=aG (fun h=>h) (congrArg isl (by(rw[bT,nC hN hS hK];simp only[hD,hR,dR,Bool.true_and,Bool.false_and,Bool.not_false,Bool.not_true,if_true,if_false,Bool.false_eq_true];first |done |rfl))))<|by(iterate 9 refine wF ?_);exact wN))
        ·skip
         have hR:rtB (ag l) i=false:=Iw (by omega) c27
         refine rg ?_
         refine z ?_ (h:=fun Z=>aa (xs:=[vI ((cN i).x+1),vI ((cN i).y)].map A.val) Z cd rfl (by decide) rfl)
         refine z ?_ (h:=fun Z=>ah Z (bW (⟨((cN i).x+1),(cN i).y⟩:Cel) ) (ac (ArgV.va va) an) (aH (congrArg Value.bool c27)))
         refine zm (zo (zo (zo ?_)))
         refine z ?_ (h:=fun Z=>ao Z vt xc)
         refine zm (zo (zo (zo (zo (zo (zo ?_))))))
         refine z ?_ (h:=fun Z=>ao Z vt xc)
         refine nl (wf (sk (rg (zm ?_))))
         refine z ?_ (h:=fun Z=>ab Z vt vc (rA (by omega) (by omega)))
         refine za (nl ?_)
         exact ar ((k+1)) (by show _≤_;omega) (by show 256-(k+1)<256-k;omega) (wkf id (wS<|wS<|wS<|wS<|wS<|wS<|wS<|wE (e:=(aO (by rfl)))<|wX<|wX<|wP<|wO (e:=aG (fun h=>h) (congrArg isl (by(rw[bT,nC hN hS hK];simp only[hD,hR,dR,Bool.true_and,Bool.false_and,Bool.not_false,Bool.not_true,if_true,if_false,Bool.false_eq_true];first |done |rfl))))<|by(iterate 9 refine wF ?_);exact wN))
  ·skip
   have c4P:=of_decide_eq_false c4
   refine aJ (rg (zm (za (nl (rg (zm ?_))))))
   refine z ?_ (h:=fun Z=>ab Z vt vc (rA (by omega) (by omega)))
   refine za (nl ?_)
   exact ar ((i+1)) (by show _≤_;omega) (by show 64-(i+1)<64-i;omega) (wkf (bn [(18,38)]) (wS<|wS<|wE (e:=(vsl (by omega) rfl))<|wE (e:=(aO (by rfl)))<|wX<|wO (e:=aG (fun h=>h) (congrArg isl (by(have e:k=256:=by omega);subst e;rfl)))<|by(iterate 11 refine wF ?_);exact wN))
 ·skip
  have c2P:=of_decide_eq_false c2
  refine aJ (sq (rg (zm ?_)))
  refine z ?_ (h:=fun Z=>ix0 (k:=0) Z cT dX vc (hlt:=(by omega)))
  refine z ?_ (h:=fun Z=>lI (k:=0) Z cC (by omega))
  refine za (nl (aq ?_))
  exact VRes.tmp _ _ _ (by exact rfl) (cc (congrArg (Value.int .i64) (by(have e:i=64:=by omega);subst e;exact vn (bb ho))))
end Cl
end Go.Proofs.YtonlghbbdcddoaaGreat
