/- Walks. -/
import Derived.Test.YtgmkkfdnmdohlaaGreatDoorC10
import Derived.Test.YtgmkkfdnmdohlaaGreatDoorC1
import Derived.Test.YtgmkkfdnmdohlaaGreatDoorClB
set_option linter.unusedSimpArgs false
set_option linter.unusedVariables false
set_option maxHeartbeats 4000000
set_option maxRecDepth 100000
namespace Go.Proofs.YtgmkkfdnmdohlaaGreatDoor
namespace Cl
open Go.ChangeShapes Go.WideShapes Go.ChangeAt Go.RowKit
theorem nW:∀ (a b:Int) (c:Bool),Tryz.prog.built 62 [(0,.int .i64 a),(1,.int .i64 b),(2,.bool c)]=some ([.int .i64 a,.int .i64 b,.bool c]:List Value).toArray:=fun _ _ _=>rfl
theorem jq:∀ (a b:Int),Tryz.prog.built 70 [(0,.int .i64 a),(1,.int .i64 b)]=some ([.int .i64 a,.int .i64 b]:List Value).toArray:=fun _ _=>rfl
theorem wA:bK Tryz.prog 62 0=some 0:=by kernel_rfl
theorem dD:bK Tryz.prog 70 0=some 0:=by kernel_rfl
theorem dU:bK Tryz.prog 70 1=some 1:=by kernel_rfl
theorem fp:(Tryz.prog.info? 3).map (·.size)=some 1:=by kernel_rfl
theorem xZ:TI Tryz.prog 127 false 1:=⟨⟨_,Tryz.underlying127,rfl⟩,by kernel_rfl⟩
theorem eY:TI Tryz.prog 22 false 1:=⟨⟨_,Tryz.underlying22,rfl⟩,by kernel_rfl⟩
theorem bu:TI Tryz.prog 3 false 1:=⟨⟨_,Tryz.underlying3,rfl⟩,by kernel_rfl⟩
theorem fL:TI Tryz.prog 70 true 2:=⟨⟨_,Tryz.underlying70,rfl⟩,by kernel_rfl⟩
theorem cJ:Tryz.prog.underlying 22=some (.slice 3):=Tryz.underlying22
theorem zu:ZI Tryz.prog 22 (.slice none 0 0) 1 24:=by unfold ZI;kernel_rfl
theorem uV:ZI Tryz.prog 3 (.int .i64 0) 1 8:=by unfold ZI;kernel_rfl
theorem zv:ZI Tryz.prog 70 (.agg #[.int .i64 0,.int .i64 0]) 2 16:=by unfold ZI;kernel_rfl
theorem lY (a b:Int) (h1: -4611686018427387904≤a+b) (h2:a+b≤4611686018427387904):Fn Tryz.prog 109 [.a (.val (.int .i64 a)),.a (.val (.int .i64 b))] [.val (.int .i64 (a+b))]:=by
 refine bm (N:=8) Tryz.func109 rfl (by kernel_rfl) rfl (Nat.le_of_ble_eq_true rfl) [] (dN rfl) (fun W=> ?_)
 show Wp _ _ _ [kI 0 a,kI 1 b]
 refine sq (rg (zk (nl (sq (rg (zm (zm ?_)))))))
 refine z ?_ (h:=fun Z=>aa Z vt vt rA)
 refine za (nl (aC ?_))
 exact VRes.tmp _ _ _ (by exact rfl) (BRes.val _)
theorem dR (n:Int) (d:Dom):Fn Tryz.prog 110 [.a (.val (.int .i64 n)),.agg ([vI d.x,vI d.y,.bool d.d].map A.val)] [.val (.int .i64 (wth d.x n))]:=by
 refine bm (N:=9) Tryz.func110 rfl (by kernel_rfl) rfl (Nat.le_of_ble_eq_true rfl) [3] (dN rfl) (fun W=> ?_)
 show Wp _ _ _ [kI 0 n,kV 1 (V.av [vI d.x,vI d.y,.bool d.d]),kF 3]
 refine sq (rg ?_)
 refine z ?_ (h:=fun Z=>bo (h:=3) Z xt (by exact ob1 rfl))
 refine zk (nl (sq (sq (rg ?_))))
 refine z ?_ (h:=fun Z=>aq (off':=0) Z wA rfl)
 refine z ?_ (h:=fun Z=>ah (x:= .val (.int .i64 d.x)) Z bu (by exact rfl))
 refine z ?_ (h:=fun Z=>aa Z vt vc (bA rfl))
 refine nl ?_
 refine wi (fun c1=> ?_) (fun c1=> ?_)
 ·skip
  have c1P:=of_decide_eq_true c1
  refine sq (rg (zk (nl (aC ?_))))
  exact VRes.tmp _ _ _ (by exact rfl) (ce (congrArg (Value.int .i64) (by unfold wth;rw[if_pos (by omega)])))
 ·skip
  have c1P:=of_decide_eq_false c1
  refine sk (sq (rg (zm (za (nl (aC ?_))))))
  exact VRes.tmp _ _ _ (by exact rfl) (ce (congrArg (Value.int .i64) (by unfold wth;rw[if_neg (by omega)])))
theorem dQ (k m:Nat) (n:Int) (L:List Int) (hk:k<256) (hL:L.length=256) (hm:m=256) (hn:0≤n∧n≤1099511627776) (hg:0≤gI L k∧gI L k≤1099511627776):FnO Tryz.prog 121 [.a (.val (.int .i64 ((k:Nat):Int))),.a (.val (.int .i64 n)),.a (.ptr 2 0),.a (.ptr 3 0),.a (.ptr 4 0)] [(.o 2,some (.o ⟨22,1,true,[(.sl 9 0 m:A)]⟩)),(.o 3,some (.o ⟨3,1,true,[aI 0]⟩)),(.o 4,some (.o ⟨127,1,true,[(.fn 109 []:A)]⟩)),(.o 9,some (.o ⟨3,1,true,pl (isl L)⟩))] (V.v (.tuple #[])) [(.o 2,some (.o ⟨22,1,true,[(.sl 9 0 m:A)]⟩)),(.o 3,some (.o ⟨3,1,true,[aI 0]⟩)),(.o 4,some (.o ⟨127,1,true,[(.fn 109 []:A)]⟩)),(.o 9,some (.o ⟨3,1,true,pl (isl (el L k n))⟩))] [2,3,4,9]:=by
 refine bW (N:=27) Tryz.func121 rfl (by kernel_rfl) rfl (Nat.le_of_ble_eq_true rfl) rfl rfl (by kernel_rfl) (by kernel_rfl) ⟨ocs (by kernel_rfl),ocs (by kernel_rfl),ocs (by kernel_rfl),bh (fun _=>rfl),trivial⟩ [25] (AQ rfl) (fun W own kp im0=> ?_)
 show Wp _ _ _ [kI 0 ((k:Nat):Int),kI 1 n,kP 2 2 0,kP 3 3 0,kP 4 4 0,kO 2 22 1 true [(.sl 9 0 m:A)],kO 3 3 1 true [aI 0],kO 4 127 1 true [(.fn 109 []:A)],kO 9 3 1 true (pl (isl L)),kF 25]
 refine sq (ch ?_)
 refine zd ?_ (h:=fun Z=>ah (x:= .sl 9 0 m) Z eY (by exact rfl))
 refine zdm ?_
 refine zd ?_ (h:=fun Z=>ix0 Z cJ fp vt)
 refine zd ?_ (h:=fun Z=>lI Z bu)
 refine zd ?_ (h:=fun Z=>ah (x:= .val (.int .i64 0)) Z bu (by exact rfl))
 refine zd ?_ (h:=fun Z=>aa Z vt vt (ct rfl))
 refine bG ?_
 refine wi (fun c1=> ?_) (fun c1=> ?_)
 ·skip
  have c1P:=of_decide_eq_true c1
  refine rg ?_
  refine z ?_ (h:=fun Z=>ah (x:= .sl 9 0 m) Z eY (by exact rfl))
  refine zm (zm ?_)
  refine z ?_ (h:=fun Z=>ix0 Z cJ fp vt)
  refine z ?_ (h:=fun _=>sI bu xt)
  refine nl ?_
  exact⟨_,dt,⟨by kernel_rfl,by kernel_rfl,by kernel_rfl,bT (c:=pl (isl (L.set k n))) (by kernel_rfl) (congrArg (fun z=>pl (isl z)) (by(unfold el;rw[show gI L k=0 by assumption,Int.zero_add]))),trivial⟩,trivial⟩
 ·skip
  have c1P:=of_decide_eq_false c1
  refine ch ?_
  refine zd ?_ (h:=fun Z=>ah (x:= .sl 9 0 m) Z eY (by exact rfl))
  refine zdm ?_
  refine zd ?_ (h:=fun Z=>ah (x:= .fn 109 []) Z xZ (by exact rfl))
  refine zd ?_ (h:=fun Z=>ah (x:= .sl 9 0 m) Z eY (by exact rfl))
  refine zdm ?_
  refine zd ?_ (h:=fun Z=>ix0 Z cJ fp vt)
  refine zd ?_ (h:=fun Z=>lI Z bu)
  refine zdm ?_
  refine zd ?_ (h:=fun Z=>cV (d:=25) (f:=109) (t:=19) (caps:=[]) (os:=[]) (os':=[]) (r:=V.v (.int .i64 ((gI L k)+n))) (bs:=[.a (.val (.int .i64 (gI L k))),.a (.val (.int .i64 n))]) (keep:=[]) (new:=[]) (dead:=[]) Z (FnO.of_fn (lY (gI L k) n (by omega) (by omega)) (by kernel_rfl)) rfl trivial rfl (ArgOs.cons ((ArgO.v vt)) (ArgOs.cons ((ArgO.v vt)) (ArgOs.nil))))
  refine zd ?_ (h:=fun Z=>ix0 Z cJ fp vt)
  refine zd ?_ (h:=fun _=>sI bu xt)
  refine bG ?_
  exact⟨_,dt,⟨by kernel_rfl,by kernel_rfl,by kernel_rfl,bT (c:=pl (isl (L.set k ((gI L k)+n)))) (by kernel_rfl) (congrArg (fun z=>pl (isl z)) (by rfl)),trivial⟩,trivial⟩
theorem rn (s:Nat) (hs:s<18446744073709551616):Fn Tryz.prog 108 [.a (.val (.int .u64 ((s:Nat):Int))),.a (.val (.int .i64 0)),.a (.fn 109 []),.a (.fn 110 [])] [.val (.int .i64 (((cnt s):Nat):Int))]:=by
 have hpl0:=kq s 0
 have hr0:(List.replicate 256 (0:Int)).length=256:=List.length_replicate
 refine bm (N:=157) Tryz.func108 rfl (by kernel_rfl) rfl (Nat.le_of_ble_eq_true rfl) [5,6,12,13,19,21,34,40,41,43,57,69,80,84,96,100,108,120,121,129,149,150] (dN rfl) (fun W=> ?_)
 show Wp _ _ _ [kU 0 ((s:Nat):Int),kI 1 0,kV 2 (V.b (.a (.fn 109 []))),kV 3 (V.b (.a (.fn 110 []))),kF 5,kF 6,kF 12,kF 13,kF 19,kF 21,kF 34,kF 40,kF 41,kF 43,kF 57,kF 69,kF 80,kF 84,kF 96,kF 100,kF 108,kF 120,kF 121,kF 129,kF 149,kF 150]
 refine sq (rg ?_)
 refine z ?_ (h:=fun Z=>bo (h:=5) Z xt (by exact ob1 rfl))
 refine z ?_ (h:=fun Z=>bo (h:=6) Z xt (by exact ob1 rfl))
 refine zk (nl (sq (rg ?_)))
 refine z ?_ (h:=fun Z=>fJ (h:=19) (n:=256) (xs:=isl (List.replicate 256 0)) Z cJ uV vc vc rfl rfl (by decide) (by omega) (jo 256))
 refine za (nl (sq (sq (rg (zm ?_)))))
 refine z ?_ (h:=fun Z=>lnS (iv:=256) Z cJ)
 refine z ?_ (h:=fun Z=>mc Z)
 refine nl (bkk ?_)
 refine bg (fun(p:Nat)=>p≤256) (fun(p:Nat)=>[kU 0 ((s:Nat):Int),kV 3 (V.b (.a (.fn 110 []))),kP 5 5 0,kP 6 6 0,kS 9 19 0 256,kI 21 256,kI 22 ((p:Nat):Int),kO 5 3 1 true [aI 0],kO 6 127 1 true [(.fn 109 []:A)],kO 19 3 1 true (pl (isl (List.replicate 256 0))),kF 12,kF 13,kF 21,kF 34,kF 40,kF 41,kF 43,kF 57,kF 69,kF 80,kF 84,kF 96,kF 100,kF 108,kF 120,kF 121,kF 129,kF 149,kF 150]) (fun(p:Nat)=>256-p) ((0:Nat)) (by exact(Nat.zero_le _:0≤_)) (wkf id (wS<|wS<|wS<|wS<|wS<|wS<|wE (e:=(be (by rfl)))<|wX<|wX<|wO (e:=aJ (fun h=>h) (congrArg isl (by rfl)))<|by(iterate 19 refine wF ?_);exact wN)) ?_
 rintro p inv1
 replace inv1:p≤256:=inv1
 have inv:=inv1
 refine sq (rg ?_)
 refine z ?_ (h:=fun Z=>aa Z vt vt (bA rfl))
 refine nl (sq ?_)
 refine wi (fun c2=> ?_) (fun c2=> ?_)
 ·skip
  have c2P:=of_decide_eq_true c2
  refine sk (sq (bkk (sq (rg (zm (za (nl (rg (zm (zm ?_))))))))))
  refine z ?_ (h:=fun Z=>ah (x:= .val (.int .i64 0)) Z bu (by exact rfl))
  refine z ?_ (h:=fun Z=>ix0 Z cJ fp vt (hlt:=(by omega)))
  refine z ?_ (h:=fun _=>sI bu xt (by omega))
  refine nl (rg ?_)
  refine z ?_ (h:=fun Z=>aa Z vt vc (rA (by omega) (by omega)))
  refine zm (nl ?_)
  exact aA ((p+1)) (by show _≤_;omega) (by show 256-(p+1)<256-p;omega) (wkf id (wS<|wS<|wS<|wS<|wS<|wS<|wE (e:=(be (by rfl)))<|wX<|wX<|wO (e:=aJ (fun h=>h) (congrArg isl (by exact(yx _).symm)))<|by(iterate 19 refine wF ?_);exact wN))
 ·skip
  have c2P:=of_decide_eq_false c2
  refine aU (sq (rg (zm (zm ?_))))
  refine z ?_ (h:=fun Z=>ah (x:= .val (.int .i64 0)) Z bu (by exact rfl))
  refine z ?_ (h:=fun Z=>kK (cells:=[vI (-1),vI 0,.bool false]) Z (.cons vc OpVs.nil) rfl)
  refine z ?_ (h:=fun Z=>cV (d:=34) (f:=110) (t:=31) (caps:=[]) (os:=[]) (os':=[]) (r:=V.v (.int .i64 (wth (-1) 0))) (bs:=[.a (.val (.int .i64 0)),.agg ([vI (-1),vI 0,.bool false].map A.val)]) (keep:=[]) (new:=[]) (dead:=[]) Z (FnO.of_fn (dR 0 (⟨(-1),0,false⟩:Dom) ) (by kernel_rfl)) rfl trivial rfl (ArgOs.cons ((ArgO.v vt)) (ArgOs.cons ((ArgO.va va)) (ArgOs.nil))))
  refine z ?_ (h:=fun Z=>ix0 (k:=0) Z cJ fp vc (hlt:=(by omega)))
  refine z ?_ (h:=fun _=>sI bu xt (by omega))
  refine nl (sq (sq (rg ?_)))
  refine z ?_ (h:=fun Z=>mc Z)
  refine nl (bkk ?_)
  refine bg (fun(i:Nat)=>i≤64) (fun(i:Nat)=>[kU 0 ((s:Nat):Int),kV 3 (V.b (.a (.fn 110 []))),kP 5 5 0,kP 6 6 0,kS 9 19 0 ((bR s i).length),kI 36 ((i:Nat):Int),kO 5 3 1 true [aI 0],kO 6 127 1 true [(.fn 109 []:A)],kO 19 3 1 true (pl (isl (bR s i))),kF 12,kF 13,kF 21,kF 34,kF 40,kF 41,kF 43,kF 57,kF 69,kF 80,kF 84,kF 96,kF 100,kF 108,kF 120,kF 121,kF 129,kF 149,kF 150]) (fun(i:Nat)=>64-i) ((0:Nat)) (by exact(Nat.zero_le _:0≤_)) (wkf id (wS<|wS<|wS<|wS<|wE (e:=(vsl (by rfl) rfl))<|wE (e:=(be (by rfl)))<|wX<|wX<|wO (e:=aJ (fun h=>h) (congrArg isl (by rfl)))<|by(iterate 19 refine wF ?_);exact wN)) ?_
  rintro i inv3
  replace inv3:i≤64:=inv3
  have invi:=inv3
  have hpl:=kq s i
  have hpl1:=kq s (i+1)
  have hcx:(cN i).x=((i%8:Nat):Int):=rfl
  have hcx0:0≤(cN i).x:=Int.natCast_nonneg _
  have hpw:2^ (cN i).x.toNat<256:=Nat.pow_lt_pow_right (m:=(cN i).x.toNat) (n:=8) (by decide) (by omega)
  have hcy:(cN i).y=((i/8:Nat):Int):=rfl
  refine sq (rg ?_)
  refine z ?_ (h:=fun Z=>aa Z vt vc (bA rfl))
  refine nl (sq ?_)
  refine wi (fun c4=> ?_) (fun c4=> ?_)
  ·skip
   have c4P:=of_decide_eq_true c4
   refine sk (sq (bkk (sq (rg (zm (za (nl (sq (rg (zm ?_))))))))))
   refine z ?_ (h:=fun Z=>ag Z (lX i (by omega)) (ac (ArgV.v vt) an) (ResV.agg [vI ((cN i).x),vI ((cN i).y)]))
   refine z ?_ (h:=fun Z=>aL (h:=12) (cap:=1) (s:=2) (cells:=[aI 0,aI 0]) Z zv rfl rfl (by decide))
   refine z ?_ (h:=fun _=>aE (cells:=[aI ((cN i).x),aI ((cN i).y)]) fL xt (by exact rfl) (by decide) (by exact ob1 rfl) (by exact Nat.le_of_ble_eq_true rfl) (by exact rfl))
   refine nl (sq (rg ?_))
   refine z ?_ (h:=fun Z=>fJ (h:=41) (n:=256) (xs:=isl (List.replicate 256 0)) Z cJ uV vc vc rfl rfl (by decide) (by omega) (jo 256))
   refine z ?_ (h:=fun Z=>aL (h:=13) (cap:=1) (s:=1) (cells:=[(.val (.slice none 0 0):A)]) Z zu rfl rfl (by decide))
   refine z ?_ (h:=fun _=>aE (cells:=[(.sl 41 0 256:A)]) eY xt (by exact rfl) (by decide) (by exact ob1 rfl) (by exact Nat.le_of_ble_eq_true rfl) (by exact rfl))
   refine nl (sq (sq (rg ?_)))
   refine z ?_ (h:=fun Z=>ah (x:= .sl 41 0 256) Z eY (by exact rfl))
   refine z ?_ (h:=fun Z=>lnS (iv:=256) Z cJ)
   refine z ?_ (h:=fun Z=>mc Z)
   refine nl (bkk ?_)
   refine bg (fun(q:Nat)=>q≤256) (fun(q:Nat)=>[kU 0 ((s:Nat):Int),kV 3 (V.b (.a (.fn 110 []))),kP 5 5 0,kP 6 6 0,kS 9 19 0 ((bR s i).length),kP 12 12 0,kP 13 13 0,kI 36 ((i:Nat):Int),kI 43 256,kI 44 ((q:Nat):Int),kO 5 3 1 true [aI 0],kO 6 127 1 true [(.fn 109 []:A)],kO 12 70 2 true [aI ((cN i).x),aI ((cN i).y)],kO 13 22 1 true [(.sl 41 0 256:A)],kO 19 3 1 true (pl (isl (bR s i))),kO 41 3 1 true (pl (isl (List.replicate 256 0))),kF 21,kF 34,kF 40,kF 43,kF 57,kF 69,kF 80,kF 84,kF 96,kF 100,kF 108,kF 120,kF 121,kF 129,kF 149,kF 150]) (fun(q:Nat)=>256-q) ((0:Nat)) (by exact(Nat.zero_le _:0≤_)) (wkf id (wS<|wS<|wS<|wS<|wS<|wS<|wS<|wS<|wS<|wE (e:=(be (by rfl)))<|wX<|wX<|wX<|wX<|wP<|wO (e:=aJ (fun h=>h) (congrArg isl (by rfl)))<|by(iterate 16 refine wF ?_);exact wN)) ?_
   rintro q inv5
   replace inv5:q≤256:=inv5
   have inv3:=inv5
   refine sq (rg ?_)
   refine z ?_ (h:=fun Z=>aa Z vt vt (bA rfl))
   refine nl (sq ?_)
   refine wi (fun c6=> ?_) (fun c6=> ?_)
   ·skip
    have c6P:=of_decide_eq_true c6
    refine sk (sq (bkk (sq (rg (zm (za (nl (rg ?_))))))))
    refine z ?_ (h:=fun Z=>ah (x:= .sl 41 0 256) Z eY (by exact rfl))
    refine zm ?_
    refine z ?_ (h:=fun Z=>ah (x:= .val (.int .i64 0)) Z bu (by exact rfl))
    refine z ?_ (h:=fun Z=>ix0 Z cJ fp vt (hlt:=(by omega)))
    refine z ?_ (h:=fun _=>sI bu xt (by omega))
    refine nl (rg ?_)
    refine z ?_ (h:=fun Z=>aa Z vt vc (rA (by omega) (by omega)))
    refine zm (nl ?_)
    exact aA ((q+1)) (by show _≤_;omega) (by show 256-(q+1)<256-q;omega) (wkf id (wS<|wS<|wS<|wS<|wS<|wS<|wS<|wS<|wS<|wE (e:=(be (by rfl)))<|wX<|wX<|wX<|wX<|wP<|wO (e:=aJ (fun h=>h) (congrArg isl (by exact(yx _).symm)))<|by(iterate 16 refine wF ?_);exact wN))
   ·skip
    have c6P:=of_decide_eq_false c6
    refine aU (sq (rg ?_))
    refine z ?_ (h:=fun Z=>jS (d:=52) (f:=121) (l:=[(13,13),(5,5),(6,6)]) Z)
    refine za (nl (sq (rg ?_)))
    refine z ?_ (h:=fun Z=>aq (off':=0) Z dD rfl)
    refine z ?_ (h:=fun Z=>ah (x:= .val (.int .i64 ((cN i).x))) Z bu (by exact rfl))
    refine z ?_ (h:=fun Z=>aa Z vc vt (fw (c:=(((2^ (((cN i).x).toNat)):Nat):Int)) (by omega) (kA (n:=(((cN i).x).toNat)) (Int.toNat_of_nonneg (by omega)).symm (by omega))))
    refine za (nl (sq (sq (rg (zm ?_)))))
    refine z ?_ (h:=fun Z=>lnS Z cJ)
    refine z ?_ (h:=fun Z=>mc Z)
    refine nl (bkk ?_)
    refine bg (fun(k:Nat)=>k≤256) (fun(k:Nat)=>[kU 0 ((s:Nat):Int),kV 3 (V.b (.a (.fn 110 []))),kP 5 5 0,kP 6 6 0,kP 12 12 0,kP 13 13 0,kV 15 (V.b (.a (.fn 121 [13,5,6]))),kI 16 (((2^ (((cN i).x).toNat)):Nat):Int),kI 36 ((i:Nat):Int),kS 56 19 0 ((bR s i).length),kI 57 (((bR s i).length:Nat):Int),kI 58 ((k:Nat):Int),kO 5 3 1 true [aI 0],kO 6 127 1 true [(.fn 109 []:A)],kO 12 70 2 true [aI ((cN i).x),aI ((cN i).y)],kO 13 22 1 true [(.sl 41 0 256:A)],kO 19 3 1 true (pl (isl (bR s i))),kO 41 3 1 true (pl (isl (cT s i (bR s i) k))),kF 21,kF 34,kF 40,kF 43,kF 57,kF 69,kF 80,kF 84,kF 96,kF 100,kF 108,kF 120,kF 121,kF 129,kF 149,kF 150]) (fun(k:Nat)=>256-k) ((0:Nat)) (by exact(Nat.zero_le _:0≤_)) (wkf id (wS<|wS<|wS<|wS<|wS<|wS<|wS<|wS<|wS<|wS<|wS<|wE (e:=(be (by rfl)))<|wX<|wX<|wX<|wX<|wP<|wO (e:=aJ (fun h=>h) (congrArg isl (by rfl)))<|by(iterate 16 refine wF ?_);exact wN)) ?_
    rintro k inv7
    replace inv7:k≤256:=inv7
    have inv4:=inv7
    have hlt:=hJ s i (bR s i) k
    have hbt:∀ j,j<256→0≤gI (cT s i (bR s i) k) j∧gI (cT s i (bR s i) k) j≤1099511627776:=fun j hj=>by
     have:=rT (s:=s) (i:=i) (by omega) (m:=k) (k:=j) (by omega) hj
     omega
    refine sq (rg ?_)
    refine z ?_ (h:=fun Z=>aa Z vt vt (bA rfl))
    refine nl (sq ?_)
    refine wi (fun c8=> ?_) (fun c8=> ?_)
    ·skip
     have c8P:=of_decide_eq_true c8
     have hpk:=pi (s:=s) (i:=i) (by omega) (k:=k) (by omega)
     refine sk (sq (bkk (sq (rg (zm ?_)))))
     refine z ?_ (h:=fun Z=>ix0 Z cJ fp vt (hlt:=(by omega)))
     refine z ?_ (h:=fun Z=>lI Z bu (by omega))
     refine za (za (nl (sq (sq (rg (zm ?_))))))
     refine z ?_ (h:=fun Z=>ah (x:= .val (.int .i64 0)) Z bu (by exact rfl))
     refine z ?_ (h:=fun Z=>aa Z vt vt (ct rfl))
     refine nl ?_
     refine wi (fun c9=> ?_) (fun c9=> ?_)
     ·skip
      have c9P:=of_decide_eq_true c9
      refine aU (rg ?_)
      refine z ?_ (h:=fun Z=>aa Z vt vc (rA (by omega) (by omega)))
      refine zm (nl ?_)
      exact aA ((k+1)) (by show _≤_;omega) (by show 256-(k+1)<256-k;omega) (wkf id (wS<|wS<|wS<|wS<|wS<|wS<|wS<|wS<|wS<|wS<|wS<|wE (e:=(be (by rfl)))<|wX<|wX<|wX<|wX<|wP<|wO (e:=aJ (fun h=>h) (congrArg isl (by(rw[bt,AY (by assumption)];done))))<|by(iterate 16 refine wF ?_);exact wN))
     ·skip
      have c9P:=of_decide_eq_false c9
      have hN:¬gI (bR s i) k=0:=of_decide_eq_false c9
      refine sk (bkk (sq ?_))
      rcases Bool.eq_false_or_eq_true ((bO s (cN i)))with c10 |c10
      ·skip
       have hS:s.testBit i=true:=(IX (by omega)).symm.trans c10
       refine rg (zm ?_)
       refine z ?_ (h:=fun Z=>ab (xs:=[vI ((cN i).x),vI ((cN i).y)].map A.val) Z fL rfl (by decide) rfl)
       refine z ?_ (h:=fun Z=>ag Z (bX s (cN i) (by omega)) (ac (ArgV.v vt) (ac (ArgV.va va) an)) (bi (congrArg Value.bool c10)))
       refine z ?_ (h:=fun Z=>bn Z vt (bS (c:=false) rfl))
       refine zm (zo (zo (zo (zo ?_))))
       refine z ?_ (h:=fun Z=>ar Z vt xc)
       refine za (nl (wf (sq (rg (zm ?_)))))
       refine z ?_ (h:=fun Z=>ab (xs:=[vI ((cN i).x),vI ((cN i).y)].map A.val) Z fL rfl (by decide) rfl)
       refine z ?_ (h:=fun Z=>ag Z (bX s (cN i) (by omega)) (ac (ArgV.v vt) (ac (ArgV.va va) an)) (bi (congrArg Value.bool c10)))
       refine zm ?_
       refine zg ?_ (h:=fun Z=>ae rfl rfl (mt Z))
       refine zg ?_ (h:=fun Z=>ae rfl rfl (mt Z))
       refine zg ?_ (h:=fun Z=>ae rfl rfl (aa Z vt vt (io (c:=(((k&&&(2^ (((cN i).x).toNat))):Nat):Int)) (pN (m:=k) (n:=(2^ (((cN i).x).toNat))) rfl rfl (by omega) (by omega)))))
       refine zg ?_ (h:=fun Z=>ae rfl rfl (aa Z vt vc (fv rfl)))
       refine z ?_ (h:=fun Z=>au Z vt xt)
       refine za (nl ?_)
       refine wi (fun c11=> ?_) (fun c11=> ?_)
       ·skip
        have c11P:=of_decide_eq_true c11
        have hK:k.testBit (i%8)=true:=and0 (decide_eq_false (of_decide_eq_true c11))
        refine rg (zm (zm (zm ?_)))
        refine z ?_ (h:=fun Z=>aa Z vt vt (yv (c:=(((andn k (2^ (((cN i).x).toNat))):Nat):Int)) (andnI (m:=k) (n:=(2^ (((cN i).x).toNat))) rfl rfl (by omega) (by omega))))
        refine zm ?_
        refine z ?_ (h:=fun Z=>cV (d:=96) (f:=121) (t:=91) (caps:=[13,5,6]) (os:=[(.o 13,some (.o ⟨22,1,true,[(.sl 41 0 256:A)]⟩)),(.o 5,some (.o ⟨3,1,true,[aI 0]⟩)),(.o 6,some (.o ⟨127,1,true,[(.fn 109 []:A)]⟩)),(.o 41,some (.o ⟨3,1,true,pl (isl (cT s i (bR s i) k))⟩))]) (os':=[(.o 13,some (.o ⟨22,1,true,[(.sl 41 0 256:A)]⟩)),(.o 5,some (.o ⟨3,1,true,[aI 0]⟩)),(.o 6,some (.o ⟨127,1,true,[(.fn 109 []:A)]⟩)),(.o 41,some (.o ⟨3,1,true,pl (isl (el (cT s i (bR s i) k) (andn k (2^ (((cN i).x).toNat))) (gI (bR s i) k)))⟩))]) (r:=V.v (.tuple #[])) (bs:=[.a (.val (.int .i64 (((andn k (2^ (((cN i).x).toNat))):Nat):Int))),.a (.val (.int .i64 (gI (bR s i) k)))]) (keep:=[13,5,6,41]) (new:=[]) (dead:=[]) Z (FnO.ren' (dQ (andn k (2^ (((cN i).x).toNat))) 256 (gI (bR s i) k) (cT s i (bR s i) k) (by exact lM (by omega)) (by omega) (by omega) (by omega) (by exact hbt _ (lM (by omega)))) (aX [(2,13),(3,5),(4,6),(9,41)]) rfl rfl (by kernel_rfl) (by kernel_rfl) ⟨ocs (by kernel_rfl),ocs (by kernel_rfl),ocs (by kernel_rfl),bh (fun _=>rfl),trivial⟩ (by kernel_rfl) rfl (by simp only[bv,Ob.ren,aY,ak,am,aj,aO,aN];first |done |rfl) (by simp only[bv,Ob.ren,aY,ak,am,aj,aO,aN];first |done |rfl) rfl rfl) (by kernel_rfl) ⟨ocs (by kernel_rfl),ocs (by kernel_rfl),ocs (by kernel_rfl),bh (fun _=>rfl),trivial⟩ (by kernel_rfl) (ArgOs.cons ((ArgO.v vt)) (ArgOs.cons ((ArgO.v vt)) (ArgOs.nil))))
        refine nl (rg ?_)
        refine z ?_ (h:=fun Z=>aa Z vt vc (rA (by omega) (by omega)))
        refine zm (nl ?_)
        exact aA ((k+1)) (by show _≤_;omega) (by show 256-(k+1)<256-k;omega) (wkf id (wS<|wS<|wS<|wS<|wS<|wS<|wS<|wS<|wS<|wS<|wS<|wE (e:=(be (by rfl)))<|wX<|wX<|wX<|wX<|wP<|wO (e:=aJ (fun h=>h) (congrArg isl (by(rw[bt,sk_b hN hS hK];first |done |rfl))))<|by(iterate 16 refine wF ?_);exact wN))
       ·skip
        have c11P:=of_decide_eq_false c11
        have hK:k.testBit (i%8)=false:=and0 (decide_eq_true (Decidable.not_not.1 (of_decide_eq_false c11)))
        refine sq (rg (zm ?_))
        refine z ?_ (h:=fun Z=>ab (xs:=[vI ((cN i).x),vI ((cN i).y)].map A.val) Z fL rfl (by decide) rfl)
        refine z ?_ (h:=fun Z=>ag Z (bX s (cN i) (by omega)) (ac (ArgV.v vt) (ac (ArgV.va va) an)) (bi (congrArg Value.bool c10)))
        refine za (nl (wt (sq (sq (rg (zm ?_))))))
        refine z ?_ (h:=fun Z=>aq (off':=0) Z dD rfl)
        refine z ?_ (h:=fun Z=>ah (x:= .val (.int .i64 ((cN i).x))) Z bu (by exact rfl))
        refine z ?_ (h:=fun Z=>aq (off':=1) Z dU rfl)
        refine z ?_ (h:=fun Z=>ah (x:= .val (.int .i64 ((cN i).y))) Z bu (by exact rfl))
        refine z ?_ (h:=fun Z=>aa Z vt vc (rA (by omega) (by omega)))
        refine z ?_ (h:=fun Z=>bC Z jq vt vt)
        refine z ?_ (h:=fun Z=>ag Z (bX s (⟨(cN i).x,((cN i).y+1)⟩:Cel) (by omega)) (ac (ArgV.v vt) (ac (ArgV.va va) an)) rv)
        refine nl ?_
        refine wi (b:=(bO s (⟨(cN i).x,((cN i).y+1)⟩:Cel))) (fun c12=> ?_) (fun c12=> ?_)
        ·skip
         have hD:dnB s i=true:=(we (by omega)).symm.trans c12
         refine rg (zm (zm (zm ?_)))
         refine z ?_ (h:=fun Z=>aa Z vt vt (pu (c:=(((k|||(2^ (((cN i).x).toNat))):Nat):Int)) (orI (m:=k) (n:=(2^ (((cN i).x).toNat))) rfl rfl (by omega) (by omega))))
         refine zm (zm ?_)
         refine z ?_ (h:=fun Z=>aq (off':=0) Z dD rfl)
         refine z ?_ (h:=fun Z=>ah (x:= .val (.int .i64 ((cN i).x))) Z bu (by exact rfl))
         refine z ?_ (h:=fun Z=>aq (off':=1) Z dU rfl)
         refine z ?_ (h:=fun Z=>ah (x:= .val (.int .i64 ((cN i).y))) Z bu (by exact rfl))
         refine z ?_ (h:=fun Z=>bD Z nW vt vt vc)
         refine z ?_ (h:=fun Z=>cV (d:=120) (f:=110) (t:=113) (caps:=[]) (os:=[]) (os':=[]) (r:=V.v (.int .i64 (wth ((cN i).x) (gI (bR s i) k)))) (bs:=[.a (.val (.int .i64 (gI (bR s i) k))),.agg ([vI ((cN i).x),vI ((cN i).y),.bool true].map A.val)]) (keep:=[]) (new:=[]) (dead:=[]) Z (FnO.of_fn (dR (gI (bR s i) k) (⟨(cN i).x,(cN i).y,true⟩:Dom) ) (by kernel_rfl)) rfl trivial rfl (ArgOs.cons ((ArgO.v vt)) (ArgOs.cons ((ArgO.va va)) (ArgOs.nil))))
         refine z ?_ (h:=fun Z=>cV (d:=121) (f:=121) (t:=109) (caps:=[13,5,6]) (os:=[(.o 13,some (.o ⟨22,1,true,[(.sl 41 0 256:A)]⟩)),(.o 5,some (.o ⟨3,1,true,[aI 0]⟩)),(.o 6,some (.o ⟨127,1,true,[(.fn 109 []:A)]⟩)),(.o 41,some (.o ⟨3,1,true,pl (isl (cT s i (bR s i) k))⟩))]) (os':=[(.o 13,some (.o ⟨22,1,true,[(.sl 41 0 256:A)]⟩)),(.o 5,some (.o ⟨3,1,true,[aI 0]⟩)),(.o 6,some (.o ⟨127,1,true,[(.fn 109 []:A)]⟩)),(.o 41,some (.o ⟨3,1,true,pl (isl (el (cT s i (bR s i) k) (k|||(2^ (((cN i).x).toNat))) (wth ((cN i).x) (gI (bR s i) k))))⟩))]) (r:=V.v (.tuple #[])) (bs:=[.a (.val (.int .i64 (((k|||(2^ (((cN i).x).toNat))):Nat):Int))),.a (.val (.int .i64 (wth ((cN i).x) (gI (bR s i) k))))]) (keep:=[13,5,6,41]) (new:=[]) (dead:=[]) Z (FnO.ren' (dQ (k|||(2^ (((cN i).x).toNat))) 256 (wth ((cN i).x) (gI (bR s i) k)) (cT s i (bR s i) k) (by exact ij (by omega) (by omega)) (by omega) (by omega) (by(rw[nJ (by omega)];omega)) (by exact hbt _ (ij (by omega) (by omega)))) (aX [(2,13),(3,5),(4,6),(9,41)]) rfl rfl (by kernel_rfl) (by kernel_rfl) ⟨ocs (by kernel_rfl),ocs (by kernel_rfl),ocs (by kernel_rfl),bh (fun _=>rfl),trivial⟩ (by kernel_rfl) rfl (by simp only[bv,Ob.ren,aY,ak,am,aj,aO,aN];first |done |rfl) (by simp only[bv,Ob.ren,aY,ak,am,aj,aO,aN];first |done |rfl) rfl rfl) (by kernel_rfl) ⟨ocs (by kernel_rfl),ocs (by kernel_rfl),ocs (by kernel_rfl),bh (fun _=>rfl),trivial⟩ (by kernel_rfl) (ArgOs.cons ((ArgO.v vt)) (ArgOs.cons ((ArgO.v vt)) (ArgOs.nil))))
         refine nl (sq ?_)
         rcases Bool.eq_false_or_eq_true ((bO s (⟨((cN i).x+1),(cN i).y⟩:Cel)))with c13 |c13
         ·skip
          have hR:rtB s i=true:=(qj (by omega)).symm.trans c13
          have hr7:=pC hR
          refine rg (zm ?_)
          refine z ?_ (h:=fun Z=>aq (off':=0) Z dD rfl)
          refine z ?_ (h:=fun Z=>ah (x:= .val (.int .i64 ((cN i).x))) Z bu (by exact rfl))
          refine z ?_ (h:=fun Z=>aa Z vt vc (rA (by omega) (by omega)))
          refine z ?_ (h:=fun Z=>aq (off':=1) Z dU rfl)
          refine z ?_ (h:=fun Z=>ah (x:= .val (.int .i64 ((cN i).y))) Z bu (by exact rfl))
          refine z ?_ (h:=fun Z=>bC Z jq vt vt)
          refine z ?_ (h:=fun Z=>ag Z (bX s (⟨((cN i).x+1),(cN i).y⟩:Cel) (by omega)) (ac (ArgV.v vt) (ac (ArgV.va va) an)) (bi (congrArg Value.bool c13)))
          refine zm ?_
          refine zg ?_ (h:=fun Z=>ae rfl rfl (mt Z))
          refine zg ?_ (h:=fun Z=>ae rfl rfl (mt Z))
          refine zg ?_ (h:=fun Z=>ae rfl rfl (aa Z vt vc (fw (c:=((((2^ (((cN i).x).toNat))<<<1):Nat):Int)) (by omega) (shlI (m:=(2^ (((cN i).x).toNat))) (n:=1) rfl rfl (by omega) (by omega)))))
          refine zg ?_ (h:=fun Z=>ae rfl rfl (aa Z vt vt (io (c:=(((k&&&((2^ (((cN i).x).toNat))<<<1)):Nat):Int)) (pN (m:=k) (n:=((2^ (((cN i).x).toNat))<<<1)) rfl rfl (by omega) (by omega)))))
          refine zg ?_ (h:=fun Z=>ae rfl rfl (aa Z vt vc (ct rfl)))
          refine z ?_ (h:=fun Z=>au Z vt xt)
          refine nl ?_
          refine wi (fun c14=> ?_) (fun c14=> ?_)
          ·skip
           have c14P:=of_decide_eq_true c14
           have hK1:k.testBit (i%8+1)=false:=and1 c14
           refine rg (zm (zm (zm ?_)))
           refine z ?_ (h:=fun Z=>aa Z vt vc (fw (c:=((((2^ (((cN i).x).toNat))<<<1):Nat):Int)) (by omega) (shlI (m:=(2^ (((cN i).x).toNat))) (n:=1) rfl rfl (by omega) (by omega))))
           refine z ?_ (h:=fun Z=>aa Z vt vt (pu (c:=(((k|||((2^ (((cN i).x).toNat))<<<1)):Nat):Int)) (orI (m:=k) (n:=((2^ (((cN i).x).toNat))<<<1)) rfl rfl (by omega) (by omega))))
           refine zm (zm ?_)
           refine z ?_ (h:=fun Z=>aq (off':=0) Z dD rfl)
           refine z ?_ (h:=fun Z=>ah (x:= .val (.int .i64 ((cN i).x))) Z bu (by exact rfl))
           refine z ?_ (h:=fun Z=>aq (off':=1) Z dU rfl)
           refine z ?_ (h:=fun Z=>ah (x:= .val (.int .i64 ((cN i).y))) Z bu (by exact rfl))
           refine z ?_ (h:=fun Z=>bD Z nW vt vt vc)
           refine z ?_ (h:=fun Z=>cV (d:=149) (f:=110) (t:=142) (caps:=[]) (os:=[]) (os':=[]) (r:=V.v (.int .i64 (wth ((cN i).x) (gI (bR s i) k)))) (bs:=[.a (.val (.int .i64 (gI (bR s i) k))),.agg ([vI ((cN i).x),vI ((cN i).y),.bool false].map A.val)]) (keep:=[]) (new:=[]) (dead:=[]) Z (FnO.of_fn (dR (gI (bR s i) k) (⟨(cN i).x,(cN i).y,false⟩:Dom) ) (by kernel_rfl)) rfl trivial rfl (ArgOs.cons ((ArgO.v vt)) (ArgOs.cons ((ArgO.va va)) (ArgOs.nil))))
           refine z ?_ (h:=fun Z=>cV (d:=150) (f:=121) (t:=137) (caps:=[13,5,6]) (os:=[(.o 13,some (.o ⟨22,1,true,[(.sl 41 0 256:A)]⟩)),(.o 5,some (.o ⟨3,1,true,[aI 0]⟩)),(.o 6,some (.o ⟨127,1,true,[(.fn 109 []:A)]⟩)),(.o 41,some (.o ⟨3,1,true,pl (isl (el (cT s i (bR s i) k) (k|||(2^ (((cN i).x).toNat))) (wth ((cN i).x) (gI (bR s i) k))))⟩))]) (os':=[(.o 13,some (.o ⟨22,1,true,[(.sl 41 0 256:A)]⟩)),(.o 5,some (.o ⟨3,1,true,[aI 0]⟩)),(.o 6,some (.o ⟨127,1,true,[(.fn 109 []:A)]⟩)),(.o 41,some (.o ⟨3,1,true,pl (isl (el (el (cT s i (bR s i) k) (k|||(2^ (((cN i).x).toNat))) (wth ((cN i).x) (gI (bR s i) k))) (k|||((2^ (((cN i).x).toNat))<<<1)) (wth ((cN i).x) (gI (bR s i) k))))⟩))]) (r:=V.v (.tuple #[])) (bs:=[.a (.val (.int .i64 (((k|||((2^ (((cN i).x).toNat))<<<1)):Nat):Int))),.a (.val (.int .i64 (wth ((cN i).x) (gI (bR s i) k))))]) (keep:=[13,5,6,41]) (new:=[]) (dead:=[]) Z (FnO.ren' (dQ (k|||((2^ (((cN i).x).toNat))<<<1)) 256 (wth ((cN i).x) (gI (bR s i) k)) (el (cT s i (bR s i) k) (k|||(2^ (((cN i).x).toNat))) (wth ((cN i).x) (gI (bR s i) k))) (by(rw[cQ];exact ij (by omega) (by omega))) (by(simp only[ta,hJ];done)) (by omega) (by(rw[nJ (by omega)];omega)) (by exact rt_bd (by omega) (by omega) hR)) (aX [(2,13),(3,5),(4,6),(9,41)]) rfl rfl (by kernel_rfl) (by kernel_rfl) ⟨ocs (by kernel_rfl),ocs (by kernel_rfl),ocs (by kernel_rfl),bh (fun _=>rfl),trivial⟩ (by kernel_rfl) rfl (by simp only[bv,Ob.ren,aY,ak,am,aj,aO,aN];first |done |rfl) (by simp only[bv,Ob.ren,aY,ak,am,aj,aO,aN];first |done |rfl) rfl rfl) (by kernel_rfl) ⟨ocs (by kernel_rfl),ocs (by kernel_rfl),ocs (by kernel_rfl),bh (fun _=>rfl),trivial⟩ (by kernel_rfl) (ArgOs.cons ((ArgO.v vt)) (ArgOs.cons ((ArgO.v vt)) (ArgOs.nil))))
           refine nl (rg ?_)
           refine z ?_ (h:=fun Z=>aa Z vt vc (rA (by omega) (by omega)))
           refine zm (nl ?_)
           exact aA ((k+1)) (by show _≤_;omega) (by show 256-(k+1)<256-k;omega) (wkf id (wS<|wS<|wS<|wS<|wS<|wS<|wS<|wS<|wS<|wS<|wS<|wE (e:=(be (by rfl)))<|wX<|wX<|wX<|wX<|wP<|wO (e:=aJ (fun h=>h) (congrArg isl (by(rw[bt,lK hN hS hK];simp only[hD,hR,hK1,nJ hcx0,cQ,Bool.true_and,Bool.false_and,Bool.not_false,Bool.not_true,if_true,if_false,Bool.false_eq_true];first |done |rfl))))<|by(iterate 16 refine wF ?_);exact wN))
          ·skip
           have c14P:=of_decide_eq_false c14
           have hK1:k.testBit (i%8+1)=true:=and1 c14
           refine sk (rg ?_)
           refine z ?_ (h:=fun Z=>aa Z vt vc (rA (by omega) (by omega)))
           refine zm (nl ?_)
           exact aA ((k+1)) (by show _≤_;omega) (by show 256-(k+1)<256-k;omega) (wkf id (wS<|wS<|wS<|wS<|wS<|wS<|wS<|wS<|wS<|wS<|wS<|wE (e:=(be (by rfl)))<|wX<|wX<|wX<|wX<|wP<|wO (e:=aJ (fun h=>h) (congrArg isl (by(rw[bt,lK hN hS hK];simp only[hD,hR,hK1,nJ hcx0,cQ,Bool.true_and,Bool.false_and,Bool.not_false,Bool.not_true,if_true,if_false,Bool.false_eq_true];first |done |rfl))))<|by(iterate 16 refine wF ?_);exact wN))
         ·skip
          have hR:rtB s i=false:=(qj (by omega)).symm.trans c13
          refine rg (zm ?_)
          refine z ?_ (h:=fun Z=>aq (off':=0) Z dD rfl)
          refine z ?_ (h:=fun Z=>ah (x:= .val (.int .i64 ((cN i).x))) Z bu (by exact rfl))
          refine z ?_ (h:=fun Z=>aa Z vt vc (rA (by omega) (by omega)))
          refine z ?_ (h:=fun Z=>aq (off':=1) Z dU rfl)
          refine z ?_ (h:=fun Z=>ah (x:= .val (.int .i64 ((cN i).y))) Z bu (by exact rfl))
          refine z ?_ (h:=fun Z=>bC Z jq vt vt)
          refine z ?_ (h:=fun Z=>ag Z (bX s (⟨((cN i).x+1),(cN i).y⟩:Cel) (by omega)) (ac (ArgV.v vt) (ac (ArgV.va va) an)) (bi (congrArg Value.bool c13)))
          refine zm (zo (zo (zo (zo (zo ?_)))))
          refine z ?_ (h:=fun Z=>ar Z vt xc)
          refine nl (wf (sk (rg ?_)))
          refine z ?_ (h:=fun Z=>aa Z vt vc (rA (by omega) (by omega)))
          refine zm (nl ?_)
          exact aA ((k+1)) (by show _≤_;omega) (by show 256-(k+1)<256-k;omega) (wkf id (wS<|wS<|wS<|wS<|wS<|wS<|wS<|wS<|wS<|wS<|wS<|wE (e:=(be (by rfl)))<|wX<|wX<|wX<|wX<|wP<|wO (e:=aJ (fun h=>h) (congrArg isl (by(rw[bt,lK hN hS hK];simp only[hD,hR,nJ hcx0,cQ,Bool.true_and,Bool.false_and,Bool.not_false,Bool.not_true,if_true,if_false,Bool.false_eq_true];first |done |rfl))))<|by(iterate 16 refine wF ?_);exact wN))
        ·skip
         have hD:dnB s i=false:=(we (by omega)).symm.trans c12
         refine sk (sq ?_)
         rcases Bool.eq_false_or_eq_true ((bO s (⟨((cN i).x+1),(cN i).y⟩:Cel)))with c15 |c15
         ·skip
          have hR:rtB s i=true:=(qj (by omega)).symm.trans c15
          have hr7:=pC hR
          refine rg (zm ?_)
          refine z ?_ (h:=fun Z=>aq (off':=0) Z dD rfl)
          refine z ?_ (h:=fun Z=>ah (x:= .val (.int .i64 ((cN i).x))) Z bu (by exact rfl))
          refine z ?_ (h:=fun Z=>aa Z vt vc (rA (by omega) (by omega)))
          refine z ?_ (h:=fun Z=>aq (off':=1) Z dU rfl)
          refine z ?_ (h:=fun Z=>ah (x:= .val (.int .i64 ((cN i).y))) Z bu (by exact rfl))
          refine z ?_ (h:=fun Z=>bC Z jq vt vt)
          refine z ?_ (h:=fun Z=>ag Z (bX s (⟨((cN i).x+1),(cN i).y⟩:Cel) (by omega)) (ac (ArgV.v vt) (ac (ArgV.va va) an)) (bi (congrArg Value.bool c15)))
          refine zm ?_
          refine zg ?_ (h:=fun Z=>ae rfl rfl (mt Z))
          refine zg ?_ (h:=fun Z=>ae rfl rfl (mt Z))
          refine zg ?_ (h:=fun Z=>ae rfl rfl (aa Z vt vc (fw (c:=((((2^ (((cN i).x).toNat))<<<1):Nat):Int)) (by omega) (shlI (m:=(2^ (((cN i).x).toNat))) (n:=1) rfl rfl (by omega) (by omega)))))
          refine zg ?_ (h:=fun Z=>ae rfl rfl (aa Z vt vt (io (c:=(((k&&&((2^ (((cN i).x).toNat))<<<1)):Nat):Int)) (pN (m:=k) (n:=((2^ (((cN i).x).toNat))<<<1)) rfl rfl (by omega) (by omega)))))
          refine zg ?_ (h:=fun Z=>ae rfl rfl (aa Z vt vc (ct rfl)))
          refine z ?_ (h:=fun Z=>au Z vt xt)
          refine nl ?_
          refine wi (fun c16=> ?_) (fun c16=> ?_)
          ·skip
           have c16P:=of_decide_eq_true c16
           have hK1:k.testBit (i%8+1)=false:=and1 c16
           refine rg (zm (zm (zm ?_)))
           refine z ?_ (h:=fun Z=>aa Z vt vc (fw (c:=((((2^ (((cN i).x).toNat))<<<1):Nat):Int)) (by omega) (shlI (m:=(2^ (((cN i).x).toNat))) (n:=1) rfl rfl (by omega) (by omega))))
           refine z ?_ (h:=fun Z=>aa Z vt vt (pu (c:=(((k|||((2^ (((cN i).x).toNat))<<<1)):Nat):Int)) (orI (m:=k) (n:=((2^ (((cN i).x).toNat))<<<1)) rfl rfl (by omega) (by omega))))
           refine zm (zm ?_)
           refine z ?_ (h:=fun Z=>aq (off':=0) Z dD rfl)
           refine z ?_ (h:=fun Z=>ah (x:= .val (.int .i64 ((cN i).x))) Z bu (by exact rfl))
           refine z ?_ (h:=fun Z=>aq (off':=1) Z dU rfl)
           refine z ?_ (h:=fun Z=>ah (x:= .val (.int .i64 ((cN i).y))) Z bu (by exact rfl))
           refine z ?_ (h:=fun Z=>bD Z nW vt vt vc)
           refine z ?_ (h:=fun Z=>cV (d:=149) (f:=110) (t:=142) (caps:=[]) (os:=[]) (os':=[]) (r:=V.v (.int .i64 (wth ((cN i).x) (gI (bR s i) k)))) (bs:=[.a (.val (.int .i64 (gI (bR s i) k))),.agg ([vI ((cN i).x),vI ((cN i).y),.bool false].map A.val)]) (keep:=[]) (new:=[]) (dead:=[]) Z (FnO.of_fn (dR (gI (bR s i) k) (⟨(cN i).x,(cN i).y,false⟩:Dom) ) (by kernel_rfl)) rfl trivial rfl (ArgOs.cons ((ArgO.v vt)) (ArgOs.cons ((ArgO.va va)) (ArgOs.nil))))
           refine z ?_ (h:=fun Z=>cV (d:=150) (f:=121) (t:=137) (caps:=[13,5,6]) (os:=[(.o 13,some (.o ⟨22,1,true,[(.sl 41 0 256:A)]⟩)),(.o 5,some (.o ⟨3,1,true,[aI 0]⟩)),(.o 6,some (.o ⟨127,1,true,[(.fn 109 []:A)]⟩)),(.o 41,some (.o ⟨3,1,true,pl (isl (cT s i (bR s i) k))⟩))]) (os':=[(.o 13,some (.o ⟨22,1,true,[(.sl 41 0 256:A)]⟩)),(.o 5,some (.o ⟨3,1,true,[aI 0]⟩)),(.o 6,some (.o ⟨127,1,true,[(.fn 109 []:A)]⟩)),(.o 41,some (.o ⟨3,1,true,pl (isl (el (cT s i (bR s i) k) (k|||((2^ (((cN i).x).toNat))<<<1)) (wth ((cN i).x) (gI (bR s i) k))))⟩))]) (r:=V.v (.tuple #[])) (bs:=[.a (.val (.int .i64 (((k|||((2^ (((cN i).x).toNat))<<<1)):Nat):Int))),.a (.val (.int .i64 (wth ((cN i).x) (gI (bR s i) k))))]) (keep:=[13,5,6,41]) (new:=[]) (dead:=[]) Z (FnO.ren' (dQ (k|||((2^ (((cN i).x).toNat))<<<1)) 256 (wth ((cN i).x) (gI (bR s i) k)) (cT s i (bR s i) k) (by(rw[cQ];exact ij (by omega) (by omega))) (by omega) (by omega) (by(rw[nJ (by omega)];omega)) (by(rw[cQ];exact hbt _ (ij (by omega) (by omega))))) (aX [(2,13),(3,5),(4,6),(9,41)]) rfl rfl (by kernel_rfl) (by kernel_rfl) ⟨ocs (by kernel_rfl),ocs (by kernel_rfl),ocs (by kernel_rfl),bh (fun _=>rfl),trivial⟩ (by kernel_rfl) rfl (by simp only[bv,Ob.ren,aY,ak,am,aj,aO,aN];first |done |rfl) (by simp only[bv,Ob.ren,aY,ak,am,aj,aO,aN];first |done |rfl) rfl rfl) (by kernel_rfl) ⟨ocs (by kernel_rfl),ocs (by kernel_rfl),ocs (by kernel_rfl),bh (fun _=>rfl),trivial⟩ (by kernel_rfl) (ArgOs.cons ((ArgO.v vt)) (ArgOs.cons ((ArgO.v vt)) (ArgOs.nil))))
           refine nl (rg ?_)
           refine z ?_ (h:=fun Z=>aa Z vt vc (rA (by omega) (by omega)))
           refine zm (nl ?_)
           exact aA ((k+1)) (by show _≤_;omega) (by show 256-(k+1)<256-k;omega) (wkf id (wS<|wS<|wS<|wS<|wS<|wS<|wS<|wS<|wS<|wS<|wS<|wE (e:=(be (by rfl)))<|wX<|wX<|wX<|wX<|wP<|wO (e:=aJ (fun h=>h) (congrArg isl (by(rw[bt,lK hN hS hK];simp only[hD,hR,hK1,nJ hcx0,cQ,Bool.true_and,Bool.false_and,Bool.not_false,Bool.not_true,if_true,if_false,Bool.false_eq_true];first |done |rfl))))<|by(iterate 16 refine wF ?_);exact wN))
          ·skip
           have c16P:=of_decide_eq_false c16
           have hK1:k.testBit (i%8+1)=true:=and1 c16
           refine sk (rg ?_)
           refine z ?_ (h:=fun Z=>aa Z vt vc (rA (by omega) (by omega)))
           refine zm (nl ?_)
           exact aA ((k+1)) (by show _≤_;omega) (by show 256-(k+1)<256-k;omega) (wkf id (wS<|wS<|wS<|wS<|wS<|wS<|wS<|wS<|wS<|wS<|wS<|wE (e:=(be (by rfl)))<|wX<|wX<|wX<|wX<|wP<|wO (e:=aJ (fun h=>h) (congrArg isl (by(rw[bt,lK hN hS hK];simp only[hD,hR,hK1,nJ hcx0,cQ,Bool.true_and,Bool.false_and,Bool.not_false,Bool.not_true,if_true,if_false,Bool.false_eq_true];first |done |rfl))))<|by(iterate 16 refine wF ?_);exact wN))
         ·skip
          have hR:rtB s i=false:=(qj (by omega)).symm.trans c15
          refine rg (zm ?_)
          refine z ?_ (h:=fun Z=>aq (off':=0) Z dD rfl)
          refine z ?_ (h:=fun Z=>ah (x:= .val (.int .i64 ((cN i).x))) Z bu (by exact rfl))
          refine z ?_ (h:=fun Z=>aa Z vt vc (rA (by omega) (by omega)))
          refine z ?_ (h:=fun Z=>aq (off':=1) Z dU rfl)
          refine z ?_ (h:=fun Z=>ah (x:= .val (.int .i64 ((cN i).y))) Z bu (by exact rfl))
          refine z ?_ (h:=fun Z=>bC Z jq vt vt)
          refine z ?_ (h:=fun Z=>ag Z (bX s (⟨((cN i).x+1),(cN i).y⟩:Cel) (by omega)) (ac (ArgV.v vt) (ac (ArgV.va va) an)) (bi (congrArg Value.bool c15)))
          refine zm (zo (zo (zo (zo (zo ?_)))))
          refine z ?_ (h:=fun Z=>ar Z vt xc)
          refine nl (wf (sk (rg ?_)))
          refine z ?_ (h:=fun Z=>aa Z vt vc (rA (by omega) (by omega)))
          refine zm (nl ?_)
          exact aA ((k+1)) (by show _≤_;omega) (by show 256-(k+1)<256-k;omega) (wkf id (wS<|wS<|wS<|wS<|wS<|wS<|wS<|wS<|wS<|wS<|wS<|wE (e:=(be (by rfl)))<|wX<|wX<|wX<|wX<|wP<|wO (e:=aJ (fun h=>h) (congrArg isl (by(rw[bt,lK hN hS hK];simp only[hD,hR,nJ hcx0,cQ,Bool.true_and,Bool.false_and,Bool.not_false,Bool.not_true,if_true,if_false,Bool.false_eq_true];first |done |rfl))))<|by(iterate 16 refine wF ?_);exact wN))
      ·skip
       have hS:s.testBit i=false:=(IX (by omega)).symm.trans c10
       refine rg (zm ?_)
       refine z ?_ (h:=fun Z=>ab (xs:=[vI ((cN i).x),vI ((cN i).y)].map A.val) Z fL rfl (by decide) rfl)
       refine z ?_ (h:=fun Z=>ag Z (bX s (cN i) (by omega)) (ac (ArgV.v vt) (ac (ArgV.va va) an)) (bi (congrArg Value.bool c10)))
       refine z ?_ (h:=fun Z=>bn Z vt (bS (c:=true) rfl))
       refine zm ?_
       refine zg ?_ (h:=fun Z=>ae rfl rfl (mt Z))
       refine zg ?_ (h:=fun Z=>ae rfl rfl (mt Z))
       refine zg ?_ (h:=fun Z=>ae rfl rfl (aa Z vt vt (io (c:=(((k&&&(2^ (((cN i).x).toNat))):Nat):Int)) (pN (m:=k) (n:=(2^ (((cN i).x).toNat))) rfl rfl (by omega) (by omega)))))
       refine zg ?_ (h:=fun Z=>ae rfl rfl (aa Z vt vc (ct rfl)))
       refine z ?_ (h:=fun Z=>au Z vt xt)
       refine za (nl ?_)
       refine wi (fun c17=> ?_) (fun c17=> ?_)
       ·skip
        have c17P:=of_decide_eq_true c17
        have hK:k.testBit (i%8)=false:=and0 c17
        refine rg (zm (zm (zm ?_)))
        refine z ?_ (h:=fun Z=>cV (d:=80) (f:=121) (t:=77) (caps:=[13,5,6]) (os:=[(.o 13,some (.o ⟨22,1,true,[(.sl 41 0 256:A)]⟩)),(.o 5,some (.o ⟨3,1,true,[aI 0]⟩)),(.o 6,some (.o ⟨127,1,true,[(.fn 109 []:A)]⟩)),(.o 41,some (.o ⟨3,1,true,pl (isl (cT s i (bR s i) k))⟩))]) (os':=[(.o 13,some (.o ⟨22,1,true,[(.sl 41 0 256:A)]⟩)),(.o 5,some (.o ⟨3,1,true,[aI 0]⟩)),(.o 6,some (.o ⟨127,1,true,[(.fn 109 []:A)]⟩)),(.o 41,some (.o ⟨3,1,true,pl (isl (el (cT s i (bR s i) k) k (gI (bR s i) k)))⟩))]) (r:=V.v (.tuple #[])) (bs:=[.a (.val (.int .i64 ((k:Nat):Int))),.a (.val (.int .i64 (gI (bR s i) k)))]) (keep:=[13,5,6,41]) (new:=[]) (dead:=[]) Z (FnO.ren' (dQ k 256 (gI (bR s i) k) (cT s i (bR s i) k) (by omega) (by omega) (by omega) (by omega) (by exact hbt _ (by omega))) (aX [(2,13),(3,5),(4,6),(9,41)]) rfl rfl (by kernel_rfl) (by kernel_rfl) ⟨ocs (by kernel_rfl),ocs (by kernel_rfl),ocs (by kernel_rfl),bh (fun _=>rfl),trivial⟩ (by kernel_rfl) rfl (by simp only[bv,Ob.ren,aY,ak,am,aj,aO,aN];first |done |rfl) (by simp only[bv,Ob.ren,aY,ak,am,aj,aO,aN];first |done |rfl) rfl rfl) (by kernel_rfl) ⟨ocs (by kernel_rfl),ocs (by kernel_rfl),ocs (by kernel_rfl),bh (fun _=>rfl),trivial⟩ (by kernel_rfl) (ArgOs.cons ((ArgO.v vt)) (ArgOs.cons ((ArgO.v vt)) (ArgOs.nil))))
        refine nl (rg ?_)
        refine z ?_ (h:=fun Z=>aa Z vt vc (rA (by omega) (by omega)))
        refine zm (nl ?_)
        exact aA ((k+1)) (by show _≤_;omega) (by show 256-(k+1)<256-k;omega) (wkf id (wS<|wS<|wS<|wS<|wS<|wS<|wS<|wS<|wS<|wS<|wS<|wE (e:=(be (by rfl)))<|wX<|wX<|wX<|wX<|wP<|wO (e:=aJ (fun h=>h) (congrArg isl (by(rw[bt,sk_a hN hS hK];done))))<|by(iterate 16 refine wF ?_);exact wN))
       ·skip
        have c17P:=of_decide_eq_false c17
        have hK:k.testBit (i%8)=true:=and0 c17
        refine sq (rg (zm ?_))
        refine z ?_ (h:=fun Z=>ab (xs:=[vI ((cN i).x),vI ((cN i).y)].map A.val) Z fL rfl (by decide) rfl)
        refine z ?_ (h:=fun Z=>ag Z (bX s (cN i) (by omega)) (ac (ArgV.v vt) (ac (ArgV.va va) an)) (bi (congrArg Value.bool c10)))
        refine zm (zo (zo (zo (zo ?_))))
        refine z ?_ (h:=fun Z=>ar Z vt xc)
        refine za (nl (wf (sq (rg (zm ?_)))))
        refine z ?_ (h:=fun Z=>ab (xs:=[vI ((cN i).x),vI ((cN i).y)].map A.val) Z fL rfl (by decide) rfl)
        refine z ?_ (h:=fun Z=>ag Z (bX s (cN i) (by omega)) (ac (ArgV.v vt) (ac (ArgV.va va) an)) (bi (congrArg Value.bool c10)))
        refine za (nl (wf (sk (rg ?_))))
        refine z ?_ (h:=fun Z=>aa Z vt vc (rA (by omega) (by omega)))
        refine zm (nl ?_)
        exact aA ((k+1)) (by show _≤_;omega) (by show 256-(k+1)<256-k;omega) (wkf id (wS<|wS<|wS<|wS<|wS<|wS<|wS<|wS<|wS<|wS<|wS<|wE (e:=(be (by rfl)))<|wX<|wX<|wX<|wX<|wP<|wO (e:=aJ (fun h=>h) (congrArg isl (by(rw[bt,sk_d hN hS hK];done))))<|by(iterate 16 refine wF ?_);exact wN))
    ·skip
     have c8P:=of_decide_eq_false c8
     refine aU (rg ?_)
     refine z ?_ (h:=fun Z=>ah (x:= .sl 41 0 256) Z eY (by exact rfl))
     refine za (nl (rg ?_))
     refine z ?_ (h:=fun Z=>aa Z vt vc (rA (by omega) (by omega)))
     refine zm (nl ?_)
     exact aA ((i+1)) (by show _≤_;omega) (by show 64-(i+1)<64-i;omega) (wkf (aX [(19,41)]) (wS<|wS<|wS<|wS<|wE (e:=(vsl (by omega) rfl))<|wE (e:=(be (by rfl)))<|wX<|wX<|wO (e:=aJ (fun h=>h) (congrArg isl (by(have e:k=256:=by omega);subst e;rfl)))<|by(iterate 19 refine wF ?_);exact wN))
  ·skip
   have c4P:=of_decide_eq_false c4
   refine aU (sq (rg (zm ?_)))
   refine z ?_ (h:=fun Z=>ix0 (k:=0) Z cJ fp vc (hlt:=(by omega)))
   refine z ?_ (h:=fun Z=>lI (k:=0) Z bu (by omega))
   refine za (nl (aC ?_))
   exact VRes.tmp _ _ _ (by exact rfl) (ce (congrArg (Value.int .i64) (by(have e:i=64:=by omega);subst e;exact sZ hs)))
theorem nS (s:Nat) (hs:s<18446744073709551616):Fn Tryz.prog 89 [.a (.val (.int .u64 ((s:Nat):Int)))] [.val (.int .i64 (((cnt s):Nat):Int))]:=by
 refine bm (N:=5) Tryz.func89 rfl (by kernel_rfl) rfl (Nat.le_of_ble_eq_true rfl) [4] (dN rfl) (fun W=> ?_)
 show Wp _ _ _ [kU 0 ((s:Nat):Int),kF 4]
 refine sq (rg (zk (nl (sq (rg (zm ?_))))))
 refine z ?_ (h:=fun Z=>ag Z (rn s (by omega)) (ac (ArgV.v vt) (ac (ArgV.v vc) (ac (ArgV.fn 109) (ac (ArgV.fn 110) an)))) rv)
 refine za (nl (aC ?_))
 exact VRes.tmp _ _ _ (by exact rfl) (BRes.val _)
end Cl
end Go.Proofs.YtgmkkfdnmdohlaaGreatDoor
