/- Parts put together: C27, C28. -/
import Derived.Test.YtonlghbbdcddoaaGreatC26
import Derived.Test.YtonlghbbdcddoaaGreatC3w
import Derived.Test.YtonlghbbdcddoaaGreatClA
import Derived.Test.YtonlghbbdcddoaaGreatDoms
import Derived.Test.YtonlghbbdcddoaaGreatClB
import Derived.Test.YtonlghbbdcddoaaGreatCM
set_option maxHeartbeats 4000000
set_option maxRecDepth 100000
namespace Go.Proofs.YtonlghbbdcddoaaGreat
namespace Cl
open Go.ChangeShapes Go.WideShapes Go.ChangeAt Go.RowKit
def eqD (d e:Dom):Bool:=dEq d.x d.y d.d e.x e.y e.d
theorem GL (d e:Dom):dEq e.x e.y e.d d.x d.y d.d=eqD d e:=by unfold eqD dEq;rw[decide_eq_decide];constructor<;>(rintro⟨a,b,c⟩;exact⟨a.symm,b.symm,c.symm⟩)
theorem De (d e:Dom):eqD d e=decide (d=e):=by
 obtain⟨x,y,b⟩:=d;obtain⟨x',y',b'⟩:=e
 unfold eqD dEq;simp
theorem CS (ds:List Dom) (d:Dom):ds.any (eqD d)=decide (d∈ds):=by
 rw[Bool.eq_iff_iff,List.any_eq_true,decide_eq_true_eq]
 constructor
 ·rintro⟨e,he,h⟩;rw[De,decide_eq_true_eq]at h;rw[h];exact he
 ·intro h;exact⟨d,h,by rw[De];simp⟩
theorem JS {ds:List Dom} {d:Dom} {k:Nat} (hk:k<ds.length) (h:eqD d (gD ds k)=true):decide (d∈ds)=true:=by
 rw[←CS];exact List.any_eq_true.2 ⟨gD ds k,pS hk,h⟩
theorem MQ {ds:List Dom} {d:Dom} {k:Nat} (hk:¬(k:Int)<(ds.length:Int)) (h:(ds.take k).any (eqD d)=false):decide (d∈ds)=false:=by
 rw[List.take_of_length_le (by omega),CS]at h;exact h
def dOv (a b:Cel):Dom:=if nbr a b then⟨min a.x b.x,min a.y b.y,decide (a.x=b.x)⟩else⟨0,0,false⟩
def lfC (ax ay bx by':Int):Cel:=⟨iu ax bx ay by',iw ax bx ay by'⟩
def nu (s:Nat) (ds:List Dom) (p q:Cel):Bool:=(aP s p||aP s q)&& !(nbr p q&&decide (dOv p q∈ds))
theorem Bk (s:Nat) (ds:List Dom) (p q:Cel):nu s ds p q=nu s ds q p:=by
 unfold nu
 rw[vf q p,Bool.or_comm]
 congr 2
 cases h:nbr p q
 ·rfl
 ·have h2:nbr q p=true:=by rw[vf];exact h
  have e:dOv p q=dOv q p:=by
   unfold dOv;rw[if_pos h,if_pos h2]
   rw[Int.min_comm p.x,Int.min_comm p.y]
   congr 1
   rw[decide_eq_decide];exact⟨fun h=>h.symm,fun h=>h.symm⟩
  rw[e]
theorem Ky {x y:Int}:nbr ⟨x,y-1⟩ ⟨x,y⟩=true↔okD ⟨x,y-1,true⟩=true:=by
 unfold nbr okD
 rw[jU,Bool.and_eq_true,Bool.and_eq_true,bz,bz,decide_eq_true_eq]
 have e:fu (x-x)+fu (y-1-y)=1:=by unfold fu;split<;>split<;>omega
 simp only[e,if_true,and_true]
 omega
theorem Kx {x y:Int}:nbr ⟨x-1,y⟩ ⟨x,y⟩=true↔okD ⟨x-1,y,false⟩=true:=by
 unfold nbr okD
 rw[jU,Bool.and_eq_true,Bool.and_eq_true,bz,bz,decide_eq_true_eq]
 have e:fu (x-1-x)+fu (y-y)=1:=by unfold fu;split<;>split<;>omega
 simp only[e,Bool.false_eq_true,if_false,and_true]
 omega
theorem IA {s:Nat} {ds:List Dom} (hd:∀ d∈ds,okD d=true) (x y:Int):nu s ds ⟨x,y-1⟩ ⟨x,y⟩=opH s ds x y:=by
 unfold nu opH
 congr 2
 cases h:nbr ⟨x,y-1⟩ ⟨x,y⟩
 ·rw[Bool.false_and];symm;rw[decide_eq_false_iff_not];intro hm
  have:=Ky.2 (hd _ hm);rw[h]at this;cases this
 ·rw[Bool.true_and]
  unfold dOv;rw[if_pos h]
  simp only
  rw[show min x x=x by omega,show min (y-1) y=y-1 by omega];simp
theorem IB {s:Nat} {ds:List Dom} (hd:∀ d∈ds,okD d=true) (x y:Int):nu s ds ⟨x-1,y⟩ ⟨x,y⟩=opV s ds x y:=by
 unfold nu opV
 congr 2
 cases h:nbr ⟨x-1,y⟩ ⟨x,y⟩
 ·rw[Bool.false_and];symm;rw[decide_eq_false_iff_not];intro hm
  have:=Kx.2 (hd _ hm);rw[h]at this;cases this
 ·rw[Bool.true_and]
  unfold dOv;rw[if_pos h]
  simp only
  rw[show min y y=y by omega,show min (x-1) x=x-1 by omega]
  have:¬(x-1=x):=by omega
  simp [this]
theorem Cr:∀ (a b:Int) (c:Bool),Tryz.prog.built 54 [(0,.int .i64 a),(1,.int .i64 b),(2,.bool c)]=some ([.int .i64 a,.int .i64 b,.bool c]:List Value).toArray:=fun _ _ _=>rfl
theorem Cs:Tryz.prog.eqGuardType Tryz.prog.depth 54=false:=by kernel_rfl
theorem kw:ce Tryz.prog 67 0=some 0:=by kernel_rfl
theorem ra:ce Tryz.prog 67 1=some 1:=by kernel_rfl
theorem Ct:(Tryz.prog.info? 54).map (·.size)=some 3:=by kernel_rfl
theorem ky:TI Tryz.prog 3 false 1:=⟨⟨_,Tryz.underlying3,rfl⟩,by kernel_rfl⟩
theorem gj:TI Tryz.prog 54 true 3:=⟨⟨_,Tryz.underlying54,rfl⟩,by kernel_rfl⟩
theorem jm:TI Tryz.prog 67 true 2:=⟨⟨_,Tryz.underlying67,rfl⟩,by kernel_rfl⟩
theorem vw:Tryz.prog.underlying 27=some (.slice 54):=Tryz.underlying27
theorem vy:ZI Tryz.prog 54 (.agg #[.int .i64 0,.int .i64 0,.bool false]) 3 24:=by unfold ZI;kernel_rfl
theorem vz:ZI Tryz.prog 67 (.agg #[.int .i64 0,.int .i64 0]) 2 16:=by unfold ZI;kernel_rfl
theorem Ab (ds:List Dom) (d:Dom) (hd:ds.length≤2097152):Fn Tryz.prog 71 [.a (.slv ds.length 3 (dsl ds)),.agg ([vI d.x,vI d.y,.bool d.d].map A.val)] [.val (.bool (decide (d∈ds)))]:=by
 refine aN (N:=17) Tryz.func71 rfl (by kernel_rfl) rfl (Nat.le_of_ble_eq_true rfl) [3,6,8] (dB rfl) (fun W=> ?_)
 show Wp _ _ _ [kV 0 (V.b (.a (.slv ds.length 3 (dsl ds)))),kV 1 (V.av [vI d.x,vI d.y,.bool d.d]),kF 3,kF 6,kF 8]
 refine sq (rg ?_)
 refine z ?_ (h:=fun Z=>aM (h:=3) Z xt (by exact ob1 rfl))
 refine zk (nl (sq (sq (rg (zm ?_)))))
 refine z ?_ (h:=fun Z=>lnV Z vw)
 refine z ?_ (h:=fun Z=>mc Z)
 refine nl (bkk ?_)
 refine bf (fun(k:Nat)=>k≤ds.length∧(ds.take k).any (eqD d)=false) (fun(k:Nat)=>[kP 3 3 0,kV 7 (V.b (.a (.slv ds.length 3 (dsl ds)))),kI 8 ((ds.length:Nat):Int),kI 9 ((k:Nat):Int),kO 3 54 3 true [aI d.x,aI d.y,aB d.d],kF 6,kF 8]) (fun(k:Nat)=>ds.length-k) ((0:Nat)) (by exact⟨Nat.zero_le _,rfl⟩) (wkf id (wS<|wS<|wS<|wE (e:=(aO (by first |rfl |omega |(simp;done) |(simp;omega))))<|wX<|wF<|wF<|wN)) ?_
 rintro k inv1
 replace inv1:k≤ds.length∧(ds.take k).any (eqD d)=false:=inv1
 obtain⟨inv1_0,inv1_1⟩:=inv1
 refine sq (rg ?_)
 refine z ?_ (h:=fun Z=>ab Z vt vt (bP rfl))
 refine nl (sq ?_)
 refine wi (fun c2=> ?_) (fun c2=> ?_)
 ·skip
  have c2P:=of_decide_eq_true c2
  refine sk (sq (bkk (sq (rg ?_))))
  refine z ?_ (h:=fun Z=>ixv Z vw Ct vt)
  refine z ?_ (h:=fun Z=>uD Z gj)
  refine z ?_ (h:=fun Z=>aF (h:=6) (cap:=1) (s:=3) (cells:=[aI 0,aI 0,aB false]) Z vy rfl rfl (by decide))
  refine z ?_ (h:=fun _=>aw (cells:=[aI ((gD ds k).x),aI ((gD ds k).y),aB ((gD ds k).d)]) gj xt (by exact rfl) (by decide) (by exact ob1 rfl) (by exact Nat.le_of_ble_eq_true rfl) (by exact rfl))
  refine nl (sq (rg ?_))
  refine z ?_ (h:=fun Z=>aa (xs:=[vI d.x,vI d.y,.bool d.d].map A.val) Z gj rfl (by decide) rfl)
  refine z ?_ (h:=fun Z=>aa (xs:=[vI ((gD ds k).x),vI ((gD ds k).y),.bool ((gD ds k).d)].map A.val) Z gj rfl (by decide) rfl)
  refine z ?_ (h:=fun Z=>ab Z va va (re Cs (fun w=>(oo d.x d.y d.d ((gD ds k).x) ((gD ds k).y) ((gD ds k).d) w).trans (congrArg (fun z=>Result.ok (Value.bool z) w) (rfl:(dEq d.x d.y d.d ((gD ds k).x) ((gD ds k).y) ((gD ds k).d))=(dEq d.x d.y d.d ((gD ds k).x) ((gD ds k).y) ((gD ds k).d)))))))
  refine nl ?_
  refine wi (b:=(dEq d.x d.y d.d ((gD ds k).x) ((gD ds k).y) ((gD ds k).d))) (fun c3=> ?_) (fun c3=> ?_)
  ·skip
   refine sq (rg (zk (nl (aq ?_))))
   exact VRes.tmp _ _ _ (by exact rfl) (cc (congrArg Value.bool (by exact(JS (k:=k) (by omega) (by first |assumption |(rw[←GL];assumption))).symm)))
  ·skip
   refine sk (rg ?_)
   refine z ?_ (h:=fun Z=>ab Z vt vc rA)
   refine zm (nl ?_)
   exact ar ((k+1)) (by refine⟨by omega,rH (by omega) (by assumption) ?_⟩;first |assumption |(rw[←GL];assumption)) (by show ds.length-(k+1)<ds.length-k;omega) (wkf id (wS<|wS<|wS<|wE (e:=(aO (by first |rfl |omega |(simp;done) |(simp;omega))))<|wX<|wF<|wF<|wN))
 ·skip
  have c2P:=of_decide_eq_false c2
  refine aJ (sq (rg (zk (nl (aq ?_)))))
  exact VRes.tmp _ _ _ (by exact rfl) (cc (congrArg Value.bool (by exact(MQ (by assumption) (by assumption)).symm)))
theorem pW (a b:Cel):Fn Tryz.prog 70 [.agg ([vI a.x,vI a.y].map A.val),.agg ([vI b.x,vI b.y].map A.val)] [.val (.agg ([.int .i64 (dOv a b).x,.int .i64 (dOv a b).y,.bool (dOv a b).d]:List Value).toArray),.val (.bool (nbr a b))]:=by
 refine aN (N:=27) Tryz.func70 rfl (by kernel_rfl) rfl (Nat.le_of_ble_eq_true rfl) [2,3,4,8,15,20] (vO rfl rfl (by intro u hu;injection hu with hu;subst hu;rfl)) (fun W=> ?_)
 show Wp _ _ _ [kV 0 (V.av [vI a.x,vI a.y]),kV 1 (V.av [vI b.x,vI b.y]),kF 2,kF 3,kF 4,kF 8,kF 15,kF 20]
 refine sq (rg ?_)
 refine z ?_ (h:=fun Z=>aM (h:=2) Z xt (by exact ob1 rfl))
 refine z ?_ (h:=fun Z=>aM (h:=3) Z xt (by exact ob1 rfl))
 refine z ?_ (h:=fun Z=>aF (h:=4) (cap:=1) (s:=3) (cells:=[aI 0,aI 0,aB false]) Z vy rfl rfl (by decide))
 refine zk (nl (sq (sq (rg ?_))))
 refine z ?_ (h:=fun Z=>aa (xs:=[vI a.x,vI a.y].map A.val) Z jm rfl (by decide) rfl)
 refine z ?_ (h:=fun Z=>aa (xs:=[vI b.x,vI b.y].map A.val) Z jm rfl (by decide) rfl)
 refine z ?_ (h:=fun Z=>ah Z (nS a b ) (ac (ArgV.va va) (ac (ArgV.va va) an)) rv)
 refine z ?_ (h:=fun Z=>aK Z vt (bE rfl))
 refine nl ?_
 refine wi (b:=(!(nbr a b))) (fun c1=> ?_) (fun c1=> ?_)
 ·skip
  have c2:(nbr a b)=false:=by first |(rw[←Bool.not_eq_true'];exact c1) |simpa using c1
  refine sq (rg ?_)
  refine z ?_ (h:=fun Z=>jc (cells:=[vI 0,vI 0,.bool false]) Z OpVs.nil rfl)
  refine z ?_ (h:=fun _=>aw (cells:=[aI 0,aI 0,aB false]) gj xt (by exact rfl) (by decide) (by exact ob1 rfl) (by exact Nat.le_of_ble_eq_true rfl) (by exact rfl))
  refine zk (nl (aq ?_))
  exact⟨VRes.cells 4 54 4 ⟨54,3,true,[aI 0,aI 0,aB false]⟩ _ (by kernel_rfl) (by kernel_rfl) gj (Nat.le_of_ble_eq_true rfl) (nL (vs:=[vI 0,vI 0,.bool false]) (by simp_all [dOv])),VRes.tmp _ _ _ (by exact rfl) (cc (congrArg Value.bool (by simp_all [dOv])))⟩
 ·skip
  have c3:(nbr a b)=true:=by first |(rw[←Bool.not_eq_false'];exact c1) |simpa using c1
  refine sk (sq (rg ?_))
  refine z ?_ (h:=fun Z=>ak (off':=0) Z kw rfl)
  refine z ?_ (h:=fun Z=>ai (x:= .val (.int .i64 a.x)) Z ky (by exact rfl))
  refine z ?_ (h:=fun Z=>ak (off':=0) Z kw rfl)
  refine z ?_ (h:=fun Z=>ai (x:= .val (.int .i64 b.x)) Z ky (by exact rfl))
  refine z ?_ (h:=fun Z=>ux (c:=(min a.x b.x)) Z vt vt (by omega))
  refine z ?_ (h:=fun Z=>ak (off':=1) Z ra rfl)
  refine z ?_ (h:=fun Z=>ai (x:= .val (.int .i64 a.y)) Z ky (by exact rfl))
  refine z ?_ (h:=fun Z=>ak (off':=1) Z ra rfl)
  refine z ?_ (h:=fun Z=>ai (x:= .val (.int .i64 b.y)) Z ky (by exact rfl))
  refine z ?_ (h:=fun Z=>ux (c:=(min a.y b.y)) Z vt vt (by omega))
  refine z ?_ (h:=fun Z=>ak (off':=0) Z kw rfl)
  refine z ?_ (h:=fun Z=>ai (x:= .val (.int .i64 a.x)) Z ky (by exact rfl))
  refine z ?_ (h:=fun Z=>ak (off':=0) Z kw rfl)
  refine z ?_ (h:=fun Z=>ai (x:= .val (.int .i64 b.x)) Z ky (by exact rfl))
  refine z ?_ (h:=fun Z=>ab Z vt vt (cW rfl))
  refine z ?_ (h:=fun Z=>bD Z Cr vt vt vt)
  refine z ?_ (h:=fun _=>aw (cells:=[aI (min a.x b.x),aI (min a.y b.y),aB (decide (a.x=b.x))]) gj xt (by exact rfl) (by decide) (by exact ob1 rfl) (by exact Nat.le_of_ble_eq_true rfl) (by exact rfl))
  refine zk (nl (aq ?_))
  exact⟨VRes.cells 4 54 4 ⟨54,3,true,[aI (min a.x b.x),aI (min a.y b.y),aB (decide (a.x=b.x))]⟩ _ (by kernel_rfl) (by kernel_rfl) gj (Nat.le_of_ble_eq_true rfl) (nL (vs:=[vI (min a.x b.x),vI (min a.y b.y),.bool (decide (a.x=b.x))]) (by simp_all [dOv])),VRes.tmp _ _ _ (by exact rfl) (cc (congrArg Value.bool (by simp_all [dOv])))⟩
theorem nY (a b c d:Int) (g1: -1000≤a) (g2:a≤1000) (g3: -1000≤b) (g4:b≤1000):Fn Tryz.prog 97 [.a (.val (.int .i64 a)),.a (.val (.int .i64 b)),.a (.val (.int .i64 c)),.a (.val (.int .i64 d))] [.val (.agg ([.int .i64 (lfC a b c d).x,.int .i64 (lfC a b c d).y]:List Value).toArray)]:=by
  refine⟨⟨_,Tryz.func97,by kernel_rfl,by kernel_rfl⟩,fun w args h=> ?_⟩
  match args,eA.1 h with
  | [u0,u1,u2,u3],⟨h0,h1,h2,h3,_⟩=>
    obtain rfl:=fO h0
    obtain rfl:=fO h1
    obtain rfl:=fO h2
    obtain rfl:=fO h3
    refine Calls.mono (Aq a b c d w g1 g2 g3 g4) ?_
    rintro e w' ⟨rfl,hb⟩
    exact⟨_,rfl,rfl,hb⟩
theorem tJ (a b c d:Int) (g1: -1000≤a) (g2:a≤1000) (g3: -1000≤b) (g4:b≤1000) (g5: -1000≤c) (g6:c≤1000) (g7: -1000≤d) (g8:d≤1000):Fn Tryz.prog 69 [.a (.val (.int .i64 a)),.a (.val (.int .i64 b)),.a (.val (.int .i64 c)),.a (.val (.int .i64 d))] [.val (.agg ([.int .i64 (lfC a b c d).x,.int .i64 (lfC a b c d).y]:List Value).toArray),.val (.agg ([.int .i64 (lfC c d a b).x,.int .i64 (lfC c d a b).y]:List Value).toArray)]:=by
 refine aN (N:=20) Tryz.func69 rfl (by kernel_rfl) rfl (Nat.le_of_ble_eq_true rfl) [8,9,14,19] (vO rfl rfl (by intro u hu;injection hu with hu;subst hu;rfl)) (fun W=> ?_)
 show Wp _ _ _ [kI 0 a,kI 1 b,kI 2 c,kI 3 d,kF 8,kF 9,kF 14,kF 19]
 refine sq (rg ?_)
 refine z ?_ (h:=fun Z=>aF (h:=8) (cap:=1) (s:=2) (cells:=[aI 0,aI 0]) Z vz rfl rfl (by decide))
 refine z ?_ (h:=fun Z=>aF (h:=9) (cap:=1) (s:=2) (cells:=[aI 0,aI 0]) Z vz rfl rfl (by decide))
 refine nl (sq (rg (zm (zm (zm (zm ?_))))))
 refine z ?_ (h:=fun Z=>ah Z (nY a b c d (by omega) (by omega) (by omega) (by omega)) (ac (ArgV.v vt) (ac (ArgV.v vt) (ac (ArgV.v vt) (ac (ArgV.v vt) an)))) (ResV.agg [vI ((lfC a b c d).x),vI ((lfC a b c d).y)]))
 refine zm (zm (zm (zm ?_)))
 refine z ?_ (h:=fun Z=>ah Z (nY c d a b (by omega) (by omega) (by omega) (by omega)) (ac (ArgV.v vt) (ac (ArgV.v vt) (ac (ArgV.v vt) (ac (ArgV.v vt) an)))) (ResV.agg [vI ((lfC c d a b).x),vI ((lfC c d a b).y)]))
 refine z ?_ (h:=fun _=>aw (cells:=[aI ((lfC a b c d).x),aI ((lfC a b c d).y)]) jm xt (by exact rfl) (by decide) (by exact ob1 rfl) (by exact Nat.le_of_ble_eq_true rfl) (by exact rfl))
 refine z ?_ (h:=fun _=>aw (cells:=[aI ((lfC c d a b).x),aI ((lfC c d a b).y)]) jm xt (by exact rfl) (by decide) (by exact ob1 rfl) (by exact Nat.le_of_ble_eq_true rfl) (by exact rfl))
 refine nl (aq ?_)
 exact⟨VRes.cells 8 67 8 ⟨67,2,true,[aI ((lfC a b c d).x),aI ((lfC a b c d).y)]⟩ _ (by kernel_rfl) (by kernel_rfl) jm (Nat.le_of_ble_eq_true rfl) (nL (vs:=[vI ((lfC a b c d).x),vI ((lfC a b c d).y)]) (by rfl)),VRes.cells 9 67 9 ⟨67,2,true,[aI ((lfC c d a b).x),aI ((lfC c d a b).y)]⟩ _ (by kernel_rfl) (by kernel_rfl) jm (Nat.le_of_ble_eq_true rfl) (nL (vs:=[vI ((lfC c d a b).x),vI ((lfC c d a b).y)]) (by rfl))⟩
theorem sa (a b c d:Int):Fn Tryz.prog 68 [.a (.val (.int .i64 a)),.a (.val (.int .i64 b)),.a (.val (.int .i64 c)),.a (.val (.int .i64 d))] [.val (.int .i64 (iX a b c d))]:=by
  refine⟨⟨_,Tryz.func68,by kernel_rfl,by kernel_rfl⟩,fun w args h=> ?_⟩
  match args,eA.1 h with
  | [u0,u1,u2,u3],⟨h0,h1,h2,h3,_⟩=>
    obtain rfl:=fO h0
    obtain rfl:=fO h1
    obtain rfl:=fO h2
    obtain rfl:=fO h3
    refine Calls.mono (wz a b c d w) ?_
    rintro e w' ⟨rfl,hb⟩
    exact⟨_,rfl,rfl,hb⟩
def tg (d:Int × Int):Prop:=d=(1,0)∨d=(-1,0)∨d=(0,1)∨d=(0, -1)
theorem kk (t:Nat):tg (aL t):=(Jz t).1
theorem cXY {u:Nat} (h:u<81):(0≤cX u∧cX u≤8)∧(0≤cY u∧cY u≤8):=by unfold cX cY;omega
theorem HL (n:Int):par (n-1)=sg n∧par n= -(sg n):=by
 unfold par sg;constructor<;>split<;>split<;>omega
theorem in_sp {u:Nat} (hu:u<81) (d:Int × Int):_root_.Go.Proofs.YtonlghbbdcddoaaGreat.stepOk (cX u) (cY u) (cX u+d.1) (cY u+d.2)=inD u d:=by
 obtain⟨h1,h2⟩:=cXY hu
 unfold _root_.Go.Proofs.YtonlghbbdcddoaaGreat.stepOk inD;rw[bw.2 h1,bw.2 h2];simp
theorem xg {u:Nat} (hu:u<81) {d:Int × Int} (hd:tg d):iX (cX u) (cY u) (cX u+d.1) (cY u+d.2)=if inD u d=true then stE u (atU u d)else 0:=by
 unfold iX
 rw[in_sp hu d]
 split
 ·rename_i hi
  obtain⟨_,h2,h3⟩:=pP hi
  unfold stE;rw[h3]
  obtain⟨p1,p2⟩:=HL (cX u+cY u)
  rcases hd with rfl |rfl |rfl |rfl
  ·simp only[Int.add_zero]
   rw[if_pos ⟨trivial,trivial⟩,if_pos trivial,show cX u+(cY u-1)=cX u+cY u-1 by omega,p1]
  ·simp only[Int.add_zero]
   rw[if_neg (by omega),if_pos ⟨by omega,trivial⟩,if_pos trivial,show cX u+ -1+cY u=cX u+cY u-1 by omega,p1]
  ·simp only[Int.add_zero]
   rw[if_neg (by omega),if_neg (by omega),if_pos ⟨trivial,trivial⟩,if_neg (by omega),p2]
  ·simp only[Int.add_zero]
   rw[if_neg (by omega),if_neg (by omega),if_neg (by omega),if_pos ⟨trivial,by omega⟩,if_neg (by omega),show cX u-1+(cY u+ -1)=(cX u+cY u)-1-1 by omega,(HL (cX u+cY u-1)).1]
   have:=rn (cX u+cY u-1)
   rw[show cX u+cY u-1+1=cX u+cY u by omega]at this
   omega
 ·rfl
theorem lf_1 (x y:Int):lfC x y (x+1) y=⟨x,y-1⟩:=by unfold lfC iu iw;rw[if_pos (by omega),if_pos (by omega)]
theorem lf_2 (x y:Int):lfC (x+1) y x y=⟨x,y⟩:=by unfold lfC iu iw;rw[if_neg (by omega),if_pos (by omega),if_neg (by omega),if_pos (by omega)]
theorem lf_3 (x y:Int):lfC x y x (y+1)=⟨x,y⟩:=by unfold lfC iu iw;rw[if_neg (by omega),if_neg (by omega),if_pos (by omega),if_neg (by omega),if_neg (by omega),if_pos (by omega)]
theorem lf_4 (x y:Int):lfC x (y+1) x y=⟨x-1,y⟩:=by unfold lfC iu iw;rw[if_neg (by omega),if_neg (by omega),if_neg (by omega),if_neg (by omega),if_neg (by omega),if_neg (by omega)]
theorem KA {s:Nat} {ds:List Dom} {u:Nat} (hu:u<81) {d:Int × Int} (hd:tg d) (hi:inD u d=true):opE s ds u (atU u d)=if d.2=0 then opH s ds (min (cX u) (cX u+d.1)) (cY u)else opV s ds (cX u) (min (cY u) (cY u+d.2)):=by
 obtain⟨_,h2,h3⟩:=pP hi
 unfold opE;rw[h2,h3]
 rcases hd with rfl |rfl |rfl |rfl
 ·simp only[Int.add_zero]
  rw[if_pos ⟨trivial,trivial⟩,if_pos trivial,show min (cX u) (cX u+1)=cX u by omega]
 ·simp only[Int.add_zero]
  rw[if_neg (by omega),if_pos ⟨trivial,by omega⟩,if_pos trivial,show min (cX u) (cX u+ -1)=cX u+ -1 by omega]
 ·simp only[Int.add_zero]
  rw[if_neg (by omega),if_neg (by omega),if_pos ⟨trivial,trivial⟩,if_neg (by decide),show min (cY u) (cY u+1)=cY u by omega]
 ·simp only[Int.add_zero]
  rw[if_neg (by omega),if_neg (by omega),if_neg (by omega),if_pos ⟨trivial,by omega⟩,if_neg (by decide),show min (cY u) (cY u+ -1)=cY u+ -1 by omega]
theorem LN {s:Nat} {ds:List Dom} (hk:∀ d∈ds,okD d=true) {u:Nat} (hu:u<81) {d:Int × Int} (hd:tg d) (hi:inD u d=true):opE s ds u (atU u d)=nu s ds (lfC (cX u) (cY u) (cX u+d.1) (cY u+d.2)) (lfC (cX u+d.1) (cY u+d.2) (cX u) (cY u)):=by
 rw[KA hu hd hi]
 rcases hd with rfl |rfl |rfl |rfl
 ·simp only[Int.add_zero]
  rw[if_pos trivial,lf_1,lf_2,IA hk,show min (cX u) (cX u+1)=cX u by omega]
 ·simp only[Int.add_zero]
  rw[if_pos trivial,Bk]
  have e1:=lf_1 (cX u+ -1) (cY u)
  have e2:=lf_2 (cX u+ -1) (cY u)
  rw[show cX u+ -1+1=cX u by omega]at e1 e2
  rw[e1,e2,IA hk,show min (cX u) (cX u+ -1)=cX u+ -1 by omega]
 ·simp only[Int.add_zero]
  rw[if_neg (by decide),Bk,lf_3,lf_4,IB hk,show min (cY u) (cY u+1)=cY u by omega]
 ·simp only[Int.add_zero]
  rw[if_neg (by decide)]
  have e1:=lf_3 (cX u) (cY u+ -1)
  have e2:=lf_4 (cX u) (cY u+ -1)
  rw[show cY u+ -1+1=cY u by omega]at e1 e2
  rw[e1,e2,IB hk,show min (cY u) (cY u+ -1)=cY u+ -1 by omega]
theorem HIn.bd2 {dir:Nat→Int × Int} {l:List Int} {ds:List Dom} {L M:List Nat} {u t:Nat} (h:HIn dir l ds L u t M) {v:Nat} (hv:v<81): -1000≤gI (hsL l ds M) v∧gI (hsL l ds M) v≤80:=by
 rw[uP hv];split
 ·rename_i hm
  have h1:=h.bd v hm
  have h2:=h.len
  omega
 ·omega
theorem Ei {l:List Int} {ds:List Dom} (h:ct l ds=true):∀ d∈ds,okD d=true:=by
 unfold ct at h;simp only[Bool.and_eq_true]at h
 exact fun d hd=>ks h.1 hd
def bX (dir:Nat→Int × Int) (u t:Nat):Int:=cX u+(dir t).1
def bY (dir:Nat→Int × Int) (u t:Nat):Int:=cY u+(dir t).2
theorem Bz {dir:Nat→Int × Int} (hd:∀ t,tg (dir t)) {u:Nat} (hu:u<81) (t:Nat):(-1≤bX dir u t∧bX dir u t≤9)∧(-1≤bY dir u t∧bY dir u t≤9):=by
 obtain⟨h1,h2⟩:=cXY hu
 unfold bX bY
 rcases hd t with h |h |h |h<;>rw[h]<;>simp only<;>omega
theorem in_b {dir:Nat→Int × Int} {u t:Nat} (h:inD u (dir t)=true):(0≤bX dir u t∧bX dir u t≤8)∧(0≤bY dir u t∧bY dir u t≤8):=by
 unfold inD at h;rw[Bool.and_eq_true,bw,bw]at h;exact h
theorem LV {dir:Nat→Int × Int} (hd:∀ t,tg (dir t)) {u:Nat} (hu:u<81) {t:Nat} (h:iX (cX u) (cY u) (bX dir u t) (bY dir u t)=0):inD u (dir t)=false:=by
 have:=xg hu (hd t)
 unfold bX bY at h
 rw[h]at this
 cases hi:inD u (dir t)
 ·rfl
 ·rw[hi,if_pos rfl]at this
  rcases ur u (atU u (dir t))with e |e<;>omega
theorem CI {dir:Nat→Int × Int} (hd:∀ t,tg (dir t)) {u:Nat} (hu:u<81) {t:Nat} (h:¬iX (cX u) (cY u) (bX dir u t) (bY dir u t)=0):inD u (dir t)=true∧iX (cX u) (cY u) (bX dir u t) (bY dir u t)=stE u (atU u (dir t)):=by
 have:=xg hu (hd t)
 unfold bX bY at h⊢
 cases hi:inD u (dir t)
 ·rw[hi]at this;exact absurd (by simpa using this) h
 ·rw[hi,if_pos rfl]at this;exact⟨rfl,this⟩
theorem mI {l:List Int} {ds:List Dom} (h:(cu l&&ct l ds)=false):hts l ds=[]:=by unfold hts;rw[h];rfl
theorem fA {l:List Int} {ds:List Dom} (h:(cu l&&ct l ds)=true):hts l ds=cj l ds:=by unfold hts;rw[if_pos h]
theorem Il (i:Nat) (z:Int):List.replicate i z++[z]=List.replicate (i+1) z:=(List.replicate_succ' ..).symm
end Cl
end Go.Proofs.YtonlghbbdcddoaaGreat
