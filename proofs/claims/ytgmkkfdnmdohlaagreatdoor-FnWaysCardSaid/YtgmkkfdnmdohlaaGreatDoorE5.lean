/- Walks. -/
import Derived.Test.YtgmkkfdnmdohlaaGreatDoorE4
import Derived.Test.YtgmkkfdnmdohlaaGreatDoorFlip
import Derived.Test.YtgmkkfdnmdohlaaGreatDoorFlips
import Derived.Test.YtgmkkfdnmdohlaaGreatDoorSortS
import Derived.Test.YtgmkkfdnmdohlaaGreatDoorS0
import Derived.Test.YtgmkkfdnmdohlaaGreatDoorClB
set_option linter.unusedSimpArgs false
set_option linter.unusedVariables false
set_option maxHeartbeats 4000000
set_option maxRecDepth 100000
namespace Go.Proofs.YtgmkkfdnmdohlaaGreatDoor
namespace Cl
open Go.ChangeShapes Go.WideShapes Go.ChangeAt Go.RowKit
theorem BH {l:List Dom} {k:Nat} (h:k<l.length) (x y:Int) (d:Bool):eJ (l.take (k+1)) x y d=(eJ (l.take k) x y d||dEq x y d (gD l k).x (gD l k).y (gD l k).d):=by
 unfold eJ
 rw[List.take_succ_eq_append_getElem h,gl h,Bool.eq_iff_iff]
 simp only[decide_eq_true_eq,Bool.or_eq_true,List.mem_append,List.mem_singleton]
 rw[show dEq x y d l[k].x l[k].y l[k].d=decide ((⟨x,y,d⟩:Dom)=l[k]) from em ⟨x,y,d⟩ l[k]]
 simp
theorem Hb {l:List Dom} {k:Nat} (h:k<l.length) {x y:Int} {d:Bool} (he:dEq x y d (gD l k).x (gD l k).y (gD l k).d=true):eJ l x y d=true:=by
 rw[show dEq x y d (gD l k).x (gD l k).y (gD l k).d=decide ((⟨x,y,d⟩:Dom)=gD l k) from em ⟨x,y,d⟩ (gD l k)]at he
 unfold eJ
 simp only[decide_eq_true_eq]at he⊢
 rw[he,gl h];exact List.getElem_mem h
def pr0 (c:Cel) (b:Bool):Dom:=⟨c.x,c.y,b⟩
def pr1 (c:Cel) (b:Bool):Dom:=if b then⟨c.x+1,c.y,true⟩else⟨c.x,c.y+1,false⟩
def kp (g0 g1 z:Dom):Bool:= !(dEq z.x z.y z.d g0.x g0.y g0.d)&& !(dEq z.x z.y z.d g1.x g1.y g1.d)
def lz (l:List Dom) (c:Cel):List Dom:=cG ([pr0 c (acB l c.x c.y),pr1 c (acB l c.x c.y)]++l.filter (kp (pr0 c (!(acB l c.x c.y))) (pr1 c (!(acB l c.x c.y)))))
def aR (l:List Dom) (c:Cel):List Dom:=if cS l c.x c.y then lz l c else l
theorem dA {p:Dom→Bool} {l:List Dom} {k:Nat} (h:k<l.length) (hp:p (gD l k)=true) (L:List Dom):L++(l.take (k+1)).filter p=(L++(l.take k).filter p)++[gD l k]:=by
 rw[List.take_succ_eq_append_getElem h,List.filter_append,←gl h];simp [hp]
theorem dg {p:Dom→Bool} {l:List Dom} {k:Nat} (h:k<l.length) (hp:p (gD l k)=false) (L:List Dom):L++(l.take (k+1)).filter p=L++(l.take k).filter p:=by
 rw[List.take_succ_eq_append_getElem h,List.filter_append,←gl h];simp [hp]
theorem jF {l:List Dom} {x y:Int} (h:cS l x y=true):0≤x∧x≤6∧0≤y∧y≤6:=by
 unfold cS at h
 simp only[Bool.and_eq_true]at h
 have h1:=bP.1 h.1.1;have h2:=bP.1 h.1.2;omega
theorem mG (p:Dom→Bool) (l:List Dom) (k:Nat) (L:List Dom):(L++(l.take k).filter p).length≤k+L.length:=by
 have:=List.length_filter_le p (l.take k);simp at this⊢;omega
theorem ET (c:Cel) (b:Bool):(⟨if b then c.x+1 else c.x,if b then c.y else c.y+1,b⟩:Dom)=pr1 c b:=by cases b<;>rfl
theorem GJ (p:Dom→Bool) (l:List Dom) (a b:Dom):([a,b]++l.filter p).length≤l.length+2:=by
 have:=List.length_filter_le p l;simp at this⊢;omega
theorem mH {l:List Dom} {c:Cel} {k:Nat} {n0 n1 g0 g1:Dom} (hk:¬(k:Int)<(l.length:Int)) (hc:cS l c.x c.y=true) (a:Bool) (ha:acB l c.x c.y=a)
   (e0:n0=pr0 c a) (e1:n1=pr1 c a) (e2:g0=pr0 c !a) (e3:g1=pr1 c !a):cG ([n0,n1]++(l.take k).filter (kp g0 g1))=aR l c:=by
  subst ha;subst e0;subst e1;subst e2;subst e3
  rw[List.take_of_length_le (by omega)]
  unfold aR;rw[if_pos hc];rfl
theorem CK (l:List Dom):(cG l).length≤l.length:=ol l
theorem nO (l:List Dom) (c:Cel):(aR l c).length≤l.length+2:=by
 unfold aR;split
 ·exact Nat.le_trans (CK _) (GJ _ _ _ _)
 ·omega
theorem Av {l:List Dom} {x y:Int} (h:¬bc l x y=0):cS l x y=true:=by
 rw[←uL]
 unfold bc at h⊢;split at h<;>(try split at h)<;>(try split at h)<;>simp_all
theorem Es {l:List Dom} {x y:Int} (h:¬bc l x y=0):decide (bc l x y=2)= !(acB l x y)∧decide (bc l x y=1)=acB l x y:=by
 unfold bc at h⊢;split at h<;>(try split at h)<;>(try split at h)<;>simp_all
theorem Hi {l:List Dom} {x y:Int} (h:bc l x y=0):cS l x y=false:=by
 rw[←uL,h];rfl
theorem dH:Tryz.prog.eqGuardType Tryz.prog.depth 62=false:=by kernel_rfl
theorem bQ:(Tryz.prog.info? 62).map (·.size)=some 3:=by kernel_rfl
theorem aZ:TI Tryz.prog 62 true 3:=⟨⟨_,Tryz.underlying62,rfl⟩,by kernel_rfl⟩
theorem kw:TI Tryz.prog 70 true 2:=⟨⟨_,Tryz.underlying70,rfl⟩,by kernel_rfl⟩
theorem eG:TI Tryz.prog 93 true 6:=⟨⟨_,Tryz.underlying93,rfl⟩,by kernel_rfl⟩
theorem bN:Tryz.prog.underlying 31=some (.slice 62):=Tryz.underlying31
theorem cA:Tryz.prog.underlying 93=some (.array 2 62):=Tryz.underlying93
theorem cf:ZI Tryz.prog 62 (.agg #[.int .i64 0,.int .i64 0,.bool false]) 3 24:=by unfold ZI;kernel_rfl
theorem vi:ZI Tryz.prog 93 (.agg #[.int .i64 0,.int .i64 0,.bool false,.int .i64 0,.int .i64 0,.bool false]) 6 48:=by unfold ZI;kernel_rfl
theorem rl (l:List Dom) (c:Cel) (hl:l.length≤4194304):Fn Tryz.prog 70 [.a (.slv l.length 3 (dsl l)),.agg ([vI c.x,vI c.y].map A.val)] [.val (.bool (cS l c.x c.y))]:=by
  refine⟨⟨_,Tryz.func70,by kernel_rfl,by kernel_rfl⟩,fun w args h=> ?_⟩
  match args,dK.1 h with
  | [u0,u1],⟨h0,h1,_⟩=>
    obtain⟨A0,c0,rfl,hc0,hr0⟩:=jZ h0
    obtain rfl:=jE h1
    refine Calls.mono (kN l A0 l.length c0 c.x c.y w hr0 hl) ?_
    rintro e w' ⟨rfl,hb⟩
    exact⟨_,rfl,rfl,hb⟩
theorem rD (l:List Dom) (c:Cel) (hl:l.length≤4194304):Fn Tryz.prog 69 [.a (.slv l.length 3 (dsl l)),.agg ([vI c.x,vI c.y].map A.val)] [.val (.int .i64 (bc l c.x c.y))]:=by
  refine⟨⟨_,Tryz.func69,by kernel_rfl,by kernel_rfl⟩,fun w args h=> ?_⟩
  match args,dK.1 h with
  | [u0,u1],⟨h0,h1,_⟩=>
    obtain⟨A0,c0,rfl,hc0,hr0⟩:=jZ h0
    obtain rfl:=jE h1
    refine Calls.mono (BK l A0 l.length c0 c.x c.y w hr0 hl) ?_
    rintro e w' ⟨rfl,hb⟩
    exact⟨_,rfl,rfl,hb⟩
theorem gn (l:List Dom) (d:Dom) (hl:l.length≤4194304):Fn Tryz.prog 73 [.a (.slv l.length 3 (dsl l)),.agg ([vI d.x,vI d.y,.bool d.d].map A.val)] [.val (.bool (eJ l d.x d.y d.d))]:=by
 refine bm (N:=17) Tryz.func73 rfl (by kernel_rfl) rfl (Nat.le_of_ble_eq_true rfl) [3,6,8] (dN rfl) (fun W=> ?_)
 show Wp _ _ _ [kV 0 (V.b (.a (.slv l.length 3 (dsl l)))),kV 1 (V.av [vI d.x,vI d.y,.bool d.d]),kF 3,kF 6,kF 8]
 refine sq (rg ?_)
 refine z ?_ (h:=fun Z=>bo (h:=3) Z xt (by exact ob1 rfl))
 refine zk (nl (sq (sq (rg (zm ?_)))))
 refine z ?_ (h:=fun Z=>lnV Z bN)
 refine z ?_ (h:=fun Z=>mc Z)
 refine nl (bkk ?_)
 refine bg (fun(k:Nat)=>k≤l.length∧eJ (l.take k) d.x d.y d.d=false) (fun(k:Nat)=>[kP 3 3 0,kV 7 (V.b (.a (.slv l.length 3 (dsl l)))),kI 8 ((l.length:Nat):Int),kI 9 ((k:Nat):Int),kO 3 62 3 true [aI d.x,aI d.y,aB d.d],kF 6,kF 8]) (fun(k:Nat)=>l.length-k) ((0:Nat)) (by exact⟨Nat.zero_le _,by simp [eJ]⟩) (wkf id (wS<|wS<|wS<|wE (e:=(be (by rfl)))<|wX<|wF<|wF<|wN)) ?_
 rintro k inv1
 replace inv1:k≤l.length∧eJ (l.take k) d.x d.y d.d=false:=inv1
 obtain⟨inv1_0,inv1_1⟩:=inv1
 refine sq (rg ?_)
 refine z ?_ (h:=fun Z=>aa Z vt vt (bA rfl))
 refine nl (sq ?_)
 refine wi (fun c2=> ?_) (fun c2=> ?_)
 ·skip
  have c2P:=of_decide_eq_true c2
  refine sk (sq (bkk (sq (rg ?_))))
  refine z ?_ (h:=fun Z=>ixv Z bN bQ vt)
  refine z ?_ (h:=fun Z=>uD Z aZ)
  refine z ?_ (h:=fun Z=>aL (h:=6) (cap:=1) (s:=3) (cells:=[aI 0,aI 0,aB false]) Z cf rfl rfl (by decide))
  refine z ?_ (h:=fun _=>aE (cells:=[aI ((gD l k).x),aI ((gD l k).y),aB ((gD l k).d)]) aZ xt (by exact rfl) (by decide) (by exact ob1 rfl) (by exact Nat.le_of_ble_eq_true rfl) (by exact rfl))
  refine nl (sq (rg ?_))
  refine z ?_ (h:=fun Z=>ab (xs:=[vI d.x,vI d.y,.bool d.d].map A.val) Z aZ rfl (by decide) rfl)
  refine z ?_ (h:=fun Z=>ab (xs:=[vI ((gD l k).x),vI ((gD l k).y),.bool ((gD l k).d)].map A.val) Z aZ rfl (by decide) rfl)
  refine z ?_ (h:=fun Z=>aa Z va va (pt dH (fun w=>(ga d.x d.y d.d ((gD l k).x) ((gD l k).y) ((gD l k).d) w).trans (congrArg (fun z=>Result.ok (Value.bool z) w) (rfl:(dEq d.x d.y d.d ((gD l k).x) ((gD l k).y) ((gD l k).d))=(dEq d.x d.y d.d ((gD l k).x) ((gD l k).y) ((gD l k).d)))))))
  refine nl ?_
  refine wi (b:=(dEq d.x d.y d.d ((gD l k).x) ((gD l k).y) ((gD l k).d))) (fun c3=> ?_) (fun c3=> ?_)
  ·skip
   refine sq (rg (zk (nl (aC ?_))))
   exact VRes.tmp _ _ _ (by exact rfl) (ce (congrArg Value.bool (by exact(Hb (k:=k) (by omega) (by assumption)).symm)))
  ·skip
   refine sk (rg ?_)
   refine z ?_ (h:=fun Z=>aa Z vt vc rA)
   refine zm (nl ?_)
   exact aA ((k+1)) (by refine⟨by omega,?_⟩;rw[BH (by omega)];simp_all) (by show l.length-(k+1)<l.length-k;omega) (wkf id (wS<|wS<|wS<|wE (e:=(be (by rfl)))<|wX<|wF<|wF<|wN))
 ·skip
  have c2P:=of_decide_eq_false c2
  refine aU (sq (rg (zk (nl (aC ?_)))))
  exact VRes.tmp _ _ _ (by exact rfl) (ce (congrArg Value.bool (by(have e:k=l.length:=by omega);subst e;simp_all)))
theorem ue (c:Cel) (hb:0≤c.x∧c.x≤6∧0≤c.y∧c.y≤6):Fn Tryz.prog 72 [.agg ([vI c.x,vI c.y].map A.val)] [.val (.agg ([vI c.x,vI c.y,.bool false,vI c.x,vI (c.y+1),.bool false]:List Value).toArray),.val (.agg ([vI c.x,vI c.y,.bool true,vI (c.x+1),vI c.y,.bool true]:List Value).toArray)]:=by
  refine⟨⟨_,Tryz.func72,by kernel_rfl,by kernel_rfl⟩,fun w args h=> ?_⟩
  match args,dK.1 h with
  | [u0],⟨h0,_⟩=>
    obtain rfl:=jE h0
    refine Calls.mono (AJ c.x c.y hb.1 hb.2.1 hb.2.2.1 hb.2.2.2 w) ?_
    rintro e w' ⟨rfl,hb⟩
    exact⟨_,rfl,Fo rfl rfl rfl,hb⟩
theorem lF (c:Cel) (b:Bool) (hb:0≤c.x∧c.x≤6∧0≤c.y∧c.y≤6):Fn Tryz.prog 79 [.agg ([vI c.x,vI c.y].map A.val),.a (.val (.bool b))] [.val (.agg ([vI c.x,vI c.y,.bool b]:List Value).toArray),.val (.agg ([vI (if b then c.x+1 else c.x),vI (if b then c.y else c.y+1),.bool b]:List Value).toArray)]:=by
  refine⟨⟨_,Tryz.func79,by kernel_rfl,by kernel_rfl⟩,fun w args h=> ?_⟩
  match args,dK.1 h with
  | [u0,u1],⟨h0,h1,_⟩=>
    obtain rfl:=jE h0
    obtain rfl:=kM h1
    refine Calls.mono (ql c.x c.y b hb.1 hb.2.1 hb.2.2.1 hb.2.2.2 w) ?_
    rintro e w' ⟨rfl,hb⟩
    exact⟨_,rfl,Fo rfl rfl rfl,hb⟩
theorem jm (l:List Dom) (c:Cel) (hl:l.length≤1048576):Fn Tryz.prog 46 [.a (.slv l.length 3 (dsl l)),.agg ([vI c.x,vI c.y].map A.val)] [.row 62 3 (aR l c).length (dsl (aR l c)),.val (.bool (cS l c.x c.y))]:=by
 refine bm (N:=64) Tryz.func46 rfl (by kernel_rfl) rfl (Nat.le_of_ble_eq_true rfl) [3,6,7,10,13,16,19,25,31,40,42,59,60,63,64,65,66,67,1000,1001] (ret2 rfl rfl (by intro u hu;injection hu with hu;subst hu;rfl)) (fun W=> ?_)
 show Wp _ _ _ [kV 0 (V.b (.a (.slv l.length 3 (dsl l)))),kV 1 (V.av [vI c.x,vI c.y]),kF 3,kF 6,kF 7,kF 10,kF 13,kF 16,kF 19,kF 25,kF 31,kF 40,kF 42,kF 59,kF 60,kF 63,kF 64,kF 65,kF 66,kF 67,kF 1000,kF 1001]
 refine sq (rg ?_)
 refine z ?_ (h:=fun Z=>bo (h:=3) Z xt (by exact ob1 rfl))
 refine zk (zk (nl (sq (sq (rg (zm ?_))))))
 refine z ?_ (h:=fun Z=>ab (xs:=[vI c.x,vI c.y].map A.val) Z kw rfl (by decide) rfl)
 refine z ?_ (h:=fun Z=>ag Z (rl l c (by omega)) (ac (ArgV.slv _ _ _ _) (ac (ArgV.va va) an)) rv)
 refine z ?_ (h:=fun Z=>bn Z vt (bS rfl))
 refine nl ?_
 refine wi (b:=(!(cS l c.x c.y))) (fun c1=> ?_) (fun c1=> ?_)
 ·skip
  have c2:(cS l c.x c.y)=false:=by first |(rw[←Bool.not_eq_true'];exact c1) |simpa using c1
  refine sq (rg (zm ?_))
  refine z ?_ (h:=fun Z=>ag Z (eX l (by omega)) (ac (ArgV.slv _ _ _ _) an) (ResV.row _ _ _ _ 16))
  refine za (zk (nl (aC ?_)))
  exact⟨VRes.tmp _ _ _ (by exact rfl) (fg (h:=16) (L:=l) (by kernel_rfl) (by simp [aR, *]) (by rfl)),VRes.tmp _ _ _ (by exact rfl) (ce (congrArg Value.bool (by simp_all)))⟩
 ·skip
  have c3:(cS l c.x c.y)=true:=by first |(rw[←Bool.not_eq_false'];exact c1) |simpa using c1
  have c3B:=jF c3
  refine sk (sq (rg ?_))
  refine z ?_ (h:=fun Z=>ab (xs:=[vI c.x,vI c.y].map A.val) Z kw rfl (by decide) rfl)
  refine z ?_ (h:=fun Z=>cH Z (ue c (by omega)) (ac (ArgV.va va) an) (ResV.agg [vI c.x,vI c.y,.bool false,vI c.x,vI (c.y+1),.bool false]) (ResV.agg [vI c.x,vI c.y,.bool true,vI (c.x+1),vI c.y,.bool true]))
  refine zm ?_
  refine z ?_ (h:=fun Z=>ba Z (by exact rfl))
  refine z ?_ (h:=fun Z=>ba Z (by exact rfl))
  refine z ?_ (h:=fun Z=>aL (h:=6) (cap:=1) (s:=6) (cells:=[aI 0,aI 0,aB false,aI 0,aI 0,aB false]) Z vi rfl rfl (by decide))
  refine z ?_ (h:=fun Z=>aL (h:=7) (cap:=1) (s:=6) (cells:=[aI 0,aI 0,aB false,aI 0,aI 0,aB false]) Z vi rfl rfl (by decide))
  refine z ?_ (h:=fun _=>aE (cells:=[aI c.x,aI c.y,aB false,aI c.x,aI (c.y+1),aB false]) eG xt (by exact rfl) (by decide) (by exact ob1 rfl) (by exact Nat.le_of_ble_eq_true rfl) (by exact rfl))
  refine z ?_ (h:=fun _=>aE (cells:=[aI c.x,aI c.y,aB true,aI (c.x+1),aI c.y,aB true]) eG xt (by exact rfl) (by decide) (by exact ob1 rfl) (by exact Nat.le_of_ble_eq_true rfl) (by exact rfl))
  refine nl (sq (sq ?_))
  rcases Bool.eq_false_or_eq_true ((eJ l c.x c.y false))with c4 |c4
  ·skip
   refine rg (zm ?_)
   refine z ?_ (h:=fun Z=>bw (k:=0) (off':=0) Z cA bQ vc rfl (by decide) rfl)
   refine z ?_ (h:=fun Z=>ab (xs:=[vI c.x,vI c.y,.bool false].map A.val) Z aZ rfl (by decide) rfl)
   refine z ?_ (h:=fun Z=>ag Z (gn l (⟨c.x,c.y,false⟩:Dom) (by omega)) (ac (ArgV.slv _ _ _ _) (ac (ArgV.va va) an)) (bi (congrArg Value.bool c4)))
   refine z ?_ (h:=fun Z=>bn Z vt (bS (c:=false) rfl))
   refine zm ?_
   refine zg ?_ (h:=fun Z=>ae rfl rfl (mt Z))
   refine zg ?_ (h:=fun Z=>ae rfl rfl (bw (k:=1) (off':=3) Z cA bQ vc rfl (by decide) rfl))
   refine zg ?_ (h:=fun Z=>ae rfl rfl (ab (xs:=[vI c.x,vI (c.y+1),.bool false].map A.val) Z aZ rfl (by decide) rfl))
   refine zg ?_ (h:=fun Z=>ae rfl rfl (ag Z (gn l (⟨c.x,(c.y+1),false⟩:Dom) (by omega)) (ac (ArgV.slv _ _ _ _) (ac (ArgV.va va) an)) rv))
   refine zg ?_ (h:=fun Z=>ae rfl rfl (bn Z vt (bS rfl)))
   refine z ?_ (h:=fun Z=>ar Z vt xt)
   refine nl ?_
   refine wi (b:=(!(eJ l c.x (c.y+1) false))) (fun c5=> ?_) (fun c5=> ?_)
   ·skip
    have c6:(eJ l c.x (c.y+1) false)=false:=by first |(rw[←Bool.not_eq_true'];exact c5) |simpa using c5
    refine rg ?_
    refine z ?_ (h:=fun Z=>ab (xs:=[vI c.x,vI c.y,.bool true,vI (c.x+1),vI c.y,.bool true].map A.val) Z eG rfl (by decide) rfl)
    refine z ?_ (h:=fun Z=>ab (xs:=[vI c.x,vI c.y,.bool false,vI c.x,vI (c.y+1),.bool false].map A.val) Z eG rfl (by decide) rfl)
    refine z ?_ (h:=fun _=>aE (cells:=[aI c.x,aI c.y,aB true,aI (c.x+1),aI c.y,aB true]) eG xt (by exact rfl) (by decide) (by exact ob1 rfl) (by exact Nat.le_of_ble_eq_true rfl) (by exact rfl))
    refine z ?_ (h:=fun _=>aE (cells:=[aI c.x,aI c.y,aB false,aI c.x,aI (c.y+1),aB false]) eG xt (by exact rfl) (by decide) (by exact ob1 rfl) (by exact Nat.le_of_ble_eq_true rfl) (by exact rfl))
    refine nl (sq (rg ?_))
    refine z ?_ (h:=fun Z=>bw (k:=0) (off':=0) Z cA bQ vc rfl (by decide) rfl)
    refine z ?_ (h:=fun Z=>ab (xs:=[vI c.x,vI c.y,.bool false].map A.val) Z aZ rfl (by decide) rfl)
    refine z ?_ (h:=fun Z=>bw (k:=1) (off':=3) Z cA bQ vc rfl (by decide) rfl)
    refine z ?_ (h:=fun Z=>ab (xs:=[vI c.x,vI (c.y+1),.bool false].map A.val) Z aZ rfl (by decide) rfl)
    refine z ?_ (h:=fun Z=>aP (h:=40) (xs:=dsl ([(⟨c.x,c.y,false⟩:Dom),(⟨c.x,(c.y+1),false⟩:Dom)]:List Dom)) Z bN cf (.cons va (.cons va OpVs.nil)) (by decide) (by decide) (by kernel_rfl) rfl)
    refine za (nl (sq (sq (rg (zm ?_)))))
    refine z ?_ (h:=fun Z=>lnV Z bN)
    refine z ?_ (h:=fun Z=>mc Z)
    refine nl (bkk ?_)
    refine bg (fun(k:Nat)=>k≤l.length) (fun(k:Nat)=>[kP 6 6 0,kS 8 40 0 (([(⟨c.x,c.y,false⟩:Dom),(⟨c.x,(c.y+1),false⟩:Dom)]++(l.take k).filter (kp (⟨c.x,c.y,true⟩:Dom) (⟨(c.x+1),c.y,true⟩:Dom))).length),kV 41 (V.b (.a (.slv l.length 3 (dsl l)))),kI 42 ((l.length:Nat):Int),kI 43 ((k:Nat):Int),kO 6 93 6 true [aI c.x,aI c.y,aB true,aI (c.x+1),aI c.y,aB true],kO 40 62 3 true (pl (dsl ([(⟨c.x,c.y,false⟩:Dom),(⟨c.x,(c.y+1),false⟩:Dom)]++(l.take k).filter (kp (⟨c.x,c.y,true⟩:Dom) (⟨(c.x+1),c.y,true⟩:Dom))))),kF 3,kF 7,kF 10,kF 13,kF 16,kF 19,kF 25,kF 31,kF 42,kF 59,kF 60,kF 63,kF 64,kF 65,kF 66,kF 67,kF 1000,kF 1001]) (fun(k:Nat)=>l.length-k) ((0:Nat)) (by exact Nat.zero_le _) (wkf id (wS<|wE (e:=(vsl (by rfl) rfl))<|wS<|wS<|wE (e:=(be (by rfl)))<|wX<|wO (e:=aJ (fun h=>h) (congrArg dsl (by rfl)))<|by(iterate 18 refine wF ?_);exact wN)) ?_
    rintro k inv7
    replace inv7:k≤l.length:=inv7
    have inv:=inv7
    have hfl:([(⟨c.x,c.y,false⟩:Dom),(⟨c.x,(c.y+1),false⟩:Dom)]++(l.take k).filter (kp (⟨c.x,c.y,true⟩:Dom) (⟨(c.x+1),c.y,true⟩:Dom))).length≤k+2:=mG _ l k _
    refine sq (rg ?_)
    refine z ?_ (h:=fun Z=>aa Z vt vt (bA rfl))
    refine nl (sq ?_)
    refine wi (fun c8=> ?_) (fun c8=> ?_)
    ·skip
     have c8P:=of_decide_eq_true c8
     refine sk (sq (bkk (sq (rg ?_))))
     refine z ?_ (h:=fun Z=>ixv Z bN bQ vt)
     refine z ?_ (h:=fun Z=>uD Z aZ)
     refine z ?_ (h:=fun Z=>aL (h:=10) (cap:=1) (s:=3) (cells:=[aI 0,aI 0,aB false]) Z cf rfl rfl (by decide))
     refine z ?_ (h:=fun _=>aE (cells:=[aI ((gD l k).x),aI ((gD l k).y),aB ((gD l k).d)]) aZ xt (by exact rfl) (by decide) (by exact ob1 rfl) (by exact Nat.le_of_ble_eq_true rfl) (by exact rfl))
     refine nl (sq ?_)
     rcases Bool.eq_false_or_eq_true ((dEq ((gD l k).x) ((gD l k).y) ((gD l k).d) c.x c.y true))with c9 |c9
     ·skip
      refine rg ?_
      refine z ?_ (h:=fun Z=>ab (xs:=[vI ((gD l k).x),vI ((gD l k).y),.bool ((gD l k).d)].map A.val) Z aZ rfl (by decide) rfl)
      refine z ?_ (h:=fun Z=>bw (k:=0) (off':=0) Z cA bQ vc rfl (by decide) rfl)
      refine z ?_ (h:=fun Z=>ab (xs:=[vI c.x,vI c.y,.bool true].map A.val) Z aZ rfl (by decide) rfl)
      refine z ?_ (h:=fun Z=>aa Z va va (eN dH (fun w=>(cw ((gD l k).x) ((gD l k).y) ((gD l k).d) c.x c.y true w).trans (congrArg (fun z=>Result.ok (Value.bool z) w) (by(rw[c9];done))))))
      refine zm (zo (zo (zo (zo ?_))))
      refine z ?_ (h:=fun Z=>ar Z vt xc)
      refine nl (wf (sk (rg ?_)))
      refine z ?_ (h:=fun Z=>aa Z vt vc rA)
      refine zm (nl ?_)
      exact aA ((k+1)) (by show _≤_;omega) (by show l.length-(k+1)<l.length-k;omega) (wkf id (wS<|wE (e:=(vsl (by(exact congrArg List.length (by first |rfl |(simp;done) |exact dA (by omega) (by simp_all [kp]) _ |exact dg (by omega) (by simp_all [kp]) _ |omega))) rfl))<|wS<|wS<|wE (e:=(be (by rfl)))<|wX<|wO (e:=aJ (fun h=>h) (congrArg dsl (by exact dg (by omega) (by simp_all [kp]) _)))<|by(iterate 18 refine wF ?_);exact wN))
     ·skip
      refine rg ?_
      refine z ?_ (h:=fun Z=>ab (xs:=[vI ((gD l k).x),vI ((gD l k).y),.bool ((gD l k).d)].map A.val) Z aZ rfl (by decide) rfl)
      refine z ?_ (h:=fun Z=>bw (k:=0) (off':=0) Z cA bQ vc rfl (by decide) rfl)
      refine z ?_ (h:=fun Z=>ab (xs:=[vI c.x,vI c.y,.bool true].map A.val) Z aZ rfl (by decide) rfl)
      refine z ?_ (h:=fun Z=>aa Z va va (eN dH (fun w=>(cw ((gD l k).x) ((gD l k).y) ((gD l k).d) c.x c.y true w).trans (congrArg (fun z=>Result.ok (Value.bool z) w) (by(rw[c9];done))))))
      refine zm ?_
      refine zg ?_ (h:=fun Z=>ae rfl rfl (ab (xs:=[vI ((gD l k).x),vI ((gD l k).y),.bool ((gD l k).d)].map A.val) Z aZ rfl (by decide) rfl))
      refine zg ?_ (h:=fun Z=>ae rfl rfl (bw (k:=1) (off':=3) Z cA bQ vc rfl (by decide) rfl))
      refine zg ?_ (h:=fun Z=>ae rfl rfl (ab (xs:=[vI (c.x+1),vI c.y,.bool true].map A.val) Z aZ rfl (by decide) rfl))
      refine zg ?_ (h:=fun Z=>ae rfl rfl (aa Z va va (eN dH (fun w=>(cw ((gD l k).x) ((gD l k).y) ((gD l k).d) (c.x+1) c.y true w).trans (congrArg (fun z=>Result.ok (Value.bool z) w) (rfl:(!(dEq ((gD l k).x) ((gD l k).y) ((gD l k).d) (c.x+1) c.y true))=(!(dEq ((gD l k).x) ((gD l k).y) ((gD l k).d) (c.x+1) c.y true))))))))
      refine z ?_ (h:=fun Z=>au Z vt xt)
      refine nl ?_
      refine wi (b:=(!(dEq ((gD l k).x) ((gD l k).y) ((gD l k).d) (c.x+1) c.y true))) (fun c10=> ?_) (fun c10=> ?_)
      ·skip
       have c11:(dEq ((gD l k).x) ((gD l k).y) ((gD l k).d) (c.x+1) c.y true)=false:=by first |(rw[←Bool.not_eq_true'];exact c10) |simpa using c10
       refine rg (zm ?_)
       refine z ?_ (h:=fun Z=>ab (xs:=[vI ((gD l k).x),vI ((gD l k).y),.bool ((gD l k).d)].map A.val) Z aZ rfl (by decide) rfl)
       refine z ?_ (h:=fun Z=>aP (h:=59) (xs:=dsl ([(gD l k)]:List Dom)) Z bN cf (.cons va OpVs.nil) (by decide) (by decide) (by kernel_rfl) rfl)
       refine z ?_ (h:=fun Z=>aD_ (h2:=60) (L3:=(([(⟨c.x,c.y,false⟩:Dom),(⟨c.x,(c.y+1),false⟩:Dom)]++(l.take k).filter (kp (⟨c.x,c.y,true⟩:Dom) (⟨(c.x+1),c.y,true⟩:Dom)))++[(gD l k)])) Z bN cf (by exact rfl) rfl (by exact rfl) (by(simp at*;omega)))
       refine za (nl (rg ?_))
       refine z ?_ (h:=fun Z=>aa Z vt vc rA)
       refine zm (nl ?_)
       exact aA ((k+1)) (by show _≤_;omega) (by show l.length-(k+1)<l.length-k;omega) (wkf (aX [(40,60)]) (wS<|wE (e:=(vsl (by(exact congrArg List.length (by first |rfl |(simp;done) |exact dA (by omega) (by simp_all [kp]) _ |exact dg (by omega) (by simp_all [kp]) _ |omega))) rfl))<|wS<|wS<|wE (e:=(be (by rfl)))<|wX<|wO (e:=aJ (fun h=>h) (congrArg dsl (by exact dA (by omega) (by simp_all [kp]) _)))<|by(iterate 18 refine wF ?_);exact wN))
      ·skip
       have c12:(dEq ((gD l k).x) ((gD l k).y) ((gD l k).d) (c.x+1) c.y true)=true:=by first |(rw[←Bool.not_eq_false'];exact c10) |simpa using c10
       refine sk (rg ?_)
       refine z ?_ (h:=fun Z=>aa Z vt vc rA)
       refine zm (nl ?_)
       exact aA ((k+1)) (by show _≤_;omega) (by show l.length-(k+1)<l.length-k;omega) (wkf id (wS<|wE (e:=(vsl (by(exact congrArg List.length (by first |rfl |(simp;done) |exact dA (by omega) (by simp_all [kp]) _ |exact dg (by omega) (by simp_all [kp]) _ |omega))) rfl))<|wS<|wS<|wE (e:=(be (by rfl)))<|wX<|wO (e:=aJ (fun h=>h) (congrArg dsl (by exact dg (by omega) (by simp_all [kp]) _)))<|by(iterate 18 refine wF ?_);exact wN))
    ·skip
     have c8P:=of_decide_eq_false c8
     refine aU (sq (rg (zm ?_)))
     refine z ?_ (h:=fun Z=>ag Z (eW ([(⟨c.x,c.y,false⟩:Dom),(⟨c.x,(c.y+1),false⟩:Dom)]++(l.take k).filter (kp (⟨c.x,c.y,true⟩:Dom) (⟨(c.x+1),c.y,true⟩:Dom))) (by omega)) (ac (ci (by exact cc _)) an) (ResV.row _ _ _ _ 63))
     refine za (zk (nl (aC ?_)))
     exact⟨VRes.tmp _ _ _ (by exact rfl) (fg (h:=63) (L:=(cG ([(⟨c.x,c.y,false⟩:Dom),(⟨c.x,(c.y+1),false⟩:Dom)]++(l.take k).filter (kp (⟨c.x,c.y,true⟩:Dom) (⟨(c.x+1),c.y,true⟩:Dom))))) (by kernel_rfl) (by exact mH (by omega) (by assumption) false (by simp_all [acB]) rfl rfl rfl rfl) (by rfl)),VRes.tmp _ _ _ (by exact rfl) (ce (congrArg Value.bool (by simp_all)))⟩
   ·skip
    have c13:(eJ l c.x (c.y+1) false)=true:=by first |(rw[←Bool.not_eq_false'];exact c5) |simpa using c5
    refine sk (sq (rg ?_))
    refine z ?_ (h:=fun Z=>bw (k:=0) (off':=0) Z cA bQ vc rfl (by decide) rfl)
    refine z ?_ (h:=fun Z=>ab (xs:=[vI c.x,vI c.y,.bool true].map A.val) Z aZ rfl (by decide) rfl)
    refine z ?_ (h:=fun Z=>bw (k:=1) (off':=3) Z cA bQ vc rfl (by decide) rfl)
    refine z ?_ (h:=fun Z=>ab (xs:=[vI (c.x+1),vI c.y,.bool true].map A.val) Z aZ rfl (by decide) rfl)
    refine z ?_ (h:=fun Z=>aP (h:=40) (xs:=dsl ([(⟨c.x,c.y,true⟩:Dom),(⟨(c.x+1),c.y,true⟩:Dom)]:List Dom)) Z bN cf (.cons va (.cons va OpVs.nil)) (by decide) (by decide) (by kernel_rfl) rfl)
    refine za (nl (sq (sq (rg (zm ?_)))))
    refine z ?_ (h:=fun Z=>lnV Z bN)
    refine z ?_ (h:=fun Z=>mc Z)
    refine nl (bkk ?_)
    refine bg (fun(k:Nat)=>k≤l.length) (fun(k:Nat)=>[kP 6 6 0,kS 8 40 0 (([(⟨c.x,c.y,true⟩:Dom),(⟨(c.x+1),c.y,true⟩:Dom)]++(l.take k).filter (kp (⟨c.x,c.y,false⟩:Dom) (⟨c.x,(c.y+1),false⟩:Dom))).length),kV 41 (V.b (.a (.slv l.length 3 (dsl l)))),kI 42 ((l.length:Nat):Int),kI 43 ((k:Nat):Int),kO 6 93 6 true [aI c.x,aI c.y,aB false,aI c.x,aI (c.y+1),aB false],kO 40 62 3 true (pl (dsl ([(⟨c.x,c.y,true⟩:Dom),(⟨(c.x+1),c.y,true⟩:Dom)]++(l.take k).filter (kp (⟨c.x,c.y,false⟩:Dom) (⟨c.x,(c.y+1),false⟩:Dom))))),kF 3,kF 7,kF 10,kF 13,kF 16,kF 19,kF 25,kF 31,kF 42,kF 59,kF 60,kF 63,kF 64,kF 65,kF 66,kF 67,kF 1000,kF 1001]) (fun(k:Nat)=>l.length-k) ((0:Nat)) (by exact Nat.zero_le _) (wkf id (wS<|wE (e:=(vsl (by rfl) rfl))<|wS<|wS<|wE (e:=(be (by rfl)))<|wX<|wO (e:=aJ (fun h=>h) (congrArg dsl (by rfl)))<|by(iterate 18 refine wF ?_);exact wN)) ?_
    rintro k inv14
    replace inv14:k≤l.length:=inv14
    have inv:=inv14
    have hfl:([(⟨c.x,c.y,true⟩:Dom),(⟨(c.x+1),c.y,true⟩:Dom)]++(l.take k).filter (kp (⟨c.x,c.y,false⟩:Dom) (⟨c.x,(c.y+1),false⟩:Dom))).length≤k+2:=mG _ l k _
    refine sq (rg ?_)
    refine z ?_ (h:=fun Z=>aa Z vt vt (bA rfl))
    refine nl (sq ?_)
    refine wi (fun c15=> ?_) (fun c15=> ?_)
    ·skip
     have c15P:=of_decide_eq_true c15
     refine sk (sq (bkk (sq (rg ?_))))
     refine z ?_ (h:=fun Z=>ixv Z bN bQ vt)
     refine z ?_ (h:=fun Z=>uD Z aZ)
     refine z ?_ (h:=fun Z=>aL (h:=10) (cap:=1) (s:=3) (cells:=[aI 0,aI 0,aB false]) Z cf rfl rfl (by decide))
     refine z ?_ (h:=fun _=>aE (cells:=[aI ((gD l k).x),aI ((gD l k).y),aB ((gD l k).d)]) aZ xt (by exact rfl) (by decide) (by exact ob1 rfl) (by exact Nat.le_of_ble_eq_true rfl) (by exact rfl))
     refine nl (sq ?_)
     rcases Bool.eq_false_or_eq_true ((dEq ((gD l k).x) ((gD l k).y) ((gD l k).d) c.x c.y false))with c16 |c16
     ·skip
      refine rg ?_
      refine z ?_ (h:=fun Z=>ab (xs:=[vI ((gD l k).x),vI ((gD l k).y),.bool ((gD l k).d)].map A.val) Z aZ rfl (by decide) rfl)
      refine z ?_ (h:=fun Z=>bw (k:=0) (off':=0) Z cA bQ vc rfl (by decide) rfl)
      refine z ?_ (h:=fun Z=>ab (xs:=[vI c.x,vI c.y,.bool false].map A.val) Z aZ rfl (by decide) rfl)
      refine z ?_ (h:=fun Z=>aa Z va va (eN dH (fun w=>(cw ((gD l k).x) ((gD l k).y) ((gD l k).d) c.x c.y false w).trans (congrArg (fun z=>Result.ok (Value.bool z) w) (by(rw[c16];done))))))
      refine zm (zo (zo (zo (zo ?_))))
      refine z ?_ (h:=fun Z=>ar Z vt xc)
      refine nl (wf (sk (rg ?_)))
      refine z ?_ (h:=fun Z=>aa Z vt vc rA)
      refine zm (nl ?_)
      exact aA ((k+1)) (by show _≤_;omega) (by show l.length-(k+1)<l.length-k;omega) (wkf id (wS<|wE (e:=(vsl (by(exact congrArg List.length (by first |rfl |(simp;done) |exact dA (by omega) (by simp_all [kp]) _ |exact dg (by omega) (by simp_all [kp]) _ |omega))) rfl))<|wS<|wS<|wE (e:=(be (by rfl)))<|wX<|wO (e:=aJ (fun h=>h) (congrArg dsl (by exact dg (by omega) (by simp_all [kp]) _)))<|by(iterate 18 refine wF ?_);exact wN))
     ·skip
      refine rg ?_
      refine z ?_ (h:=fun Z=>ab (xs:=[vI ((gD l k).x),vI ((gD l k).y),.bool ((gD l k).d)].map A.val) Z aZ rfl (by decide) rfl)
      refine z ?_ (h:=fun Z=>bw (k:=0) (off':=0) Z cA bQ vc rfl (by decide) rfl)
      refine z ?_ (h:=fun Z=>ab (xs:=[vI c.x,vI c.y,.bool false].map A.val) Z aZ rfl (by decide) rfl)
      refine z ?_ (h:=fun Z=>aa Z va va (eN dH (fun w=>(cw ((gD l k).x) ((gD l k).y) ((gD l k).d) c.x c.y false w).trans (congrArg (fun z=>Result.ok (Value.bool z) w) (by(rw[c16];done))))))
      refine zm ?_
      refine zg ?_ (h:=fun Z=>ae rfl rfl (ab (xs:=[vI ((gD l k).x),vI ((gD l k).y),.bool ((gD l k).d)].map A.val) Z aZ rfl (by decide) rfl))
      refine zg ?_ (h:=fun Z=>ae rfl rfl (bw (k:=1) (off':=3) Z cA bQ vc rfl (by decide) rfl))
      refine zg ?_ (h:=fun Z=>ae rfl rfl (ab (xs:=[vI c.x,vI (c.y+1),.bool false].map A.val) Z aZ rfl (by decide) rfl))
      refine zg ?_ (h:=fun Z=>ae rfl rfl (aa Z va va (eN dH (fun w=>(cw ((gD l k).x) ((gD l k).y) ((gD l k).d) c.x (c.y+1) false w).trans (congrArg (fun z=>Result.ok (Value.bool z) w) (rfl:(!(dEq ((gD l k).x) ((gD l k).y) ((gD l k).d) c.x (c.y+1) false))=(!(dEq ((gD l k).x) ((gD l k).y) ((gD l k).d) c.x (c.y+1) false))))))))
      refine z ?_ (h:=fun Z=>au Z vt xt)
      refine nl ?_
      refine wi (b:=(!(dEq ((gD l k).x) ((gD l k).y) ((gD l k).d) c.x (c.y+1) false))) (fun c17=> ?_) (fun c17=> ?_)
      ·skip
       have c18:(dEq ((gD l k).x) ((gD l k).y) ((gD l k).d) c.x (c.y+1) false)=false:=by first |(rw[←Bool.not_eq_true'];exact c17) |simpa using c17
       refine rg (zm ?_)
       refine z ?_ (h:=fun Z=>ab (xs:=[vI ((gD l k).x),vI ((gD l k).y),.bool ((gD l k).d)].map A.val) Z aZ rfl (by decide) rfl)
       refine z ?_ (h:=fun Z=>aP (h:=59) (xs:=dsl ([(gD l k)]:List Dom)) Z bN cf (.cons va OpVs.nil) (by decide) (by decide) (by kernel_rfl) rfl)
       refine z ?_ (h:=fun Z=>aD_ (h2:=60) (L3:=(([(⟨c.x,c.y,true⟩:Dom),(⟨(c.x+1),c.y,true⟩:Dom)]++(l.take k).filter (kp (⟨c.x,c.y,false⟩:Dom) (⟨c.x,(c.y+1),false⟩:Dom)))++[(gD l k)])) Z bN cf (by exact rfl) rfl (by exact rfl) (by(simp at*;omega)))
       refine za (nl (rg ?_))
       refine z ?_ (h:=fun Z=>aa Z vt vc rA)
       refine zm (nl ?_)
       exact aA ((k+1)) (by show _≤_;omega) (by show l.length-(k+1)<l.length-k;omega) (wkf (aX [(40,60)]) (wS<|wE (e:=(vsl (by(exact congrArg List.length (by first |rfl |(simp;done) |exact dA (by omega) (by simp_all [kp]) _ |exact dg (by omega) (by simp_all [kp]) _ |omega))) rfl))<|wS<|wS<|wE (e:=(be (by rfl)))<|wX<|wO (e:=aJ (fun h=>h) (congrArg dsl (by exact dA (by omega) (by simp_all [kp]) _)))<|by(iterate 18 refine wF ?_);exact wN))
      ·skip
       have c19:(dEq ((gD l k).x) ((gD l k).y) ((gD l k).d) c.x (c.y+1) false)=true:=by first |(rw[←Bool.not_eq_false'];exact c17) |simpa using c17
       refine sk (rg ?_)
       refine z ?_ (h:=fun Z=>aa Z vt vc rA)
       refine zm (nl ?_)
       exact aA ((k+1)) (by show _≤_;omega) (by show l.length-(k+1)<l.length-k;omega) (wkf id (wS<|wE (e:=(vsl (by(exact congrArg List.length (by first |rfl |(simp;done) |exact dA (by omega) (by simp_all [kp]) _ |exact dg (by omega) (by simp_all [kp]) _ |omega))) rfl))<|wS<|wS<|wE (e:=(be (by rfl)))<|wX<|wO (e:=aJ (fun h=>h) (congrArg dsl (by exact dg (by omega) (by simp_all [kp]) _)))<|by(iterate 18 refine wF ?_);exact wN))
    ·skip
     have c15P:=of_decide_eq_false c15
     refine aU (sq (rg (zm ?_)))
     refine z ?_ (h:=fun Z=>ag Z (eW ([(⟨c.x,c.y,true⟩:Dom),(⟨(c.x+1),c.y,true⟩:Dom)]++(l.take k).filter (kp (⟨c.x,c.y,false⟩:Dom) (⟨c.x,(c.y+1),false⟩:Dom))) (by omega)) (ac (ci (by exact cc _)) an) (ResV.row _ _ _ _ 63))
     refine za (zk (nl (aC ?_)))
     exact⟨VRes.tmp _ _ _ (by exact rfl) (fg (h:=63) (L:=(cG ([(⟨c.x,c.y,true⟩:Dom),(⟨(c.x+1),c.y,true⟩:Dom)]++(l.take k).filter (kp (⟨c.x,c.y,false⟩:Dom) (⟨c.x,(c.y+1),false⟩:Dom))))) (by kernel_rfl) (by exact mH (by omega) (by assumption) true (by simp_all [acB]) rfl rfl rfl rfl) (by rfl)),VRes.tmp _ _ _ (by exact rfl) (ce (congrArg Value.bool (by simp_all)))⟩
  ·skip
   refine rg (zm ?_)
   refine z ?_ (h:=fun Z=>bw (k:=0) (off':=0) Z cA bQ vc rfl (by decide) rfl)
   refine z ?_ (h:=fun Z=>ab (xs:=[vI c.x,vI c.y,.bool false].map A.val) Z aZ rfl (by decide) rfl)
   refine z ?_ (h:=fun Z=>ag Z (gn l (⟨c.x,c.y,false⟩:Dom) (by omega)) (ac (ArgV.slv _ _ _ _) (ac (ArgV.va va) an)) (bi (congrArg Value.bool c4)))
   refine z ?_ (h:=fun Z=>bn Z vt (bS (c:=true) rfl))
   refine zm (zo (zo (zo (zo (zo ?_)))))
   refine z ?_ (h:=fun Z=>au Z vt xc)
   refine nl (wt (rg ?_))
   refine z ?_ (h:=fun Z=>ab (xs:=[vI c.x,vI c.y,.bool true,vI (c.x+1),vI c.y,.bool true].map A.val) Z eG rfl (by decide) rfl)
   refine z ?_ (h:=fun Z=>ab (xs:=[vI c.x,vI c.y,.bool false,vI c.x,vI (c.y+1),.bool false].map A.val) Z eG rfl (by decide) rfl)
   refine z ?_ (h:=fun _=>aE (cells:=[aI c.x,aI c.y,aB true,aI (c.x+1),aI c.y,aB true]) eG xt (by exact rfl) (by decide) (by exact ob1 rfl) (by exact Nat.le_of_ble_eq_true rfl) (by exact rfl))
   refine z ?_ (h:=fun _=>aE (cells:=[aI c.x,aI c.y,aB false,aI c.x,aI (c.y+1),aB false]) eG xt (by exact rfl) (by decide) (by exact ob1 rfl) (by exact Nat.le_of_ble_eq_true rfl) (by exact rfl))
   refine nl (sq (rg ?_))
   refine z ?_ (h:=fun Z=>bw (k:=0) (off':=0) Z cA bQ vc rfl (by decide) rfl)
   refine z ?_ (h:=fun Z=>ab (xs:=[vI c.x,vI c.y,.bool false].map A.val) Z aZ rfl (by decide) rfl)
   refine z ?_ (h:=fun Z=>bw (k:=1) (off':=3) Z cA bQ vc rfl (by decide) rfl)
   refine z ?_ (h:=fun Z=>ab (xs:=[vI c.x,vI (c.y+1),.bool false].map A.val) Z aZ rfl (by decide) rfl)
   refine z ?_ (h:=fun Z=>aP (h:=40) (xs:=dsl ([(⟨c.x,c.y,false⟩:Dom),(⟨c.x,(c.y+1),false⟩:Dom)]:List Dom)) Z bN cf (.cons va (.cons va OpVs.nil)) (by decide) (by decide) (by kernel_rfl) rfl)
   refine za (nl (sq (sq (rg (zm ?_)))))
   refine z ?_ (h:=fun Z=>lnV Z bN)
   refine z ?_ (h:=fun Z=>mc Z)
   refine nl (bkk ?_)
   refine bg (fun(k:Nat)=>k≤l.length) (fun(k:Nat)=>[kP 6 6 0,kS 8 40 0 (([(⟨c.x,c.y,false⟩:Dom),(⟨c.x,(c.y+1),false⟩:Dom)]++(l.take k).filter (kp (⟨c.x,c.y,true⟩:Dom) (⟨(c.x+1),c.y,true⟩:Dom))).length),kV 41 (V.b (.a (.slv l.length 3 (dsl l)))),kI 42 ((l.length:Nat):Int),kI 43 ((k:Nat):Int),kO 6 93 6 true [aI c.x,aI c.y,aB true,aI (c.x+1),aI c.y,aB true],kO 40 62 3 true (pl (dsl ([(⟨c.x,c.y,false⟩:Dom),(⟨c.x,(c.y+1),false⟩:Dom)]++(l.take k).filter (kp (⟨c.x,c.y,true⟩:Dom) (⟨(c.x+1),c.y,true⟩:Dom))))),kF 3,kF 7,kF 10,kF 13,kF 16,kF 19,kF 25,kF 31,kF 42,kF 59,kF 60,kF 63,kF 64,kF 65,kF 66,kF 67,kF 1000,kF 1001]) (fun(k:Nat)=>l.length-k) ((0:Nat)) (by exact Nat.zero_le _) (wkf id (wS<|wE (e:=(vsl (by rfl) rfl))<|wS<|wS<|wE (e:=(be (by rfl)))<|wX<|wO (e:=aJ (fun h=>h) (congrArg dsl (by rfl)))<|by(iterate 18 refine wF ?_);exact wN)) ?_
   rintro k inv20
   replace inv20:k≤l.length:=inv20
   have inv:=inv20
   have hfl:([(⟨c.x,c.y,false⟩:Dom),(⟨c.x,(c.y+1),false⟩:Dom)]++(l.take k).filter (kp (⟨c.x,c.y,true⟩:Dom) (⟨(c.x+1),c.y,true⟩:Dom))).length≤k+2:=mG _ l k _
   refine sq (rg ?_)
   refine z ?_ (h:=fun Z=>aa Z vt vt (bA rfl))
   refine nl (sq ?_)
   refine wi (fun c21=> ?_) (fun c21=> ?_)
   ·skip
    have c21P:=of_decide_eq_true c21
    refine sk (sq (bkk (sq (rg ?_))))
    refine z ?_ (h:=fun Z=>ixv Z bN bQ vt)
    refine z ?_ (h:=fun Z=>uD Z aZ)
    refine z ?_ (h:=fun Z=>aL (h:=10) (cap:=1) (s:=3) (cells:=[aI 0,aI 0,aB false]) Z cf rfl rfl (by decide))
    refine z ?_ (h:=fun _=>aE (cells:=[aI ((gD l k).x),aI ((gD l k).y),aB ((gD l k).d)]) aZ xt (by exact rfl) (by decide) (by exact ob1 rfl) (by exact Nat.le_of_ble_eq_true rfl) (by exact rfl))
    refine nl (sq ?_)
    rcases Bool.eq_false_or_eq_true ((dEq ((gD l k).x) ((gD l k).y) ((gD l k).d) c.x c.y true))with c22 |c22
    ·skip
     refine rg ?_
     refine z ?_ (h:=fun Z=>ab (xs:=[vI ((gD l k).x),vI ((gD l k).y),.bool ((gD l k).d)].map A.val) Z aZ rfl (by decide) rfl)
     refine z ?_ (h:=fun Z=>bw (k:=0) (off':=0) Z cA bQ vc rfl (by decide) rfl)
     refine z ?_ (h:=fun Z=>ab (xs:=[vI c.x,vI c.y,.bool true].map A.val) Z aZ rfl (by decide) rfl)
     refine z ?_ (h:=fun Z=>aa Z va va (eN dH (fun w=>(cw ((gD l k).x) ((gD l k).y) ((gD l k).d) c.x c.y true w).trans (congrArg (fun z=>Result.ok (Value.bool z) w) (by(rw[c22];done))))))
     refine zm (zo (zo (zo (zo ?_))))
     refine z ?_ (h:=fun Z=>ar Z vt xc)
     refine nl (wf (sk (rg ?_)))
     refine z ?_ (h:=fun Z=>aa Z vt vc rA)
     refine zm (nl ?_)
     exact aA ((k+1)) (by show _≤_;omega) (by show l.length-(k+1)<l.length-k;omega) (wkf id (wS<|wE (e:=(vsl (by(exact congrArg List.length (by first |rfl |(simp;done) |exact dA (by omega) (by simp_all [kp]) _ |exact dg (by omega) (by simp_all [kp]) _ |omega))) rfl))<|wS<|wS<|wE (e:=(be (by rfl)))<|wX<|wO (e:=aJ (fun h=>h) (congrArg dsl (by exact dg (by omega) (by simp_all [kp]) _)))<|by(iterate 18 refine wF ?_);exact wN))
    ·skip
     refine rg ?_
     refine z ?_ (h:=fun Z=>ab (xs:=[vI ((gD l k).x),vI ((gD l k).y),.bool ((gD l k).d)].map A.val) Z aZ rfl (by decide) rfl)
     refine z ?_ (h:=fun Z=>bw (k:=0) (off':=0) Z cA bQ vc rfl (by decide) rfl)
     refine z ?_ (h:=fun Z=>ab (xs:=[vI c.x,vI c.y,.bool true].map A.val) Z aZ rfl (by decide) rfl)
     refine z ?_ (h:=fun Z=>aa Z va va (eN dH (fun w=>(cw ((gD l k).x) ((gD l k).y) ((gD l k).d) c.x c.y true w).trans (congrArg (fun z=>Result.ok (Value.bool z) w) (by(rw[c22];done))))))
     refine zm ?_
     refine zg ?_ (h:=fun Z=>ae rfl rfl (ab (xs:=[vI ((gD l k).x),vI ((gD l k).y),.bool ((gD l k).d)].map A.val) Z aZ rfl (by decide) rfl))
     refine zg ?_ (h:=fun Z=>ae rfl rfl (bw (k:=1) (off':=3) Z cA bQ vc rfl (by decide) rfl))
     refine zg ?_ (h:=fun Z=>ae rfl rfl (ab (xs:=[vI (c.x+1),vI c.y,.bool true].map A.val) Z aZ rfl (by decide) rfl))
     refine zg ?_ (h:=fun Z=>ae rfl rfl (aa Z va va (eN dH (fun w=>(cw ((gD l k).x) ((gD l k).y) ((gD l k).d) (c.x+1) c.y true w).trans (congrArg (fun z=>Result.ok (Value.bool z) w) (rfl:(!(dEq ((gD l k).x) ((gD l k).y) ((gD l k).d) (c.x+1) c.y true))=(!(dEq ((gD l k).x) ((gD l k).y) ((gD l k).d) (c.x+1) c.y true))))))))
     refine z ?_ (h:=fun Z=>au Z vt xt)
     refine nl ?_
     refine wi (b:=(!(dEq ((gD l k).x) ((gD l k).y) ((gD l k).d) (c.x+1) c.y true))) (fun c23=> ?_) (fun c23=> ?_)
     ·skip
      have c24:(dEq ((gD l k).x) ((gD l k).y) ((gD l k).d) (c.x+1) c.y true)=false:=by first |(rw[←Bool.not_eq_true'];exact c23) |simpa using c23
      refine rg (zm ?_)
      refine z ?_ (h:=fun Z=>ab (xs:=[vI ((gD l k).x),vI ((gD l k).y),.bool ((gD l k).d)].map A.val) Z aZ rfl (by decide) rfl)
      refine z ?_ (h:=fun Z=>aP (h:=59) (xs:=dsl ([(gD l k)]:List Dom)) Z bN cf (.cons va OpVs.nil) (by decide) (by decide) (by kernel_rfl) rfl)
      refine z ?_ (h:=fun Z=>aD_ (h2:=60) (L3:=(([(⟨c.x,c.y,false⟩:Dom),(⟨c.x,(c.y+1),false⟩:Dom)]++(l.take k).filter (kp (⟨c.x,c.y,true⟩:Dom) (⟨(c.x+1),c.y,true⟩:Dom)))++[(gD l k)])) Z bN cf (by exact rfl) rfl (by exact rfl) (by(simp at*;omega)))
      refine za (nl (rg ?_))
      refine z ?_ (h:=fun Z=>aa Z vt vc rA)
      refine zm (nl ?_)
      exact aA ((k+1)) (by show _≤_;omega) (by show l.length-(k+1)<l.length-k;omega) (wkf (aX [(40,60)]) (wS<|wE (e:=(vsl (by(exact congrArg List.length (by first |rfl |(simp;done) |exact dA (by omega) (by simp_all [kp]) _ |exact dg (by omega) (by simp_all [kp]) _ |omega))) rfl))<|wS<|wS<|wE (e:=(be (by rfl)))<|wX<|wO (e:=aJ (fun h=>h) (congrArg dsl (by exact dA (by omega) (by simp_all [kp]) _)))<|by(iterate 18 refine wF ?_);exact wN))
     ·skip
      have c25:(dEq ((gD l k).x) ((gD l k).y) ((gD l k).d) (c.x+1) c.y true)=true:=by first |(rw[←Bool.not_eq_false'];exact c23) |simpa using c23
      refine sk (rg ?_)
      refine z ?_ (h:=fun Z=>aa Z vt vc rA)
      refine zm (nl ?_)
      exact aA ((k+1)) (by show _≤_;omega) (by show l.length-(k+1)<l.length-k;omega) (wkf id (wS<|wE (e:=(vsl (by(exact congrArg List.length (by first |rfl |(simp;done) |exact dA (by omega) (by simp_all [kp]) _ |exact dg (by omega) (by simp_all [kp]) _ |omega))) rfl))<|wS<|wS<|wE (e:=(be (by rfl)))<|wX<|wO (e:=aJ (fun h=>h) (congrArg dsl (by exact dg (by omega) (by simp_all [kp]) _)))<|by(iterate 18 refine wF ?_);exact wN))
   ·skip
    have c21P:=of_decide_eq_false c21
    refine aU (sq (rg (zm ?_)))
    refine z ?_ (h:=fun Z=>ag Z (eW ([(⟨c.x,c.y,false⟩:Dom),(⟨c.x,(c.y+1),false⟩:Dom)]++(l.take k).filter (kp (⟨c.x,c.y,true⟩:Dom) (⟨(c.x+1),c.y,true⟩:Dom))) (by omega)) (ac (ci (by exact cc _)) an) (ResV.row _ _ _ _ 63))
    refine za (zk (nl (aC ?_)))
    exact⟨VRes.tmp _ _ _ (by exact rfl) (fg (h:=63) (L:=(cG ([(⟨c.x,c.y,false⟩:Dom),(⟨c.x,(c.y+1),false⟩:Dom)]++(l.take k).filter (kp (⟨c.x,c.y,true⟩:Dom) (⟨(c.x+1),c.y,true⟩:Dom))))) (by kernel_rfl) (by exact mH (by omega) (by assumption) false (by simp_all [acB]) rfl rfl rfl rfl) (by rfl)),VRes.tmp _ _ _ (by exact rfl) (ce (congrArg Value.bool (by simp_all)))⟩
theorem tL (l:List Dom) (c:Cel) (hl:l.length≤1048576):Fn Tryz.prog 53 [.a (.slv l.length 3 (dsl l)),.agg ([vI c.x,vI c.y].map A.val)] [.row 62 3 (aR l c).length (dsl (aR l c)),.val (.bool (cS l c.x c.y))]:=by
 refine bm (N:=67) Tryz.func53 rfl (by kernel_rfl) rfl (Nat.le_of_ble_eq_true rfl) [3,7,8,9,10,15,18,20,25,32,37,40,63,64,66,67,68,69,70,1000,1001] (ret2 rfl rfl (by intro u hu;injection hu with hu;subst hu;rfl)) (fun W=> ?_)
 show Wp _ _ _ [kV 0 (V.b (.a (.slv l.length 3 (dsl l)))),kV 1 (V.av [vI c.x,vI c.y]),kF 3,kF 7,kF 8,kF 9,kF 10,kF 15,kF 18,kF 20,kF 25,kF 32,kF 37,kF 40,kF 63,kF 64,kF 66,kF 67,kF 68,kF 69,kF 70,kF 1000,kF 1001]
 refine sq (rg ?_)
 refine z ?_ (h:=fun Z=>bo (h:=3) Z xt (by exact ob1 rfl))
 refine zk (zk (nl (sq (rg (zm ?_)))))
 refine z ?_ (h:=fun Z=>ab (xs:=[vI c.x,vI c.y].map A.val) Z kw rfl (by decide) rfl)
 refine z ?_ (h:=fun Z=>ag Z (rD l c (by omega)) (ac (ArgV.slv _ _ _ _) (ac (ArgV.va va) an)) rv)
 refine za (nl (sq (sq (rg (zm ?_)))))
 refine z ?_ (h:=fun Z=>aa Z vt vc (ct rfl))
 refine nl ?_
 refine wi (fun c1=> ?_) (fun c1=> ?_)
 ·skip
  have c1P:=of_decide_eq_true c1
  have c1B:=Hi c1P
  refine sq (rg ?_)
  refine z ?_ (h:=fun Z=>b0D (h:=18) Z bN cf)
  refine zm ?_
  refine z ?_ (h:=fun Z=>gf (h2:=20) (m:=l.length) (nm:=l.length) (X:= .slv l.length 3 (dsl l)) (xs:=dsl []) (ys:=dsl l) (zs:=dsl l) Z bN cf rfl (by decide) (by decide) (by exact cc _) xt (Src.slv _ _ _) (kg _) (by omega) (by exact(dv _ _).symm) (by(simp;done)))
  refine za (zk (nl (aC ?_)))
  exact⟨VRes.tmp _ _ _ (by exact rfl) (fg (h:=20) (L:=l) (by kernel_rfl) (by simp [aR, *]) (by rfl)),VRes.tmp _ _ _ (by exact rfl) (ce (congrArg Value.bool (by simp_all)))⟩
 ·skip
  have c1P:=of_decide_eq_false c1
  have c1B:=jF (Av c1P)
  have c1C:=Av c1P
  have c1D:=Es c1P
  refine sk (sq (rg ?_))
  refine z ?_ (h:=fun Z=>ab (xs:=[vI c.x,vI c.y].map A.val) Z kw rfl (by decide) rfl)
  refine zm ?_
  refine z ?_ (h:=fun Z=>aa Z vt vc (ct rfl))
  refine z ?_ (h:=fun Z=>cH Z (lF c (decide ((bc l c.x c.y)=2)) (by omega)) (ac (ArgV.va va) (ac (ArgV.v vt) an)) (ResV.agg [vI c.x,vI c.y,.bool (decide ((bc l c.x c.y)=2))]) (ResV.agg [vI (if(decide ((bc l c.x c.y)=2))then c.x+1 else c.x),vI (if(decide ((bc l c.x c.y)=2))then c.y else c.y+1),.bool (decide ((bc l c.x c.y)=2))]))
  refine zm ?_
  refine z ?_ (h:=fun Z=>ba Z (by exact rfl))
  refine z ?_ (h:=fun Z=>ba Z (by exact rfl))
  refine z ?_ (h:=fun Z=>aL (h:=7) (cap:=1) (s:=3) (cells:=[aI 0,aI 0,aB false]) Z cf rfl rfl (by decide))
  refine z ?_ (h:=fun Z=>aL (h:=8) (cap:=1) (s:=3) (cells:=[aI 0,aI 0,aB false]) Z cf rfl rfl (by decide))
  refine z ?_ (h:=fun _=>aE (cells:=[aI c.x,aI c.y,aB (decide ((bc l c.x c.y)=2))]) aZ xt (by exact rfl) (by decide) (by exact ob1 rfl) (by exact Nat.le_of_ble_eq_true rfl) (by exact rfl))
  refine z ?_ (h:=fun _=>aE (cells:=[aI (if(decide ((bc l c.x c.y)=2))then c.x+1 else c.x),aI (if(decide ((bc l c.x c.y)=2))then c.y else c.y+1),aB (decide ((bc l c.x c.y)=2))]) aZ xt (by exact rfl) (by decide) (by exact ob1 rfl) (by exact Nat.le_of_ble_eq_true rfl) (by exact rfl))
  refine nl (sq (rg ?_))
  refine z ?_ (h:=fun Z=>ab (xs:=[vI c.x,vI c.y].map A.val) Z kw rfl (by decide) rfl)
  refine zm ?_
  refine z ?_ (h:=fun Z=>aa Z vt vc (ct rfl))
  refine z ?_ (h:=fun Z=>cH Z (lF c (decide ((bc l c.x c.y)=1)) (by omega)) (ac (ArgV.va va) (ac (ArgV.v vt) an)) (ResV.agg [vI c.x,vI c.y,.bool (decide ((bc l c.x c.y)=1))]) (ResV.agg [vI (if(decide ((bc l c.x c.y)=1))then c.x+1 else c.x),vI (if(decide ((bc l c.x c.y)=1))then c.y else c.y+1),.bool (decide ((bc l c.x c.y)=1))]))
  refine zm ?_
  refine z ?_ (h:=fun Z=>ba Z (by exact rfl))
  refine z ?_ (h:=fun Z=>ba Z (by exact rfl))
  refine z ?_ (h:=fun Z=>aL (h:=9) (cap:=1) (s:=3) (cells:=[aI 0,aI 0,aB false]) Z cf rfl rfl (by decide))
  refine z ?_ (h:=fun Z=>aL (h:=10) (cap:=1) (s:=3) (cells:=[aI 0,aI 0,aB false]) Z cf rfl rfl (by decide))
  refine z ?_ (h:=fun _=>aE (cells:=[aI c.x,aI c.y,aB (decide ((bc l c.x c.y)=1))]) aZ xt (by exact rfl) (by decide) (by exact ob1 rfl) (by exact Nat.le_of_ble_eq_true rfl) (by exact rfl))
  refine z ?_ (h:=fun _=>aE (cells:=[aI (if(decide ((bc l c.x c.y)=1))then c.x+1 else c.x),aI (if(decide ((bc l c.x c.y)=1))then c.y else c.y+1),aB (decide ((bc l c.x c.y)=1))]) aZ xt (by exact rfl) (by decide) (by exact ob1 rfl) (by exact Nat.le_of_ble_eq_true rfl) (by exact rfl))
  refine nl (sq (rg ?_))
  refine z ?_ (h:=fun Z=>ab (xs:=[vI c.x,vI c.y,.bool (decide ((bc l c.x c.y)=1))].map A.val) Z aZ rfl (by decide) rfl)
  refine z ?_ (h:=fun Z=>ab (xs:=[vI (if(decide ((bc l c.x c.y)=1))then c.x+1 else c.x),vI (if(decide ((bc l c.x c.y)=1))then c.y else c.y+1),.bool (decide ((bc l c.x c.y)=1))].map A.val) Z aZ rfl (by decide) rfl)
  refine z ?_ (h:=fun Z=>aP (h:=37) (xs:=dsl ([(⟨c.x,c.y,(decide ((bc l c.x c.y)=1))⟩:Dom),(⟨(if(decide ((bc l c.x c.y)=1))then c.x+1 else c.x),(if(decide ((bc l c.x c.y)=1))then c.y else c.y+1),(decide ((bc l c.x c.y)=1))⟩:Dom)]:List Dom)) Z bN cf (.cons va (.cons va OpVs.nil)) (by decide) (by decide) (by kernel_rfl) rfl)
  refine za (nl (sq (sq (rg (zk (nl (bkk ?_)))))))
  refine bg (fun(k:Nat)=>k≤l.length) (fun(k:Nat)=>[kV 0 (V.b (.a (.slv l.length 3 (dsl l)))),kP 7 7 0,kP 8 8 0,kS 11 37 0 (([(⟨c.x,c.y,(decide ((bc l c.x c.y)=1))⟩:Dom),(⟨(if(decide ((bc l c.x c.y)=1))then c.x+1 else c.x),(if(decide ((bc l c.x c.y)=1))then c.y else c.y+1),(decide ((bc l c.x c.y)=1))⟩:Dom)]++(l.take k).filter (kp (⟨c.x,c.y,(decide ((bc l c.x c.y)=2))⟩:Dom) (⟨(if(decide ((bc l c.x c.y)=2))then c.x+1 else c.x),(if(decide ((bc l c.x c.y)=2))then c.y else c.y+1),(decide ((bc l c.x c.y)=2))⟩:Dom))).length),kI 12 ((k:Nat):Int),kO 7 62 3 true [aI c.x,aI c.y,aB (decide ((bc l c.x c.y)=2))],kO 8 62 3 true [aI (if(decide ((bc l c.x c.y)=2))then c.x+1 else c.x),aI (if(decide ((bc l c.x c.y)=2))then c.y else c.y+1),aB (decide ((bc l c.x c.y)=2))],kO 37 62 3 true (pl (dsl ([(⟨c.x,c.y,(decide ((bc l c.x c.y)=1))⟩:Dom),(⟨(if(decide ((bc l c.x c.y)=1))then c.x+1 else c.x),(if(decide ((bc l c.x c.y)=1))then c.y else c.y+1),(decide ((bc l c.x c.y)=1))⟩:Dom)]++(l.take k).filter (kp (⟨c.x,c.y,(decide ((bc l c.x c.y)=2))⟩:Dom) (⟨(if(decide ((bc l c.x c.y)=2))then c.x+1 else c.x),(if(decide ((bc l c.x c.y)=2))then c.y else c.y+1),(decide ((bc l c.x c.y)=2))⟩:Dom))))),kF 3,kF 9,kF 10,kF 15,kF 18,kF 20,kF 25,kF 32,kF 40,kF 63,kF 64,kF 66,kF 67,kF 68,kF 69,kF 70,kF 1000,kF 1001]) (fun(k:Nat)=>l.length-k) ((0:Nat)) (by exact Nat.zero_le _) (wkf id (wS<|wS<|wS<|wE (e:=(vsl (by rfl) rfl))<|wE (e:=(be (by rfl)))<|wX<|wX<|wO (e:=aJ (fun h=>h) (congrArg dsl (by rfl)))<|by(iterate 18 refine wF ?_);exact wN)) ?_
  rintro k inv2
  replace inv2:k≤l.length:=inv2
  have inv:=inv2
  have hfl:([(⟨c.x,c.y,(decide ((bc l c.x c.y)=1))⟩:Dom),(⟨(if(decide ((bc l c.x c.y)=1))then c.x+1 else c.x),(if(decide ((bc l c.x c.y)=1))then c.y else c.y+1),(decide ((bc l c.x c.y)=1))⟩:Dom)]++(l.take k).filter (kp (⟨c.x,c.y,(decide ((bc l c.x c.y)=2))⟩:Dom) (⟨(if(decide ((bc l c.x c.y)=2))then c.x+1 else c.x),(if(decide ((bc l c.x c.y)=2))then c.y else c.y+1),(decide ((bc l c.x c.y)=2))⟩:Dom))).length≤k+2:=mG _ l k _
  refine sq (sq (rg (zm (zm ?_))))
  refine z ?_ (h:=fun Z=>lnV Z bN)
  refine z ?_ (h:=fun Z=>aa Z vt vt (bA rfl))
  refine nl ?_
  refine wi (fun c3=> ?_) (fun c3=> ?_)
  ·skip
   have c3P:=of_decide_eq_true c3
   refine sk (sq (bkk (sq ?_)))
   rcases Bool.eq_false_or_eq_true ((dEq ((gD l k).x) ((gD l k).y) ((gD l k).d) c.x c.y (decide ((bc l c.x c.y)=2))))with c4 |c4
   ·skip
    refine ch (zdm (zdm ?_))
    refine zd ?_ (h:=fun Z=>ixv Z bN bQ vt)
    refine zd ?_ (h:=fun Z=>uD Z aZ)
    refine zd ?_ (h:=fun Z=>ab (xs:=[vI c.x,vI c.y,.bool (decide ((bc l c.x c.y)=2))].map A.val) Z aZ rfl (by decide) rfl)
    refine zd ?_ (h:=fun Z=>aa Z va va (eN dH (fun w=>(cw ((gD l k).x) ((gD l k).y) ((gD l k).d) c.x c.y (decide ((bc l c.x c.y)=2)) w).trans (congrArg (fun z=>Result.ok (Value.bool z) w) (by(rw[c4];done))))))
    refine zdm ?_
    refine zdg ?_ (h:=fun Z=>aG rfl rfl (by decide) rfl Z)
    refine zdg ?_ (h:=fun Z=>aG rfl rfl (by decide) rfl Z)
    refine zdg ?_ (h:=fun Z=>aG rfl rfl (by decide) rfl Z)
    refine zdg ?_ (h:=fun Z=>aG rfl rfl (by decide) rfl Z)
    refine zdg ?_ (h:=fun Z=>aG rfl rfl (by decide) rfl Z)
    refine zdg ?_ (h:=fun Z=>aG rfl rfl (by decide) rfl Z)
    refine zd ?_ (h:=fun Z=>ar Z vt xc)
    refine bG (wf (sk (rg (zm ?_))))
    refine z ?_ (h:=fun Z=>aa Z vt vc rA)
    refine za (nl ?_)
    exact aA ((k+1)) (by show _≤_;omega) (by show l.length-(k+1)<l.length-k;omega) (wkf id (wS<|wS<|wS<|wE (e:=(vsl (by(exact congrArg List.length (by first |rfl |(simp;done) |exact dA (by omega) (by simp_all [kp]) _ |exact dg (by omega) (by simp_all [kp]) _ |omega))) rfl))<|wE (e:=(be (by rfl)))<|wX<|wX<|wO (e:=aJ (fun h=>h) (congrArg dsl (by exact dg (by omega) (by simp_all [kp]) _)))<|by(iterate 18 refine wF ?_);exact wN))
   ·skip
    refine ch (zdm (zdm ?_))
    refine zd ?_ (h:=fun Z=>ixv Z bN bQ vt)
    refine zd ?_ (h:=fun Z=>uD Z aZ)
    refine zd ?_ (h:=fun Z=>ab (xs:=[vI c.x,vI c.y,.bool (decide ((bc l c.x c.y)=2))].map A.val) Z aZ rfl (by decide) rfl)
    refine zd ?_ (h:=fun Z=>aa Z va va (eN dH (fun w=>(cw ((gD l k).x) ((gD l k).y) ((gD l k).d) c.x c.y (decide ((bc l c.x c.y)=2)) w).trans (congrArg (fun z=>Result.ok (Value.bool z) w) (by(rw[c4];done))))))
    refine zdm ?_
    refine zdg ?_ (h:=fun Z=>ae rfl rfl (mt Z))
    refine zdg ?_ (h:=fun Z=>ae rfl rfl (mt Z))
    refine zdg ?_ (h:=fun Z=>ae rfl rfl (ixv Z bN bQ vt))
    refine zdg ?_ (h:=fun Z=>ae rfl rfl (uD Z aZ))
    refine zdg ?_ (h:=fun Z=>ae rfl rfl (ab (xs:=[vI (if(decide ((bc l c.x c.y)=2))then c.x+1 else c.x),vI (if(decide ((bc l c.x c.y)=2))then c.y else c.y+1),.bool (decide ((bc l c.x c.y)=2))].map A.val) Z aZ rfl (by decide) rfl))
    refine zdg ?_ (h:=fun Z=>ae rfl rfl (aa Z va va (eN dH (fun w=>(cw ((gD l k).x) ((gD l k).y) ((gD l k).d) (if(decide ((bc l c.x c.y)=2))then c.x+1 else c.x) (if(decide ((bc l c.x c.y)=2))then c.y else c.y+1) (decide ((bc l c.x c.y)=2)) w).trans (congrArg (fun z=>Result.ok (Value.bool z) w) (rfl:(!(dEq ((gD l k).x) ((gD l k).y) ((gD l k).d) (if(decide ((bc l c.x c.y)=2))then c.x+1 else c.x) (if(decide ((bc l c.x c.y)=2))then c.y else c.y+1) (decide ((bc l c.x c.y)=2))))=(!(dEq ((gD l k).x) ((gD l k).y) ((gD l k).d) (if(decide ((bc l c.x c.y)=2))then c.x+1 else c.x) (if(decide ((bc l c.x c.y)=2))then c.y else c.y+1) (decide ((bc l c.x c.y)=2))))))))))
    refine zd ?_ (h:=fun Z=>au Z vt xt)
    refine bG ?_
    refine wi (b:=(!(dEq ((gD l k).x) ((gD l k).y) ((gD l k).d) (if(decide ((bc l c.x c.y)=2))then c.x+1 else c.x) (if(decide ((bc l c.x c.y)=2))then c.y else c.y+1) (decide ((bc l c.x c.y)=2))))) (fun c5=> ?_) (fun c5=> ?_)
    ·skip
     have c6:(dEq ((gD l k).x) ((gD l k).y) ((gD l k).d) (if(decide ((bc l c.x c.y)=2))then c.x+1 else c.x) (if(decide ((bc l c.x c.y)=2))then c.y else c.y+1) (decide ((bc l c.x c.y)=2)))=false:=by first |(rw[←Bool.not_eq_true'];exact c5) |simpa using c5
     refine rg (zm (zm (zm ?_)))
     refine z ?_ (h:=fun Z=>ixv Z bN bQ vt)
     refine z ?_ (h:=fun Z=>uD Z aZ)
     refine z ?_ (h:=fun Z=>aP (h:=63) (xs:=dsl ([(gD l k)]:List Dom)) Z bN cf (.cons va OpVs.nil) (by decide) (by decide) (by kernel_rfl) rfl)
     refine z ?_ (h:=fun Z=>aD_ (h2:=64) (L3:=(([(⟨c.x,c.y,(decide ((bc l c.x c.y)=1))⟩:Dom),(⟨(if(decide ((bc l c.x c.y)=1))then c.x+1 else c.x),(if(decide ((bc l c.x c.y)=1))then c.y else c.y+1),(decide ((bc l c.x c.y)=1))⟩:Dom)]++(l.take k).filter (kp (⟨c.x,c.y,(decide ((bc l c.x c.y)=2))⟩:Dom) (⟨(if(decide ((bc l c.x c.y)=2))then c.x+1 else c.x),(if(decide ((bc l c.x c.y)=2))then c.y else c.y+1),(decide ((bc l c.x c.y)=2))⟩:Dom)))++[(gD l k)])) Z bN cf (by exact rfl) rfl (by exact rfl) (by(simp at*;omega)))
     refine za (nl (rg (zm ?_)))
     refine z ?_ (h:=fun Z=>aa Z vt vc rA)
     refine za (nl ?_)
     exact aA ((k+1)) (by show _≤_;omega) (by show l.length-(k+1)<l.length-k;omega) (wkf (aX [(37,64)]) (wS<|wS<|wS<|wE (e:=(vsl (by(exact congrArg List.length (by first |rfl |(simp;done) |exact dA (by omega) (by simp_all [kp]) _ |exact dg (by omega) (by simp_all [kp]) _ |omega))) rfl))<|wE (e:=(be (by rfl)))<|wX<|wX<|wO (e:=aJ (fun h=>h) (congrArg dsl (by exact dA (by omega) (by simp_all [kp]) _)))<|by(iterate 18 refine wF ?_);exact wN))
    ·skip
     have c7:(dEq ((gD l k).x) ((gD l k).y) ((gD l k).d) (if(decide ((bc l c.x c.y)=2))then c.x+1 else c.x) (if(decide ((bc l c.x c.y)=2))then c.y else c.y+1) (decide ((bc l c.x c.y)=2)))=true:=by first |(rw[←Bool.not_eq_false'];exact c5) |simpa using c5
     refine sk (rg (zm ?_))
     refine z ?_ (h:=fun Z=>aa Z vt vc rA)
     refine za (nl ?_)
     exact aA ((k+1)) (by show _≤_;omega) (by show l.length-(k+1)<l.length-k;omega) (wkf id (wS<|wS<|wS<|wE (e:=(vsl (by(exact congrArg List.length (by first |rfl |(simp;done) |exact dA (by omega) (by simp_all [kp]) _ |exact dg (by omega) (by simp_all [kp]) _ |omega))) rfl))<|wE (e:=(be (by rfl)))<|wX<|wX<|wO (e:=aJ (fun h=>h) (congrArg dsl (by exact dg (by omega) (by simp_all [kp]) _)))<|by(iterate 18 refine wF ?_);exact wN))
  ·skip
   have c3P:=of_decide_eq_false c3
   refine aU (sq (rg (zm ?_)))
   refine z ?_ (h:=fun Z=>ag Z (mv ([(⟨c.x,c.y,(decide ((bc l c.x c.y)=1))⟩:Dom),(⟨(if(decide ((bc l c.x c.y)=1))then c.x+1 else c.x),(if(decide ((bc l c.x c.y)=1))then c.y else c.y+1),(decide ((bc l c.x c.y)=1))⟩:Dom)]++(l.take k).filter (kp (⟨c.x,c.y,(decide ((bc l c.x c.y)=2))⟩:Dom) (⟨(if(decide ((bc l c.x c.y)=2))then c.x+1 else c.x),(if(decide ((bc l c.x c.y)=2))then c.y else c.y+1),(decide ((bc l c.x c.y)=2))⟩:Dom))) (by omega)) (ac (ci (by exact cc _)) an) (ResV.row _ _ _ _ 66))
   refine za (zk (nl (aC ?_)))
   exact⟨VRes.tmp _ _ _ (by exact rfl) (fg (h:=66) (L:=(cG ([(⟨c.x,c.y,(decide ((bc l c.x c.y)=1))⟩:Dom),(⟨(if(decide ((bc l c.x c.y)=1))then c.x+1 else c.x),(if(decide ((bc l c.x c.y)=1))then c.y else c.y+1),(decide ((bc l c.x c.y)=1))⟩:Dom)]++(l.take k).filter (kp (⟨c.x,c.y,(decide ((bc l c.x c.y)=2))⟩:Dom) (⟨(if(decide ((bc l c.x c.y)=2))then c.x+1 else c.x),(if(decide ((bc l c.x c.y)=2))then c.y else c.y+1),(decide ((bc l c.x c.y)=2))⟩:Dom))))) (by kernel_rfl) (by obtain⟨q1,q2⟩:= ‹_∧decide (bc l c.x c.y=1)=_›;rw[q1,q2];exact mH (by omega) (by assumption) _ rfl rfl (ET _ _) rfl (ET _ _)) (by rfl)),VRes.tmp _ _ _ (by exact rfl) (ce (congrArg Value.bool (by simp_all)))⟩
theorem iu (l:List Dom) (hl:l.length≤4194304):Fn Tryz.prog 45 [.a (.slv l.length 3 (dsl l))] [.row 70 2 (aM l).length (csl (aM l))]:=by
  refine⟨⟨_,Tryz.func45,by kernel_rfl,by kernel_rfl⟩,fun w args h=> ?_⟩
  match args,dK.1 h with
  | [u0],⟨h0,_⟩=>
    obtain⟨A0,c0,rfl,hc0,hr0⟩:=jZ h0
    refine Calls.mono (vZ l A0 l.length c0 w hr0 hl) ?_
    rintro e w' ⟨v,rfl,ho,hb⟩
    exact⟨_,rfl,ho,hb⟩
end Cl
end Go.Proofs.YtgmkkfdnmdohlaaGreatDoor
