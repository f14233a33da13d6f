/- Walks. -/
import Derived.Test.YtgmkkfdnmdohlaaGreatDoorC3
import Derived.Test.YtgmkkfdnmdohlaaGreatDoorClB
set_option linter.unusedSimpArgs false
set_option linter.unusedVariables false
set_option maxHeartbeats 4000000
set_option maxRecDepth 100000
namespace Go.Proofs.YtgmkkfdnmdohlaaGreatDoor
namespace Cl
open Go.ChangeShapes Go.WideShapes Go.ChangeAt Go.RowKit
theorem fN:∀ (a b:Int),Tryz.prog.built 70 [(0,.int .i64 a),(1,.int .i64 b)]=some ([.int .i64 a,.int .i64 b]:List Value).toArray:=fun _ _=>rfl
theorem nY:Tryz.prog.eqGuardType Tryz.prog.depth 70=false:=by kernel_rfl
theorem et:bK Tryz.prog 62 0=some 0:=by kernel_rfl
theorem ew:bK Tryz.prog 62 1=some 1:=by kernel_rfl
theorem pj:bK Tryz.prog 62 2=some 2:=by kernel_rfl
theorem th:(Tryz.prog.info? 62).map (·.size)=some 3:=by kernel_rfl
theorem tj:(Tryz.prog.info? 70).map (·.size)=some 2:=by kernel_rfl
theorem zz:TI Tryz.prog 29 true 1:=⟨⟨_,Tryz.underlying29,rfl⟩,by kernel_rfl⟩
theorem dn:TI Tryz.prog 3 false 1:=⟨⟨_,Tryz.underlying3,rfl⟩,by kernel_rfl⟩
theorem uZ:TI Tryz.prog 4 false 1:=⟨⟨_,Tryz.underlying4,rfl⟩,by kernel_rfl⟩
theorem ju:TI Tryz.prog 62 true 3:=⟨⟨_,Tryz.underlying62,rfl⟩,by kernel_rfl⟩
theorem br:TI Tryz.prog 70 true 2:=⟨⟨_,Tryz.underlying70,rfl⟩,by kernel_rfl⟩
theorem nZ:Tryz.prog.underlying 31=some (.slice 62):=Tryz.underlying31
theorem gO:Tryz.prog.underlying 36=some (.slice 70):=Tryz.underlying36
theorem dz:ZI Tryz.prog 70 (.agg #[.int .i64 0,.int .i64 0]) 2 16:=by unfold ZI;kernel_rfl
theorem fi (d:Dom):Fn Tryz.prog 92 [.agg ([vI d.x,vI d.y,.bool d.d].map A.val)] [.val (.bool (okD d))]:=by
  refine⟨⟨_,Tryz.func92,by kernel_rfl,by kernel_rfl⟩,fun w args h=> ?_⟩
  match args,dK.1 h with
  | [u0],⟨h0,_⟩=>
    obtain rfl:=jE h0
    refine Calls.mono (jT d.x d.y d.d w) ?_
    rintro e w' ⟨rfl,hb⟩
    exact⟨_,rfl,rfl,hb⟩
theorem eh (d:Dom):Fn Tryz.prog 86 [.agg ([vI d.x,vI d.y,.bool d.d].map A.val)] [.val (.bool (okD d))]:=by
  refine⟨⟨_,Tryz.func86,by kernel_rfl,by kernel_rfl⟩,fun w args h=> ?_⟩
  match args,dK.1 h with
  | [u0],⟨h0,_⟩=>
    obtain rfl:=jE h0
    refine Calls.mono (hZ d.x d.y d.d w) ?_
    rintro e w' ⟨rfl,hb⟩
    exact⟨_,rfl,rfl,hb⟩
theorem lV (d:Dom) (ho:okD d=true):Fn Tryz.prog 111 [.agg ([vI d.x,vI d.y,.bool d.d].map A.val)] [.val (.agg ([.int .i64 (ca d).x,.int .i64 (ca d).y]:List Value).toArray),.val (.agg ([.int .i64 (cb d).x,.int .i64 (cb d).y]:List Value).toArray)]:=by
 have hq:=jX ho
 refine bm (N:=28) Tryz.func111 rfl (by kernel_rfl) rfl (Nat.le_of_ble_eq_true rfl) [1,2,3] (ret2 rfl rfl (by intro u hu;injection hu with hu;subst hu;rfl)) (fun W=> ?_)
 show Wp _ _ _ [kV 0 (V.av [vI d.x,vI d.y,.bool d.d]),kF 1,kF 2,kF 3]
 refine sq (rg ?_)
 refine z ?_ (h:=fun Z=>bo (h:=1) Z xt (by exact ob1 rfl))
 refine z ?_ (h:=fun Z=>aL (h:=2) (cap:=1) (s:=2) (cells:=[aI 0,aI 0]) Z dz rfl rfl (by decide))
 refine z ?_ (h:=fun Z=>aL (h:=3) (cap:=1) (s:=2) (cells:=[aI 0,aI 0]) Z dz rfl rfl (by decide))
 refine nl (sq (sq (rg ?_)))
 refine z ?_ (h:=fun Z=>aq (off':=2) Z pj rfl)
 refine z ?_ (h:=fun Z=>ah (x:= .val (.bool d.d)) Z uZ (by exact rfl))
 refine nl ?_
 refine wi (b:=d.d) (fun c1=> ?_) (fun c1=> ?_)
 ·skip
  refine sq (ch ?_)
  refine zd ?_ (h:=fun Z=>aq (off':=0) Z et rfl)
  refine zd ?_ (h:=fun Z=>ah (x:= .val (.int .i64 d.x)) Z dn (by exact rfl))
  refine zd ?_ (h:=fun Z=>aq (off':=1) Z ew rfl)
  refine zd ?_ (h:=fun Z=>ah (x:= .val (.int .i64 d.y)) Z dn (by exact rfl))
  refine zd ?_ (h:=fun Z=>bC Z fN vt vt)
  refine zd ?_ (h:=fun Z=>aq (off':=0) Z et rfl)
  refine zd ?_ (h:=fun Z=>ah (x:= .val (.int .i64 d.x)) Z dn (by exact rfl))
  refine zd ?_ (h:=fun Z=>aq (off':=1) Z ew rfl)
  refine zd ?_ (h:=fun Z=>ah (x:= .val (.int .i64 d.y)) Z dn (by exact rfl))
  refine zd ?_ (h:=fun Z=>aa Z vt vc rA)
  refine zd ?_ (h:=fun Z=>bC Z fN vt vt)
  refine zd ?_ (h:=fun _=>aE (cells:=[aI d.x,aI d.y]) br xt (by exact rfl) (by decide) (by exact ob1 rfl) (by exact Nat.le_of_ble_eq_true rfl) (by exact rfl))
  refine zd ?_ (h:=fun _=>aE (cells:=[aI d.x,aI (d.y+1)]) br xt (by exact rfl) (by decide) (by exact ob1 rfl) (by exact Nat.le_of_ble_eq_true rfl) (by exact rfl))
  refine bG (aC ?_)
  exact⟨VRes.cells 2 70 2 ⟨70,2,true,[aI d.x,aI d.y]⟩ _ (by kernel_rfl) (by kernel_rfl) br (Nat.le_of_ble_eq_true rfl) (pQ (vs:=[vI d.x,vI d.y]) (by rfl)),VRes.cells 3 70 3 ⟨70,2,true,[aI d.x,aI (d.y+1)]⟩ _ (by kernel_rfl) (by kernel_rfl) br (Nat.le_of_ble_eq_true rfl) (pQ (vs:=[vI d.x,vI (d.y+1)]) (by(unfold cb;simp_all;done)))⟩
 ·skip
  refine sk (sq (ch ?_))
  refine zd ?_ (h:=fun Z=>aq (off':=0) Z et rfl)
  refine zd ?_ (h:=fun Z=>ah (x:= .val (.int .i64 d.x)) Z dn (by exact rfl))
  refine zd ?_ (h:=fun Z=>aq (off':=1) Z ew rfl)
  refine zd ?_ (h:=fun Z=>ah (x:= .val (.int .i64 d.y)) Z dn (by exact rfl))
  refine zd ?_ (h:=fun Z=>bC Z fN vt vt)
  refine zd ?_ (h:=fun Z=>aq (off':=0) Z et rfl)
  refine zd ?_ (h:=fun Z=>ah (x:= .val (.int .i64 d.x)) Z dn (by exact rfl))
  refine zd ?_ (h:=fun Z=>aa Z vt vc rA)
  refine zd ?_ (h:=fun Z=>aq (off':=1) Z ew rfl)
  refine zd ?_ (h:=fun Z=>ah (x:= .val (.int .i64 d.y)) Z dn (by exact rfl))
  refine zd ?_ (h:=fun Z=>bC Z fN vt vt)
  refine zd ?_ (h:=fun _=>aE (cells:=[aI d.x,aI d.y]) br xt (by exact rfl) (by decide) (by exact ob1 rfl) (by exact Nat.le_of_ble_eq_true rfl) (by exact rfl))
  refine zd ?_ (h:=fun _=>aE (cells:=[aI (d.x+1),aI d.y]) br xt (by exact rfl) (by decide) (by exact ob1 rfl) (by exact Nat.le_of_ble_eq_true rfl) (by exact rfl))
  refine bG (aC ?_)
  exact⟨VRes.cells 2 70 2 ⟨70,2,true,[aI d.x,aI d.y]⟩ _ (by kernel_rfl) (by kernel_rfl) br (Nat.le_of_ble_eq_true rfl) (pQ (vs:=[vI d.x,vI d.y]) (by rfl)),VRes.cells 3 70 3 ⟨70,2,true,[aI (d.x+1),aI d.y]⟩ _ (by kernel_rfl) (by kernel_rfl) br (Nat.le_of_ble_eq_true rfl) (pQ (vs:=[vI (d.x+1),vI d.y]) (by(unfold cb;simp_all;done)))⟩
theorem pG (d:Dom) (ho:okD d=true):Fn Tryz.prog 85 [.agg ([vI d.x,vI d.y,.bool d.d].map A.val)] [.val (.agg ([.int .i64 (cb d).x,.int .i64 (cb d).y]:List Value).toArray)]:=by
 have hq:=jX ho
 refine bm (N:=17) Tryz.func85 rfl (by kernel_rfl) rfl (Nat.le_of_ble_eq_true rfl) [1,2] (dN rfl) (fun W=> ?_)
 show Wp _ _ _ [kV 0 (V.av [vI d.x,vI d.y,.bool d.d]),kF 1,kF 2]
 refine sq (rg ?_)
 refine z ?_ (h:=fun Z=>bo (h:=1) Z xt (by exact ob1 rfl))
 refine z ?_ (h:=fun Z=>aL (h:=2) (cap:=1) (s:=2) (cells:=[aI 0,aI 0]) Z dz rfl rfl (by decide))
 refine nl (sq (sq (rg ?_)))
 refine z ?_ (h:=fun Z=>aq (off':=2) Z pj rfl)
 refine z ?_ (h:=fun Z=>ah (x:= .val (.bool d.d)) Z uZ (by exact rfl))
 refine nl ?_
 refine wi (b:=d.d) (fun c1=> ?_) (fun c1=> ?_)
 ·skip
  refine sq (rg ?_)
  refine z ?_ (h:=fun Z=>aq (off':=0) Z et rfl)
  refine z ?_ (h:=fun Z=>ah (x:= .val (.int .i64 d.x)) Z dn (by exact rfl))
  refine z ?_ (h:=fun Z=>aq (off':=1) Z ew rfl)
  refine z ?_ (h:=fun Z=>ah (x:= .val (.int .i64 d.y)) Z dn (by exact rfl))
  refine z ?_ (h:=fun Z=>aa Z vt vc rA)
  refine z ?_ (h:=fun Z=>bC Z fN vt vt)
  refine z ?_ (h:=fun _=>aE (cells:=[aI d.x,aI (d.y+1)]) br xt (by exact rfl) (by decide) (by exact ob1 rfl) (by exact Nat.le_of_ble_eq_true rfl) (by exact rfl))
  refine nl (aC ?_)
  exact VRes.cells 2 70 2 ⟨70,2,true,[aI d.x,aI (d.y+1)]⟩ _ (by kernel_rfl) (by kernel_rfl) br (Nat.le_of_ble_eq_true rfl) (pQ (vs:=[vI d.x,vI (d.y+1)]) (by(unfold cb;simp_all;done)))
 ·skip
  refine sk (sq (rg ?_))
  refine z ?_ (h:=fun Z=>aq (off':=0) Z et rfl)
  refine z ?_ (h:=fun Z=>ah (x:= .val (.int .i64 d.x)) Z dn (by exact rfl))
  refine z ?_ (h:=fun Z=>aa Z vt vc rA)
  refine z ?_ (h:=fun Z=>aq (off':=1) Z ew rfl)
  refine z ?_ (h:=fun Z=>ah (x:= .val (.int .i64 d.y)) Z dn (by exact rfl))
  refine z ?_ (h:=fun Z=>bC Z fN vt vt)
  refine z ?_ (h:=fun _=>aE (cells:=[aI (d.x+1),aI d.y]) br xt (by exact rfl) (by decide) (by exact ob1 rfl) (by exact Nat.le_of_ble_eq_true rfl) (by exact rfl))
  refine nl (aC ?_)
  exact VRes.cells 2 70 2 ⟨70,2,true,[aI (d.x+1),aI d.y]⟩ _ (by kernel_rfl) (by kernel_rfl) br (Nat.le_of_ble_eq_true rfl) (pQ (vs:=[vI (d.x+1),vI d.y]) (by(unfold cb;simp_all;done)))
theorem fC (d:Dom) (ho:okD d=true):Fn Tryz.prog 93 [.agg ([vI d.x,vI d.y,.bool d.d].map A.val)] [.val (.int .u64 (((domS d):Nat):Int))]:=by
 refine bm (N:=14) Tryz.func93 rfl (by kernel_rfl) rfl (Nat.le_of_ble_eq_true rfl) [1,3,4,7,11,13] (dN rfl) (fun W=> ?_)
 show Wp _ _ _ [kV 0 (V.av [vI d.x,vI d.y,.bool d.d]),kF 1,kF 3,kF 4,kF 7,kF 11,kF 13]
 refine sq (rg ?_)
 refine z ?_ (h:=fun Z=>bo (h:=1) Z xt (by exact ob1 rfl))
 refine zk (nl (sq (rg ?_)))
 refine z ?_ (h:=fun Z=>ab (xs:=[vI d.x,vI d.y,.bool d.d].map A.val) Z ju rfl (by decide) rfl)
 refine z ?_ (h:=fun Z=>cH Z (lV d (by omega)) (ac (ArgV.va va) an) (ResV.agg [vI ((ca d).x),vI ((ca d).y)]) (ResV.agg [vI ((cb d).x),vI ((cb d).y)]))
 refine zm ?_
 refine z ?_ (h:=fun Z=>ba Z (by exact rfl))
 refine z ?_ (h:=fun Z=>ba Z (by exact rfl))
 refine z ?_ (h:=fun Z=>aL (h:=3) (cap:=1) (s:=2) (cells:=[aI 0,aI 0]) Z dz rfl rfl (by decide))
 refine z ?_ (h:=fun Z=>aL (h:=4) (cap:=1) (s:=2) (cells:=[aI 0,aI 0]) Z dz rfl rfl (by decide))
 refine z ?_ (h:=fun _=>aE (cells:=[aI ((ca d).x),aI ((ca d).y)]) br xt (by exact rfl) (by decide) (by exact ob1 rfl) (by exact Nat.le_of_ble_eq_true rfl) (by exact rfl))
 refine z ?_ (h:=fun _=>aE (cells:=[aI ((cb d).x),aI ((cb d).y)]) br xt (by exact rfl) (by decide) (by exact ob1 rfl) (by exact Nat.le_of_ble_eq_true rfl) (by exact rfl))
 refine nl (sq (ch ?_))
 refine zd ?_ (h:=fun Z=>ab (xs:=[vI ((ca d).x),vI ((ca d).y)].map A.val) Z br rfl (by decide) rfl)
 refine zd ?_ (h:=fun Z=>ag Z (jK 0 (ca d) (by omega) (by exact md ho)) (ac (ArgV.v vc) (ac (ArgV.va va) an)) rv)
 refine zd ?_ (h:=fun Z=>ab (xs:=[vI ((cb d).x),vI ((cb d).y)].map A.val) Z br rfl (by decide) rfl)
 refine zd ?_ (h:=fun Z=>ag Z (jK (nw 0 (ca d)) (cb d) (by exact mC (by decide) (md ho)) (by exact oY ho)) (ac (ArgV.v vt) (ac (ArgV.va va) an)) rv)
 refine zd ?_ (h:=fun Z=>gt Z)
 refine bG (aC ?_)
 exact VRes.tmp _ _ _ (by exact rfl) (ce (congrArg (Value.int .u64) (by rfl)))
theorem om (d:Dom) (ho:okD d=true):Fn Tryz.prog 106 [.agg ([vI d.x,vI d.y,.bool d.d].map A.val)] [.val (.agg ([.int .i64 (ca d).x,.int .i64 (ca d).y]:List Value).toArray),.val (.agg ([.int .i64 (cb d).x,.int .i64 (cb d).y]:List Value).toArray)]:=by
 refine bm (N:=16) Tryz.func106 rfl (by kernel_rfl) rfl (Nat.le_of_ble_eq_true rfl) [1,2,3,5,15] (ret2 rfl rfl (by intro u hu;injection hu with hu;subst hu;rfl)) (fun W=> ?_)
 show Wp _ _ _ [kV 0 (V.av [vI d.x,vI d.y,.bool d.d]),kF 1,kF 2,kF 3,kF 5,kF 15]
 refine sq (rg ?_)
 refine z ?_ (h:=fun Z=>bo (h:=1) Z xt (by exact ob1 rfl))
 refine z ?_ (h:=fun Z=>aL (h:=2) (cap:=1) (s:=2) (cells:=[aI 0,aI 0]) Z dz rfl rfl (by decide))
 refine z ?_ (h:=fun Z=>aL (h:=3) (cap:=1) (s:=2) (cells:=[aI 0,aI 0]) Z dz rfl rfl (by decide))
 refine nl (sq (sq (rg ?_)))
 refine z ?_ (h:=fun Z=>ab (xs:=[vI d.x,vI d.y,.bool d.d].map A.val) Z ju rfl (by decide) rfl)
 refine z ?_ (h:=fun Z=>ag Z (eh d ) (ac (ArgV.va va) an) (bi (congrArg Value.bool ho)))
 refine z ?_ (h:=fun Z=>bn Z vt (bS (c:=false) rfl))
 refine nl (wf (sk (sq (ch ?_))))
 refine zd ?_ (h:=fun Z=>aq (off':=0) Z et rfl)
 refine zd ?_ (h:=fun Z=>ah (x:= .val (.int .i64 d.x)) Z dn (by exact rfl))
 refine zd ?_ (h:=fun Z=>aq (off':=1) Z ew rfl)
 refine zd ?_ (h:=fun Z=>ah (x:= .val (.int .i64 d.y)) Z dn (by exact rfl))
 refine zd ?_ (h:=fun Z=>bC Z fN vt vt)
 refine zd ?_ (h:=fun Z=>ab (xs:=[vI d.x,vI d.y,.bool d.d].map A.val) Z ju rfl (by decide) rfl)
 refine zd ?_ (h:=fun Z=>ag Z (pG d (by omega)) (ac (ArgV.va va) an) (ResV.agg [vI ((cb d).x),vI ((cb d).y)]))
 refine zd ?_ (h:=fun _=>aE (cells:=[aI d.x,aI d.y]) br xt (by exact rfl) (by decide) (by exact ob1 rfl) (by exact Nat.le_of_ble_eq_true rfl) (by exact rfl))
 refine zd ?_ (h:=fun _=>aE (cells:=[aI ((cb d).x),aI ((cb d).y)]) br xt (by exact rfl) (by decide) (by exact ob1 rfl) (by exact Nat.le_of_ble_eq_true rfl) (by exact rfl))
 refine bG (aC ?_)
 exact⟨VRes.cells 2 70 2 ⟨70,2,true,[aI d.x,aI d.y]⟩ _ (by kernel_rfl) (by kernel_rfl) br (Nat.le_of_ble_eq_true rfl) (pQ (vs:=[vI d.x,vI d.y]) (by rfl)),VRes.cells 3 70 3 ⟨70,2,true,[aI ((cb d).x),aI ((cb d).y)]⟩ _ (by kernel_rfl) (by kernel_rfl) br (Nat.le_of_ble_eq_true rfl) (pQ (vs:=[vI ((cb d).x),vI ((cb d).y)]) (by rfl))⟩
theorem kC (ds:List Dom) (c:Cel) (hd:ds.length≤2097152):Fn Tryz.prog 87 [.a (.slv ds.length 3 (dsl ds)),.agg ([vI c.x,vI c.y].map A.val)] [.val (.int .i64 (atD ds c))]:=by
 refine bm (N:=37) Tryz.func87 rfl (by kernel_rfl) rfl (Nat.le_of_ble_eq_true rfl) [3,6,7,10,18,25] (dN rfl) (fun W=> ?_)
 show Wp _ _ _ [kV 0 (V.b (.a (.slv ds.length 3 (dsl ds)))),kV 1 (V.av [vI c.x,vI c.y]),kF 3,kF 6,kF 7,kF 10,kF 18,kF 25]
 refine sq (rg ?_)
 refine z ?_ (h:=fun Z=>bo (h:=3) Z xt (by exact ob1 rfl))
 refine zk (nl (sq (sq (rg (zk (nl (bkk ?_)))))))
 refine bg (fun(k:Nat)=>k≤ds.length∧(ds.take k).any (cvr c)=false) (fun(k:Nat)=>[kV 0 (V.b (.a (.slv ds.length 3 (dsl ds)))),kP 3 3 0,kI 5 ((k:Nat):Int),kO 3 70 2 true [aI c.x,aI c.y],kF 6,kF 7,kF 10,kF 18,kF 25]) (fun(k:Nat)=>ds.length-k) ((0:Nat)) (by exact⟨Nat.zero_le _,rfl⟩) (wkf id (wS<|wS<|wE (e:=(be (by rfl)))<|wX<|wF<|wF<|wF<|wF<|wF<|wN)) ?_
 rintro k inv1
 replace inv1:k≤ds.length∧(ds.take k).any (cvr c)=false:=inv1
 obtain⟨inv1_0,inv1_1⟩:=inv1
 refine sq (sq (rg (zm (zm ?_))))
 refine z ?_ (h:=fun Z=>lnV Z nZ)
 refine z ?_ (h:=fun Z=>aa Z vt vt (bA rfl))
 refine nl ?_
 refine wi (fun c2=> ?_) (fun c2=> ?_)
 ·skip
  have c2P:=of_decide_eq_true c2
  refine sk (sq (bkk (sq (sq (rg (zm (zm ?_)))))))
  refine z ?_ (h:=fun Z=>ixv Z nZ th vt (hlt:=(by omega)))
  refine z ?_ (h:=fun Z=>uD Z ju (by omega))
  refine z ?_ (h:=fun Z=>ag Z (eh (gD ds k) ) (ac (ArgV.va va) an) rv)
  refine z ?_ (h:=fun Z=>bn Z vt (bS rfl))
  refine nl ?_
  refine wi (b:=(!(okD (gD ds k)))) (fun c3=> ?_) (fun c3=> ?_)
  ·skip
   have c4:(okD (gD ds k))=false:=by first |(rw[←Bool.not_eq_true'];exact c3) |simpa using c3
   refine aU (rg (zm ?_))
   refine z ?_ (h:=fun Z=>aa Z vt vc (rA (by omega) (by omega)))
   refine za (nl ?_)
   exact aA ((k+1)) (by refine⟨by omega,uo (by omega) (by assumption) ?_⟩;unfold cvr;simp_all [mE]) (by show ds.length-(k+1)<ds.length-k;omega) (wkf id (wS<|wS<|wE (e:=(be (by rfl)))<|wX<|wF<|wF<|wF<|wF<|wF<|wN))
  ·skip
   have c5:(okD (gD ds k))=true:=by first |(rw[←Bool.not_eq_false'];exact c3) |simpa using c3
   refine sk (sq (rg (zm (zm ?_))))
   refine z ?_ (h:=fun Z=>ixv Z nZ th vt (hlt:=(by omega)))
   refine z ?_ (h:=fun Z=>uD Z ju (by omega))
   refine z ?_ (h:=fun Z=>cH Z (om (gD ds k) (by omega)) (ac (ArgV.va va) an) (ResV.agg [vI ((ca (gD ds k)).x),vI ((ca (gD ds k)).y)]) (ResV.agg [vI ((cb (gD ds k)).x),vI ((cb (gD ds k)).y)]))
   refine zm ?_
   refine z ?_ (h:=fun Z=>ba Z (by exact rfl))
   refine z ?_ (h:=fun Z=>ba Z (by exact rfl))
   refine z ?_ (h:=fun Z=>aL (h:=6) (cap:=1) (s:=2) (cells:=[aI 0,aI 0]) Z dz rfl rfl (by decide))
   refine z ?_ (h:=fun Z=>aL (h:=7) (cap:=1) (s:=2) (cells:=[aI 0,aI 0]) Z dz rfl rfl (by decide))
   refine z ?_ (h:=fun _=>aE (cells:=[aI ((ca (gD ds k)).x),aI ((ca (gD ds k)).y)]) br xt (by exact rfl) (by decide) (by exact ob1 rfl) (by exact Nat.le_of_ble_eq_true rfl) (by exact rfl))
   refine z ?_ (h:=fun _=>aE (cells:=[aI ((cb (gD ds k)).x),aI ((cb (gD ds k)).y)]) br xt (by exact rfl) (by decide) (by exact ob1 rfl) (by exact Nat.le_of_ble_eq_true rfl) (by exact rfl))
   refine nl (sq ?_)
   rcases Bool.eq_false_or_eq_true ((cEq ((ca (gD ds k)).x) ((ca (gD ds k)).y) c.x c.y))with c6 |c6
   ·skip
    refine rg ?_
    refine z ?_ (h:=fun Z=>ab (xs:=[vI ((ca (gD ds k)).x),vI ((ca (gD ds k)).y)].map A.val) Z br rfl (by decide) rfl)
    refine z ?_ (h:=fun Z=>ab (xs:=[vI c.x,vI c.y].map A.val) Z br rfl (by decide) rfl)
    refine z ?_ (h:=fun Z=>aa Z va va (pt nY (fun w=>(jO ((ca (gD ds k)).x) ((ca (gD ds k)).y) c.x c.y w).trans (congrArg (fun z=>Result.ok (Value.bool z) w) c6))))
    refine zm (zo (zo (zo ?_)))
    refine z ?_ (h:=fun Z=>au Z vt xc)
    refine nl (wt (sq (rg (zm (za (nl (aC ?_)))))))
    exact VRes.tmp _ _ _ (by exact rfl) (ce (congrArg (Value.int .i64) (by(refine zW (by omega) (by assumption) ?_;unfold cvr;simp_all [mE]))))
   ·skip
    refine rg ?_
    refine z ?_ (h:=fun Z=>ab (xs:=[vI ((ca (gD ds k)).x),vI ((ca (gD ds k)).y)].map A.val) Z br rfl (by decide) rfl)
    refine z ?_ (h:=fun Z=>ab (xs:=[vI c.x,vI c.y].map A.val) Z br rfl (by decide) rfl)
    refine z ?_ (h:=fun Z=>aa Z va va (pt nY (fun w=>(jO ((ca (gD ds k)).x) ((ca (gD ds k)).y) c.x c.y w).trans (congrArg (fun z=>Result.ok (Value.bool z) w) c6))))
    refine zm ?_
    refine zg ?_ (h:=fun Z=>ae rfl rfl (ab (xs:=[vI ((cb (gD ds k)).x),vI ((cb (gD ds k)).y)].map A.val) Z br rfl (by decide) rfl))
    refine zg ?_ (h:=fun Z=>ae rfl rfl (ab (xs:=[vI c.x,vI c.y].map A.val) Z br rfl (by decide) rfl))
    refine zg ?_ (h:=fun Z=>ae rfl rfl (aa Z va va (pt nY (fun w=>(jO ((cb (gD ds k)).x) ((cb (gD ds k)).y) c.x c.y w).trans (congrArg (fun z=>Result.ok (Value.bool z) w) (rfl:(cEq ((cb (gD ds k)).x) ((cb (gD ds k)).y) c.x c.y)=(cEq ((cb (gD ds k)).x) ((cb (gD ds k)).y) c.x c.y)))))))
    refine z ?_ (h:=fun Z=>ar Z vt xt)
    refine nl ?_
    refine wi (b:=(cEq ((cb (gD ds k)).x) ((cb (gD ds k)).y) c.x c.y)) (fun c7=> ?_) (fun c7=> ?_)
    ·skip
     refine sq (rg (zm (za (nl (aC ?_)))))
     exact VRes.tmp _ _ _ (by exact rfl) (ce (congrArg (Value.int .i64) (by(refine zW (by omega) (by assumption) ?_;unfold cvr;simp_all [mE]))))
    ·skip
     refine sk (rg (zm ?_))
     refine z ?_ (h:=fun Z=>aa Z vt vc (rA (by omega) (by omega)))
     refine za (nl ?_)
     exact aA ((k+1)) (by refine⟨by omega,uo (by omega) (by assumption) ?_⟩;unfold cvr;simp_all [mE]) (by show ds.length-(k+1)<ds.length-k;omega) (wkf id (wS<|wS<|wE (e:=(be (by rfl)))<|wX<|wF<|wF<|wF<|wF<|wF<|wN))
 ·skip
  have c2P:=of_decide_eq_false c2
  refine aU (sq (rg (zk (nl (aC ?_)))))
  exact VRes.tmp _ _ _ (by exact rfl) (ce (congrArg (Value.int .i64) (by exact Jn (by omega) (by assumption))))
theorem nC (l:List Int) (ds:List Dom) (hl:l.length≤4194304) (hd:ds.length≤2097152):Fn Tryz.prog 84 [.agg [(.slv l.length 1 (isl l):A)],.a (.slv ds.length 3 (dsl ds))] [.row 70 2 (unc l ds).length (csl (unc l ds))]:=by
 refine bm (N:=32) Tryz.func84 rfl (by kernel_rfl) rfl (Nat.le_of_ble_eq_true rfl) [2,8,10,13,22,29,30] (dN rfl) (fun W=> ?_)
 show Wp _ _ _ [kV 0 (V.b (.agg [(.slv l.length 1 (isl l):A)])),kV 1 (V.b (.a (.slv ds.length 3 (dsl ds)))),kF 2,kF 8,kF 10,kF 13,kF 22,kF 29,kF 30]
 refine sq (rg ?_)
 refine z ?_ (h:=fun Z=>bo (h:=2) Z xt (by exact ob1 rfl))
 refine zk (nl (sq (rg ?_)))
 refine z ?_ (h:=fun Z=>b0C (h:=8) Z gO dz)
 refine za (nl (sq (rg ?_)))
 refine z ?_ (h:=fun Z=>ab (xs:=[(.slv l.length 1 (isl l):A)]) Z zz rfl (by decide) rfl)
 refine z ?_ (h:=fun Z=>ag Z (lD l (by omega)) (ac (ArgV.regv _ _ 1 _) an) (ResV.row _ _ _ _ 10))
 refine za (nl (sq (sq (rg (zk (nl (bkk ?_)))))))
 refine bg (fun(k:Nat)=>k≤(cellsOf l).length) (fun(k:Nat)=>[kV 1 (V.b (.a (.slv ds.length 3 (dsl ds)))),kS 5 8 0 ((((cellsOf l).take k).filter (fun c=> !(ds.any (cvr c)))).length),kS 6 10 0 ((cellsOf l).length),kI 7 ((k:Nat):Int),kO 8 70 2 true (pl (csl (((cellsOf l).take k).filter (fun c=> !(ds.any (cvr c)))))),kO 10 70 2 true (pl (csl (cellsOf l))),kF 2,kF 13,kF 22,kF 29,kF 30]) (fun(k:Nat)=>(cellsOf l).length-k) ((0:Nat)) (by exact(Nat.zero_le _:0≤_)) (wkf id (wS<|wE (e:=(vsl (by rfl) rfl))<|wS<|wE (e:=(be (by rfl)))<|wO (e:=aJ (fun h=>h) (congrArg csl (by rfl)))<|wP<|wF<|wF<|wF<|wF<|wF<|wN)) ?_
 rintro k inv1
 replace inv1:k≤(cellsOf l).length:=inv1
 have inv:=inv1
 have hlt:=uu (fun c=> !(ds.any (cvr c))) (cellsOf l) k
 have h64:=lO l
 refine sq (sq (rg (zm (zm ?_))))
 refine z ?_ (h:=fun Z=>lnS Z gO)
 refine z ?_ (h:=fun Z=>aa Z vt vt (bA rfl))
 refine nl ?_
 refine wi (fun c2=> ?_) (fun c2=> ?_)
 ·skip
  have c2P:=of_decide_eq_true c2
  refine sk (sq (bkk (sq (rg (zm (zm (zm ?_)))))))
  refine z ?_ (h:=fun Z=>ix0 Z gO tj vt (hlt:=(by omega)))
  refine z ?_ (h:=fun Z=>lC Z br (by omega))
  refine z ?_ (h:=fun Z=>ag Z (kC ds (gC (cellsOf l) k) (by omega)) (ac (ArgV.slv _ _ _ _) (ac (ArgV.va va) an)) rv)
  refine z ?_ (h:=fun Z=>aa Z vt vc (bA rfl))
  refine nl ?_
  refine wi (fun c3=> ?_) (fun c3=> ?_)
  ·skip
   have c3P:=of_decide_eq_true c3
   refine rg (zm (zm (zm ?_)))
   refine z ?_ (h:=fun Z=>ix0 Z gO tj vt (hlt:=(by omega)))
   refine z ?_ (h:=fun Z=>lC Z br (by omega))
   refine z ?_ (h:=fun Z=>aP (h:=29) (xs:=csl ([(gC (cellsOf l) k)]:List Cel)) Z gO dz (.cons va OpVs.nil) (by decide) (by decide) (by kernel_rfl) rfl)
   refine z ?_ (h:=fun Z=>aC_ (h2:=30) (L3:=((((cellsOf l).take k).filter (fun c=> !(ds.any (cvr c))))++[(gC (cellsOf l) k)])) Z gO dz (by exact rfl) rfl (by exact rfl) (by(simp;omega)))
   refine za (nl (rg (zm ?_)))
   refine z ?_ (h:=fun Z=>aa Z vt vc (rA (by omega) (by omega)))
   refine za (nl ?_)
   exact aA ((k+1)) (by show _≤_;omega) (by show(cellsOf l).length-(k+1)<(cellsOf l).length-k;omega) (wkf (aX [(8,30)]) (wS<|wE (e:=(vsl (by(exact congrArg List.length (by first |rfl |exact mF (p:=(fun c=> !(ds.any (cvr c)))) (by omega) (Dh (by assumption)) |exact oE (p:=(fun c=> !(ds.any (cvr c)))) (by omega) (Dg (by assumption)) |omega))) rfl))<|wS<|wE (e:=(be (by rfl)))<|wO (e:=aJ (fun h=>h) (congrArg csl (by exact mF (p:=(fun c=> !(ds.any (cvr c)))) (by omega) (Dh (by assumption)))))<|wP<|wF<|wF<|wF<|wF<|wF<|wN))
  ·skip
   have c3P:=of_decide_eq_false c3
   refine sk (rg (zm ?_))
   refine z ?_ (h:=fun Z=>aa Z vt vc (rA (by omega) (by omega)))
   refine za (nl ?_)
   exact aA ((k+1)) (by show _≤_;omega) (by show(cellsOf l).length-(k+1)<(cellsOf l).length-k;omega) (wkf id (wS<|wE (e:=(vsl (by(exact congrArg List.length (by first |rfl |exact mF (p:=(fun c=> !(ds.any (cvr c)))) (by omega) (Dh (by assumption)) |exact oE (p:=(fun c=> !(ds.any (cvr c)))) (by omega) (Dg (by assumption)) |omega))) rfl))<|wS<|wE (e:=(be (by rfl)))<|wO (e:=aJ (fun h=>h) (congrArg csl (by exact oE (p:=(fun c=> !(ds.any (cvr c)))) (by omega) (Dg (by assumption)))))<|wP<|wF<|wF<|wF<|wF<|wF<|wN))
 ·skip
  have c2P:=of_decide_eq_false c2
  refine aU (sq (rg (zm (za (nl (aC ?_))))))
  exact VRes.tmp _ _ _ (by exact rfl) (iQ (h:=8) (L:=(((cellsOf l).take k).filter (fun c=> !(ds.any (cvr c))))) (by kernel_rfl) (by unfold unc;rw[List.take_of_length_le (by omega)]) (by rfl))
end Cl
end Go.Proofs.YtgmkkfdnmdohlaaGreatDoor
