/- Parts put together: S0, E5, E7, P1, P2, E8p, E8, Fw. -/
import Derived.Test.YtonlghbbdcddoaaGreatC3w
import Derived.Test.YtonlghbbdcddoaaGreatSO
import Derived.Test.YtonlghbbdcddoaaGreatClB
import Derived.Test.YtonlghbbdcddoaaGreatWE
import Derived.Test.YtonlghbbdcddoaaGreatFL
import Derived.Test.YtonlghbbdcddoaaGreatEA
import Derived.Test.YtonlghbbdcddoaaGreatC0
import Derived.Test.YtonlghbbdcddoaaGreatCH
set_option maxHeartbeats 4000000
set_option maxRecDepth 100000
namespace Go.Proofs.YtonlghbbdcddoaaGreat
namespace Cl
open Go.ChangeShapes Go.WideShapes Go.ChangeAt Go.RowKit
theorem oy (l:List Dom) (hl:l.length≤4194304):Fn Tryz.prog 75 [.a (.slv l.length 3 (dsl l))] [.row 54 3 (gr l).length (dsl (gr l))]:=by
  refine⟨⟨_,Tryz.func75,by kernel_rfl,by kernel_rfl⟩,fun w args h=> ?_⟩
  match args,eA.1 h with
  | [u0],⟨h0,_⟩=>
    obtain⟨A0,c0,rfl,hc0,hr0⟩:=nK h0
    refine Calls.mono (ro l A0 l.length c0 w hr0 hl) ?_
    rintro e w' ⟨v,rfl,ho,hb⟩
    exact⟨_,rfl,ho,hb⟩
def pr0 (c:Cel) (b:Bool):Dom:=⟨c.x,c.y,b⟩
def pr1 (c:Cel) (b:Bool):Dom:=if b then⟨c.x+1,c.y,true⟩else⟨c.x,c.y+1,false⟩
def kp (g0 g1 z:Dom):Bool:= !(dEq z.x z.y z.d g0.x g0.y g0.d)&& !(dEq z.x z.y z.d g1.x g1.y g1.d)
def te (l:List Dom) (c:Cel):List Dom:=gr ([pr0 c (acB l c.x c.y),pr1 c (acB l c.x c.y)]++l.filter (kp (pr0 c (!(acB l c.x c.y))) (pr1 c (!(acB l c.x c.y)))))
def bA (l:List Dom) (c:Cel):List Dom:=if gK l c.x c.y then te l c else l
theorem qJ {p:Dom→Bool} {l:List Dom} {k:Nat} (h:k<l.length) (hp:p (gD l k)=true) (L:List Dom):L++(l.take (k+1)).filter p=(L++(l.take k).filter p)++[gD l k]:=by
 rw[List.take_succ_eq_append_getElem h,List.filter_append,←jP h];simp [hp]
theorem qI {p:Dom→Bool} {l:List Dom} {k:Nat} (h:k<l.length) (hp:p (gD l k)=false) (L:List Dom):L++(l.take (k+1)).filter p=L++(l.take k).filter p:=by
 rw[List.take_succ_eq_append_getElem h,List.filter_append,←jP h];simp [hp]
theorem mA {l:List Dom} {x y:Int} (h:gK l x y=true):0≤x∧x≤6∧0≤y∧y≤6:=by
 unfold gK at h
 simp only[Bool.and_eq_true]at h
 have h1:=bw.1 h.1.1;have h2:=bw.1 h.1.2;omega
theorem ER (p:Dom→Bool) (l:List Dom) (k:Nat) (L:List Dom):(L++(l.take k).filter p).length≤k+L.length:=by
 have:=List.length_filter_le p (l.take k);simp at this⊢;omega
theorem HU (c:Cel) (b:Bool):(⟨if b then c.x+1 else c.x,if b then c.y else c.y+1,b⟩:Dom)=pr1 c b:=by cases b<;>rfl
theorem JE (p:Dom→Bool) (l:List Dom) (a b:Dom):([a,b]++l.filter p).length≤l.length+2:=by
 have:=List.length_filter_le p l;simp at this⊢;omega
theorem ET {l:List Dom} {c:Cel} {k:Nat} {n0 n1 g0 g1:Dom} (hk:¬(k:Int)<(l.length:Int)) (hc:gK l c.x c.y=true) (a:Bool) (ha:acB l c.x c.y=a)
   (e0:n0=pr0 c a) (e1:n1=pr1 c a) (e2:g0=pr0 c !a) (e3:g1=pr1 c !a):gr ([n0,n1]++(l.take k).filter (kp g0 g1))=bA l c:=by
  subst ha;subst e0;subst e1;subst e2;subst e3
  rw[List.take_of_length_le (by omega)]
  unfold bA;rw[if_pos hc];rfl
theorem FR (l:List Dom):(gr l).length≤l.length:=vZ l
theorem BK (l:List Dom) (c:Cel):(bA l c).length≤l.length+2:=by
 unfold bA;split
 ·exact Nat.le_trans (FR _) (JE _ _ _ _)
 ·omega
theorem Dt {l:List Dom} {x y:Int} (h:¬bg l x y=0):gK l x y=true:=by
 rw[←oO]
 unfold bg at h⊢;split at h<;>(try split at h)<;>(try split at h)<;>simp_all
theorem Hp {l:List Dom} {x y:Int} (h:¬bg l x y=0):decide (bg l x y=2)= !(acB l x y)∧decide (bg l x y=1)=acB l x y:=by
 unfold bg at h⊢;split at h<;>(try split at h)<;>(try split at h)<;>simp_all
theorem Ke {l:List Dom} {x y:Int} (h:bg l x y=0):gK l x y=false:=by
 rw[←oO,h];rfl
theorem sv:Tryz.prog.eqGuardType Tryz.prog.depth 54=false:=by kernel_rfl
theorem pi:(Tryz.prog.info? 54).map (·.size)=some 3:=by kernel_rfl
theorem eE:TI Tryz.prog 54 true 3:=⟨⟨_,Tryz.underlying54,rfl⟩,by kernel_rfl⟩
theorem sw:TI Tryz.prog 67 true 2:=⟨⟨_,Tryz.underlying67,rfl⟩,by kernel_rfl⟩
theorem fM:Tryz.prog.underlying 27=some (.slice 54):=Tryz.underlying27
theorem gE:ZI Tryz.prog 54 (.agg #[.int .i64 0,.int .i64 0,.bool false]) 3 24:=by unfold ZI;kernel_rfl
theorem tZ (l:List Dom) (c:Cel) (hl:l.length≤4194304):Fn Tryz.prog 73 [.a (.slv l.length 3 (dsl l)),.agg ([vI c.x,vI c.y].map A.val)] [.val (.int .i64 (bg l c.x c.y))]:=by
  refine⟨⟨_,Tryz.func73,by kernel_rfl,by kernel_rfl⟩,fun w args h=> ?_⟩
  match args,eA.1 h with
  | [u0,u1],⟨h0,h1,_⟩=>
    obtain⟨A0,c0,rfl,hc0,hr0⟩:=nK h0
    obtain rfl:=oD h1
    refine Calls.mono (sh l A0 l.length c0 c.x c.y w hr0 hl) ?_
    rintro e w' ⟨rfl,hb⟩
    exact⟨_,rfl,rfl,hb⟩
theorem nv (c:Cel) (b:Bool) (hb:0≤c.x∧c.x≤6∧0≤c.y∧c.y≤6):Fn Tryz.prog 74 [.agg ([vI c.x,vI c.y].map A.val),.a (.val (.bool b))] [.val (.agg ([vI c.x,vI c.y,.bool b]:List Value).toArray),.val (.agg ([vI (if b then c.x+1 else c.x),vI (if b then c.y else c.y+1),.bool b]:List Value).toArray)]:=by
  refine⟨⟨_,Tryz.func74,by kernel_rfl,by kernel_rfl⟩,fun w args h=> ?_⟩
  match args,eA.1 h with
  | [u0,u1],⟨h0,h1,_⟩=>
    obtain rfl:=oD h0
    obtain rfl:=fO h1
    refine Calls.mono (si c.x c.y b hb.1 hb.2.1 hb.2.2.1 hb.2.2.2 w) ?_
    rintro e w' ⟨rfl,hb⟩
    exact⟨_,rfl,Np rfl rfl rfl,hb⟩
theorem wa (l:List Dom) (c:Cel) (hl:l.length≤1048576):Fn Tryz.prog 37 [.a (.slv l.length 3 (dsl l)),.agg ([vI c.x,vI c.y].map A.val)] [.row 54 3 (bA l c).length (dsl (bA l c)),.val (.bool (gK l c.x c.y))]:=by
 refine aN (N:=67) Tryz.func37 rfl (by kernel_rfl) rfl (Nat.le_of_ble_eq_true rfl) [3,7,8,9,10,15,18,20,25,32,37,40,63,64,66,67,68,69,70,1000,1001] (vO rfl rfl (by intro u hu;injection hu with hu;subst hu;rfl)) (fun W=> ?_)
 show Wp _ _ _ [kV 0 (V.b (.a (.slv l.length 3 (dsl l)))),kV 1 (V.av [vI c.x,vI c.y]),kF 3,kF 7,kF 8,kF 9,kF 10,kF 15,kF 18,kF 20,kF 25,kF 32,kF 37,kF 40,kF 63,kF 64,kF 66,kF 67,kF 68,kF 69,kF 70,kF 1000,kF 1001]
 refine sq (rg ?_)
 refine z ?_ (h:=fun Z=>aM (h:=3) Z xt (by exact ob1 rfl))
 refine zk (zk (nl (sq (rg (zm ?_)))))
 refine z ?_ (h:=fun Z=>aa (xs:=[vI c.x,vI c.y].map A.val) Z sw rfl (by decide) rfl)
 refine z ?_ (h:=fun Z=>ah Z (tZ l c (by omega)) (ac (ArgV.slv _ _ _ _) (ac (ArgV.va va) an)) rv)
 refine za (nl (sq (sq (rg (zm ?_)))))
 refine z ?_ (h:=fun Z=>ab Z vt vc (cW rfl))
 refine nl ?_
 refine wi (fun c1=> ?_) (fun c1=> ?_)
 ·skip
  have c1P:=of_decide_eq_true c1
  have c1B:=Ke c1P
  refine sq (rg ?_)
  refine z ?_ (h:=fun Z=>b0D (h:=18) Z fM gE)
  refine zm ?_
  refine z ?_ (h:=fun Z=>nF (h2:=20) (m:=l.length) (nm:=l.length) (X:= .slv l.length 3 (dsl l)) (xs:=dsl []) (ys:=dsl l) (zs:=dsl l) Z fM gE rfl (by decide) (by decide) (by exact bQ _) xt (Src.slv _ _ _) (uJ _) (by omega) (by exact(ie _ _).symm) (by(simp;done)))
  refine za (zk (nl (aq ?_)))
  exact⟨VRes.tmp _ _ _ (by exact rfl) (lQ (h:=20) (L:=l) (by kernel_rfl) (by simp [bA, *]) (by rfl)),VRes.tmp _ _ _ (by exact rfl) (cc (congrArg Value.bool (by simp_all)))⟩
 ·skip
  have c1P:=of_decide_eq_false c1
  have c1B:=mA (Dt c1P)
  have c1C:=Dt c1P
  have c1D:=Hp c1P
  refine sk (sq (rg ?_))
  refine z ?_ (h:=fun Z=>aa (xs:=[vI c.x,vI c.y].map A.val) Z sw rfl (by decide) rfl)
  refine zm ?_
  refine z ?_ (h:=fun Z=>ab Z vt vc (cW rfl))
  refine z ?_ (h:=fun Z=>cS Z (nv c (decide ((bg l c.x c.y)=2)) (by omega)) (ac (ArgV.va va) (ac (ArgV.v vt) an)) (ResV.agg [vI c.x,vI c.y,.bool (decide ((bg l c.x c.y)=2))]) (ResV.agg [vI (if(decide ((bg l c.x c.y)=2))then c.x+1 else c.x),vI (if(decide ((bg l c.x c.y)=2))then c.y else c.y+1),.bool (decide ((bg l c.x c.y)=2))]))
  refine zm ?_
  refine z ?_ (h:=fun Z=>az Z (by exact rfl))
  refine z ?_ (h:=fun Z=>az Z (by exact rfl))
  refine z ?_ (h:=fun Z=>aF (h:=7) (cap:=1) (s:=3) (cells:=[aI 0,aI 0,aB false]) Z gE rfl rfl (by decide))
  refine z ?_ (h:=fun Z=>aF (h:=8) (cap:=1) (s:=3) (cells:=[aI 0,aI 0,aB false]) Z gE rfl rfl (by decide))
  refine z ?_ (h:=fun _=>aw (cells:=[aI c.x,aI c.y,aB (decide ((bg l c.x c.y)=2))]) eE xt (by exact rfl) (by decide) (by exact ob1 rfl) (by exact Nat.le_of_ble_eq_true rfl) (by exact rfl))
  refine z ?_ (h:=fun _=>aw (cells:=[aI (if(decide ((bg l c.x c.y)=2))then c.x+1 else c.x),aI (if(decide ((bg l c.x c.y)=2))then c.y else c.y+1),aB (decide ((bg l c.x c.y)=2))]) eE xt (by exact rfl) (by decide) (by exact ob1 rfl) (by exact Nat.le_of_ble_eq_true rfl) (by exact rfl))
  refine nl (sq (rg ?_))
  refine z ?_ (h:=fun Z=>aa (xs:=[vI c.x,vI c.y].map A.val) Z sw rfl (by decide) rfl)
  refine zm ?_
  refine z ?_ (h:=fun Z=>ab Z vt vc (cW rfl))
  refine z ?_ (h:=fun Z=>cS Z (nv c (decide ((bg l c.x c.y)=1)) (by omega)) (ac (ArgV.va va) (ac (ArgV.v vt) an)) (ResV.agg [vI c.x,vI c.y,.bool (decide ((bg l c.x c.y)=1))]) (ResV.agg [vI (if(decide ((bg l c.x c.y)=1))then c.x+1 else c.x),vI (if(decide ((bg l c.x c.y)=1))then c.y else c.y+1),.bool (decide ((bg l c.x c.y)=1))]))
  refine zm ?_
  refine z ?_ (h:=fun Z=>az Z (by exact rfl))
  refine z ?_ (h:=fun Z=>az Z (by exact rfl))
  refine z ?_ (h:=fun Z=>aF (h:=9) (cap:=1) (s:=3) (cells:=[aI 0,aI 0,aB false]) Z gE rfl rfl (by decide))
  refine z ?_ (h:=fun Z=>aF (h:=10) (cap:=1) (s:=3) (cells:=[aI 0,aI 0,aB false]) Z gE rfl rfl (by decide))
  refine z ?_ (h:=fun _=>aw (cells:=[aI c.x,aI c.y,aB (decide ((bg l c.x c.y)=1))]) eE xt (by exact rfl) (by decide) (by exact ob1 rfl) (by exact Nat.le_of_ble_eq_true rfl) (by exact rfl))
  refine z ?_ (h:=fun _=>aw (cells:=[aI (if(decide ((bg l c.x c.y)=1))then c.x+1 else c.x),aI (if(decide ((bg l c.x c.y)=1))then c.y else c.y+1),aB (decide ((bg l c.x c.y)=1))]) eE xt (by exact rfl) (by decide) (by exact ob1 rfl) (by exact Nat.le_of_ble_eq_true rfl) (by exact rfl))
  refine nl (sq (rg ?_))
  refine z ?_ (h:=fun Z=>aa (xs:=[vI c.x,vI c.y,.bool (decide ((bg l c.x c.y)=1))].map A.val) Z eE rfl (by decide) rfl)
  refine z ?_ (h:=fun Z=>aa (xs:=[vI (if(decide ((bg l c.x c.y)=1))then c.x+1 else c.x),vI (if(decide ((bg l c.x c.y)=1))then c.y else c.y+1),.bool (decide ((bg l c.x c.y)=1))].map A.val) Z eE rfl (by decide) rfl)
  refine z ?_ (h:=fun Z=>aR (h:=37) (xs:=dsl ([(⟨c.x,c.y,(decide ((bg l c.x c.y)=1))⟩:Dom),(⟨(if(decide ((bg l c.x c.y)=1))then c.x+1 else c.x),(if(decide ((bg l c.x c.y)=1))then c.y else c.y+1),(decide ((bg l c.x c.y)=1))⟩:Dom)]:List Dom)) Z fM gE (.cons va (.cons va OpVs.nil)) (by decide) (by decide) (by kernel_rfl) rfl)
  refine za (nl (sq (sq (rg (zk (nl (bkk ?_)))))))
  refine bf (fun(k:Nat)=>k≤l.length) (fun(k:Nat)=>[kV 0 (V.b (.a (.slv l.length 3 (dsl l)))),kP 7 7 0,kP 8 8 0,kS 11 37 0 (([(⟨c.x,c.y,(decide ((bg l c.x c.y)=1))⟩:Dom),(⟨(if(decide ((bg l c.x c.y)=1))then c.x+1 else c.x),(if(decide ((bg l c.x c.y)=1))then c.y else c.y+1),(decide ((bg l c.x c.y)=1))⟩:Dom)]++(l.take k).filter (kp (⟨c.x,c.y,(decide ((bg l c.x c.y)=2))⟩:Dom) (⟨(if(decide ((bg l c.x c.y)=2))then c.x+1 else c.x),(if(decide ((bg l c.x c.y)=2))then c.y else c.y+1),(decide ((bg l c.x c.y)=2))⟩:Dom))).length),kI 12 ((k:Nat):Int),kO 7 54 3 true [aI c.x,aI c.y,aB (decide ((bg l c.x c.y)=2))],kO 8 54 3 true [aI (if(decide ((bg l c.x c.y)=2))then c.x+1 else c.x),aI (if(decide ((bg l c.x c.y)=2))then c.y else c.y+1),aB (decide ((bg l c.x c.y)=2))],kO 37 54 3 true (pl (dsl ([(⟨c.x,c.y,(decide ((bg l c.x c.y)=1))⟩:Dom),(⟨(if(decide ((bg l c.x c.y)=1))then c.x+1 else c.x),(if(decide ((bg l c.x c.y)=1))then c.y else c.y+1),(decide ((bg l c.x c.y)=1))⟩:Dom)]++(l.take k).filter (kp (⟨c.x,c.y,(decide ((bg l c.x c.y)=2))⟩:Dom) (⟨(if(decide ((bg l c.x c.y)=2))then c.x+1 else c.x),(if(decide ((bg l c.x c.y)=2))then c.y else c.y+1),(decide ((bg l c.x c.y)=2))⟩:Dom))))),kF 3,kF 9,kF 10,kF 15,kF 18,kF 20,kF 25,kF 32,kF 40,kF 63,kF 64,kF 66,kF 67,kF 68,kF 69,kF 70,kF 1000,kF 1001]) (fun(k:Nat)=>l.length-k) ((0:Nat)) (by exact Nat.zero_le _) (wkf id (wS<|wS<|wS<|wE (e:=(vsl (by rfl) rfl))<|wE (e:=(aO (by rfl)))<|wX<|wX<|wO (e:=aG (fun h=>h) (congrArg dsl (by rfl)))<|by(iterate 18 refine wF ?_);exact wN)) ?_
  rintro k inv2
  replace inv2:k≤l.length:=inv2
  have inv:=inv2
  have hfl:([(⟨c.x,c.y,(decide ((bg l c.x c.y)=1))⟩:Dom),(⟨(if(decide ((bg l c.x c.y)=1))then c.x+1 else c.x),(if(decide ((bg l c.x c.y)=1))then c.y else c.y+1),(decide ((bg l c.x c.y)=1))⟩:Dom)]++(l.take k).filter (kp (⟨c.x,c.y,(decide ((bg l c.x c.y)=2))⟩:Dom) (⟨(if(decide ((bg l c.x c.y)=2))then c.x+1 else c.x),(if(decide ((bg l c.x c.y)=2))then c.y else c.y+1),(decide ((bg l c.x c.y)=2))⟩:Dom))).length≤k+2:=ER _ l k _
  refine sq (sq (rg (zm (zm ?_))))
  refine z ?_ (h:=fun Z=>lnV Z fM)
  refine z ?_ (h:=fun Z=>ab Z vt vt (bP rfl))
  refine nl ?_
  refine wi (fun c3=> ?_) (fun c3=> ?_)
  ·skip
   have c3P:=of_decide_eq_true c3
   refine sk (sq (bkk (sq ?_)))
   rcases Bool.eq_false_or_eq_true ((dEq ((gD l k).x) ((gD l k).y) ((gD l k).d) c.x c.y (decide ((bg l c.x c.y)=2))))with c4 |c4
   ·skip
    refine cg (zdm (zdm ?_))
    refine zd ?_ (h:=fun Z=>ixv Z fM pi vt)
    refine zd ?_ (h:=fun Z=>uD Z eE)
    refine zd ?_ (h:=fun Z=>aa (xs:=[vI c.x,vI c.y,.bool (decide ((bg l c.x c.y)=2))].map A.val) Z eE rfl (by decide) rfl)
    refine zd ?_ (h:=fun Z=>ab Z va va (uo sv (fun w=>(lG ((gD l k).x) ((gD l k).y) ((gD l k).d) c.x c.y (decide ((bg l c.x c.y)=2)) w).trans (congrArg (fun z=>Result.ok (Value.bool z) w) (by(rw[c4];done))))))
    refine zdm ?_
    refine zdg ?_ (h:=fun Z=>am rfl rfl (by decide) rfl Z)
    refine zdg ?_ (h:=fun Z=>am rfl rfl (by decide) rfl Z)
    refine zdg ?_ (h:=fun Z=>am rfl rfl (by decide) rfl Z)
    refine zdg ?_ (h:=fun Z=>am rfl rfl (by decide) rfl Z)
    refine zdg ?_ (h:=fun Z=>am rfl rfl (by decide) rfl Z)
    refine zdg ?_ (h:=fun Z=>am rfl rfl (by decide) rfl Z)
    refine zd ?_ (h:=fun Z=>ao Z vt xc)
    refine bJ (wf (sk (rg (zm ?_))))
    refine z ?_ (h:=fun Z=>ab Z vt vc rA)
    refine za (nl ?_)
    exact ar ((k+1)) (by show _≤_;omega) (by show l.length-(k+1)<l.length-k;omega) (wkf id (wS<|wS<|wS<|wE (e:=(vsl (by(exact congrArg List.length (by first |rfl |(simp;done) |exact qJ (by omega) (by simp_all [kp]) _ |exact qI (by omega) (by simp_all [kp]) _ |omega))) rfl))<|wE (e:=(aO (by rfl)))<|wX<|wX<|wO (e:=aG (fun h=>h) (congrArg dsl (by exact qI (by omega) (by simp_all [kp]) _)))<|by(iterate 18 refine wF ?_);exact wN))
   ·skip
    refine cg (zdm (zdm ?_))
    refine zd ?_ (h:=fun Z=>ixv Z fM pi vt)
    refine zd ?_ (h:=fun Z=>uD Z eE)
    refine zd ?_ (h:=fun Z=>aa (xs:=[vI c.x,vI c.y,.bool (decide ((bg l c.x c.y)=2))].map A.val) Z eE rfl (by decide) rfl)
    refine zd ?_ (h:=fun Z=>ab Z va va (uo sv (fun w=>(lG ((gD l k).x) ((gD l k).y) ((gD l k).d) c.x c.y (decide ((bg l c.x c.y)=2)) w).trans (congrArg (fun z=>Result.ok (Value.bool z) w) (by(rw[c4];done))))))
    refine zdm ?_
    refine zdg ?_ (h:=fun Z=>ae rfl rfl (mt Z))
    refine zdg ?_ (h:=fun Z=>ae rfl rfl (mt Z))
    refine zdg ?_ (h:=fun Z=>ae rfl rfl (ixv Z fM pi vt))
    refine zdg ?_ (h:=fun Z=>ae rfl rfl (uD Z eE))
    refine zdg ?_ (h:=fun Z=>ae rfl rfl (aa (xs:=[vI (if(decide ((bg l c.x c.y)=2))then c.x+1 else c.x),vI (if(decide ((bg l c.x c.y)=2))then c.y else c.y+1),.bool (decide ((bg l c.x c.y)=2))].map A.val) Z eE rfl (by decide) rfl))
    refine zdg ?_ (h:=fun Z=>ae rfl rfl (ab Z va va (uo sv (fun w=>(lG ((gD l k).x) ((gD l k).y) ((gD l k).d) (if(decide ((bg l c.x c.y)=2))then c.x+1 else c.x) (if(decide ((bg l c.x c.y)=2))then c.y else c.y+1) (decide ((bg l c.x c.y)=2)) w).trans (congrArg (fun z=>Result.ok (Value.bool z) w) (rfl:(!(dEq ((gD l k).x) ((gD l k).y) ((gD l k).d) (if(decide ((bg l c.x c.y)=2))then c.x+1 else c.x) (if(decide ((bg l c.x c.y)=2))then c.y else c.y+1) (decide ((bg l c.x c.y)=2))))=(!(dEq ((gD l k).x) ((gD l k).y) ((gD l k).d) (if(decide ((bg l c.x c.y)=2))then c.x+1 else c.x) (if(decide ((bg l c.x c.y)=2))then c.y else c.y+1) (decide ((bg l c.x c.y)=2))))))))))
    refine zd ?_ (h:=fun Z=>al Z vt xt)
    refine bJ ?_
    refine wi (b:=(!(dEq ((gD l k).x) ((gD l k).y) ((gD l k).d) (if(decide ((bg l c.x c.y)=2))then c.x+1 else c.x) (if(decide ((bg l c.x c.y)=2))then c.y else c.y+1) (decide ((bg l c.x c.y)=2))))) (fun c5=> ?_) (fun c5=> ?_)
    ·skip
     have c6:(dEq ((gD l k).x) ((gD l k).y) ((gD l k).d) (if(decide ((bg l c.x c.y)=2))then c.x+1 else c.x) (if(decide ((bg l c.x c.y)=2))then c.y else c.y+1) (decide ((bg l c.x c.y)=2)))=false:=by first |(rw[←Bool.not_eq_true'];exact c5) |simpa using c5
     refine rg (zm (zm (zm ?_)))
     refine z ?_ (h:=fun Z=>ixv Z fM pi vt)
     refine z ?_ (h:=fun Z=>uD Z eE)
     refine z ?_ (h:=fun Z=>aR (h:=63) (xs:=dsl ([(gD l k)]:List Dom)) Z fM gE (.cons va OpVs.nil) (by decide) (by decide) (by kernel_rfl) rfl)
     refine z ?_ (h:=fun Z=>aD_ (h2:=64) (L3:=(([(⟨c.x,c.y,(decide ((bg l c.x c.y)=1))⟩:Dom),(⟨(if(decide ((bg l c.x c.y)=1))then c.x+1 else c.x),(if(decide ((bg l c.x c.y)=1))then c.y else c.y+1),(decide ((bg l c.x c.y)=1))⟩:Dom)]++(l.take k).filter (kp (⟨c.x,c.y,(decide ((bg l c.x c.y)=2))⟩:Dom) (⟨(if(decide ((bg l c.x c.y)=2))then c.x+1 else c.x),(if(decide ((bg l c.x c.y)=2))then c.y else c.y+1),(decide ((bg l c.x c.y)=2))⟩:Dom)))++[(gD l k)])) Z fM gE (by exact rfl) rfl (by exact rfl) (by(simp at*;omega)))
     refine za (nl (rg (zm ?_)))
     refine z ?_ (h:=fun Z=>ab Z vt vc rA)
     refine za (nl ?_)
     exact ar ((k+1)) (by show _≤_;omega) (by show l.length-(k+1)<l.length-k;omega) (wkf (bn [(37,64)]) (wS<|wS<|wS<|wE (e:=(vsl (by(exact congrArg List.length (by first |rfl |(simp;done) |exact qJ (by omega) (by simp_all [kp]) _ |exact qI (by omega) (by simp_all [kp]) _ |omega))) rfl))<|wE (e:=(aO (by rfl)))<|wX<|wX<|wO (e:=aG (fun h=>h) (congrArg dsl (by exact qJ (by omega) (by simp_all [kp]) _)))<|by(iterate 18 refine wF ?_);exact wN))
    ·skip
     have c7:(dEq ((gD l k).x) ((gD l k).y) ((gD l k).d) (if(decide ((bg l c.x c.y)=2))then c.x+1 else c.x) (if(decide ((bg l c.x c.y)=2))then c.y else c.y+1) (decide ((bg l c.x c.y)=2)))=true:=by first |(rw[←Bool.not_eq_false'];exact c5) |simpa using c5
     refine sk (rg (zm ?_))
     refine z ?_ (h:=fun Z=>ab Z vt vc rA)
     refine za (nl ?_)
     exact ar ((k+1)) (by show _≤_;omega) (by show l.length-(k+1)<l.length-k;omega) (wkf id (wS<|wS<|wS<|wE (e:=(vsl (by(exact congrArg List.length (by first |rfl |(simp;done) |exact qJ (by omega) (by simp_all [kp]) _ |exact qI (by omega) (by simp_all [kp]) _ |omega))) rfl))<|wE (e:=(aO (by rfl)))<|wX<|wX<|wO (e:=aG (fun h=>h) (congrArg dsl (by exact qI (by omega) (by simp_all [kp]) _)))<|by(iterate 18 refine wF ?_);exact wN))
  ·skip
   have c3P:=of_decide_eq_false c3
   refine aJ (sq (rg (zm ?_)))
   refine z ?_ (h:=fun Z=>ah Z (oy ([(⟨c.x,c.y,(decide ((bg l c.x c.y)=1))⟩:Dom),(⟨(if(decide ((bg l c.x c.y)=1))then c.x+1 else c.x),(if(decide ((bg l c.x c.y)=1))then c.y else c.y+1),(decide ((bg l c.x c.y)=1))⟩:Dom)]++(l.take k).filter (kp (⟨c.x,c.y,(decide ((bg l c.x c.y)=2))⟩:Dom) (⟨(if(decide ((bg l c.x c.y)=2))then c.x+1 else c.x),(if(decide ((bg l c.x c.y)=2))then c.y else c.y+1),(decide ((bg l c.x c.y)=2))⟩:Dom))) (by omega)) (ac (bR (by exact bQ _)) an) (ResV.row _ _ _ _ 66))
   refine za (zk (nl (aq ?_)))
   exact⟨VRes.tmp _ _ _ (by exact rfl) (lQ (h:=66) (L:=(gr ([(⟨c.x,c.y,(decide ((bg l c.x c.y)=1))⟩:Dom),(⟨(if(decide ((bg l c.x c.y)=1))then c.x+1 else c.x),(if(decide ((bg l c.x c.y)=1))then c.y else c.y+1),(decide ((bg l c.x c.y)=1))⟩:Dom)]++(l.take k).filter (kp (⟨c.x,c.y,(decide ((bg l c.x c.y)=2))⟩:Dom) (⟨(if(decide ((bg l c.x c.y)=2))then c.x+1 else c.x),(if(decide ((bg l c.x c.y)=2))then c.y else c.y+1),(decide ((bg l c.x c.y)=2))⟩:Dom))))) (by kernel_rfl) (by obtain⟨q1,q2⟩:= ‹_∧decide (bg l c.x c.y=1)=_›;rw[q1,q2];exact ET (by omega) (by assumption) _ rfl rfl (HU _ _) rfl (HU _ _)) (by rfl)),VRes.tmp _ _ _ (by exact rfl) (cc (congrArg Value.bool (by simp_all)))⟩
theorem tU (l:List Dom) (hl:l.length≤4194304):Fn Tryz.prog 36 [.a (.slv l.length 3 (dsl l))] [.row 67 2 (ch l).length (csl (ch l))]:=by
  refine⟨⟨_,Tryz.func36,by kernel_rfl,by kernel_rfl⟩,fun w args h=> ?_⟩
  match args,eA.1 h with
  | [u0],⟨h0,_⟩=>
    obtain⟨A0,c0,rfl,hc0,hr0⟩:=nK h0
    refine Calls.mono (yp l A0 l.length c0 w hr0 hl) ?_
    rintro e w' ⟨v,rfl,ho,hb⟩
    exact⟨_,rfl,ho,hb⟩
theorem jG {d:Dom} (h:okD d=true):d.ord=((ord d:Nat):Int):=by rw[kr h];unfold Dom.ord;omega
theorem Fh {d:Dom} (h:okD d=true):d.valid:=by have:=eK h;unfold Dom.valid;omega
theorem Fb {out:List Dom} {d:Dom} (h:∀ e∈out,e.ord≠d.ord):(jZ out d).Perm (d::out):=by
  unfold jZ
  refine List.perm_middle.trans (List.Perm.cons _ ?_)
  induction out with
  | nil=>exact List.Perm.nil
  | cons e out ih=>
    have hi:=ih (fun x hx=>h x (by simp [hx]))
    have he:=h e (by simp)
    rw[List.filter_cons,List.filter_cons]
    rcases Int.lt_or_le e.ord d.ord with h1 |h1
    · rw[if_pos (decide_eq_true h1),if_neg (by simp;omega)]
      exact List.Perm.cons _ hi
    · rw[if_neg (by simp;omega),if_pos (decide_eq_true (by omega))]
      exact List.perm_middle.trans (List.Perm.cons _ hi)
theorem BL:∀ (l out:List Dom),(∀ e∈l,okD e=true)→(∀ e∈out,okD e=true)→(l++out).Nodup→(l.foldl jZ out).Perm (l++out):=by
  intro l
  induction l with
  | nil=>intro out _ _ _;exact List.Perm.refl _
  | cons d l ih=>
    intro out hl ho hn
    have hd:d∉l++out:=(List.nodup_cons.1 hn).1
    have hp:(jZ out d).Perm (d::out):=Fb (fun e he e'=>by
      have h1:=ho e he;have h2:=hl d (by simp)
      rw[jG h1,jG h2]at e'
      have:=yR h1 h2 (Int.ofNat.inj e')
      exact hd (by rw[←this];simp [he]))
    have hperm:(l++jZ out d).Perm (d::(l++out)):=(List.Perm.append_left l hp).trans List.perm_middle
    rw[List.foldl_cons]
    exact(ih (jZ out d) (fun e he=>hl e (by simp [he])) (fun e he=>by
      rcases List.mem_cons.1 (hp.mem_iff.1 he)with rfl |h
      · exact hl _ (by simp)
      · exact ho e h) (hperm.symm.nodup hn)).trans hperm
theorem CH {l:List Dom} (hl:∀ e∈l,okD e=true) (hn:l.Nodup):(gr l).Perm l:=by
 unfold gr iV
 rw[List.filter_eq_self.2 (show ∀ e∈l,Dom.ok e=true from fun e he=>hl e he)]
 have:=BL l [] hl (by simp) (by simpa using hn)
 simpa using this
theorem Bl (l:List Dom):SO (gr l):=by
 have h:=(xU (ok:=Dom.ok) (fun d hd=>Fh hd) l).1
 have ho:=xV (ok:=Dom.ok) l
 unfold SO
 refine List.Pairwise.imp_of_mem (fun {a b} ha hb hab=> ?_) h
 rw[jG (ho a ha),jG (ho b hb)]at hab
 omega
theorem fY {l:List Dom} {x y:Int} {d:Bool}:mH l x y d=true↔(⟨x,y,d⟩:Dom)∈l:=by unfold mH;exact decide_eq_true_iff
theorem zz {P:List Dom} {c:Cel} (h:gK P c.x c.y=true):pr0 c (!(acB P c.x c.y))∈P∧pr1 c (!(acB P c.x c.y))∈P:=by
 unfold gK at h
 simp only[Bool.and_eq_true,Bool.or_eq_true]at h
 cases e:acB P c.x c.y
 ·rw[e]at h
  have h2:Go.Proofs.YtonlghbbdcddoaaGreat.dnB P c.x c.y=true:=h.2.resolve_left (by simp)
  unfold Go.Proofs.YtonlghbbdcddoaaGreat.dnB at h2
  simp only[Bool.and_eq_true,fY]at h2
  exact h2
 ·have e2:=e
  unfold acB at e2
  simp only[Bool.and_eq_true,fY]at e2
  exact e2
theorem HV {c:Cel} (hb:0≤c.x∧c.x≤6∧0≤c.y∧c.y≤6) (b:Bool) (i:Nat):(if cin (pr0 c b) i=true then 1 else 0)+(if cin (pr1 c b) i=true then 1 else 0)=if i=idx c∨i=idx c+1∨i=idx c+8∨i=idx c+9 then 1 else 0:=by
 have e0:idx (ca (pr0 c b))=idx c:=by cases b<;>rfl
 have e1:idx (cb (pr0 c b))=if b then idx c+8 else idx c+1:=by unfold pr0 cb idx;cases b<;>simp<;>omega
 have e2:idx (ca (pr1 c b))=if b then idx c+1 else idx c+8:=by unfold pr1 ca idx;cases b<;>simp<;>omega
 have e3:idx (cb (pr1 c b))=idx c+9:=by unfold pr1 cb idx;cases b<;>simp<;>omega
 unfold cin
 rw[e0,e1,e2,e3]
 simp only[Bool.or_eq_true,decide_eq_true_eq]
 cases b<;>simp only[if_true,if_false,Bool.false_eq_true]<;>(repeat' split)<;>omega
theorem DF {c:Cel} (hb:0≤c.x∧c.x≤6∧0≤c.y∧c.y≤6) (b:Bool):okD (pr0 c b)=true∧okD (pr1 c b)=true:=by
 unfold okD pr0 pr1
 cases b<;>exact⟨jU.2 (by simp;omega),jU.2 (by simp;omega)⟩
theorem LO (c:Cel) (b b':Bool):pr0 c b≠pr1 c b':=by
 unfold pr0 pr1;cases b<;>cases b'<;>simp<;>omega
theorem HW (c:Cel) (b:Bool):pr0 c b≠pr0 c (!b)∧pr1 c b≠pr1 c (!b):=by
 unfold pr0 pr1;cases b<;>simp
theorem Ak (g0 g1 z:Dom):kp g0 g1 z=((z != g0)&&(z != g1)):=by
 unfold kp;rw[jE,jE,Bool.eq_iff_iff];simp
theorem xy {P:List Dom} (hn:P.Nodup) {a b:Dom} (ha:a∈P) (hb:b∈P) (hab:a≠b):P.Perm (a::b::P.filter (kp a b)):=by
 have h1:=List.perm_cons_erase ha
 have h2:b∈P.erase a:=(List.mem_erase_of_ne (fun e=>hab e.symm)).2 hb
 have h3:=List.perm_cons_erase h2
 have e:(P.erase a).erase b=P.filter (kp a b):=by
  rw[(hn.erase a).erase_eq_filter,hn.erase_eq_filter,List.filter_filter]
  apply List.filter_congr
  intro z _
  rw[Ak,Bool.and_comm]
 rw[e]at h3
 exact h1.trans (List.Perm.cons _ h3)
theorem uE {P Q:List Dom} (h:P.Perm Q) (i:Nat):cvN P i=cvN Q i:=h.countP_eq _
theorem Jy {P:List Dom} (hn:P.Nodup) {a b:Dom} (ha:a∈P) (hb:b∈P) (hab:a≠b) {i:Nat} (h1:cin a i=true) (h2:cin b i=true):2≤cvN P i:=by
 rw[uE (xy hn ha hb hab),lS,lS,if_pos h1,if_pos h2];omega
theorem cv_le {s:Nat} {P:List Dom} (h:TilS s P) (i:Nat):cvN P i≤1:=by rw[h.cv];split<;>omega
theorem oB {s:Nat} {P:List Dom} (h:TilS s P) {a b:Dom} (ha:a∈P) (hb:b∈P) {i:Nat} (h1:cin a i=true) (h2:cin b i=true):a=b:=by
 by_cases e:a=b
 ·exact e
 ·have:=Jy (qt h.so) ha hb e h1 h2
  have:=cv_le h i;omega
theorem kQ {s:Nat} {P:List Dom} {c:Cel} (h:TilS s P) (hc:gK P c.x c.y=true):
  P.Perm (pr0 c (!(acB P c.x c.y))::pr1 c (!(acB P c.x c.y))::P.filter (kp (pr0 c (!(acB P c.x c.y))) (pr1 c (!(acB P c.x c.y)))))∧
  (te P c).Perm (pr0 c (acB P c.x c.y)::pr1 c (acB P c.x c.y)::P.filter (kp (pr0 c (!(acB P c.x c.y))) (pr1 c (!(acB P c.x c.y)))))∧pr0 c (acB P c.x c.y)∉P∧pr1 c (acB P c.x c.y)∉P:=by
 have hb:=mA hc
 obtain⟨g0,g1⟩:=zz hc
 have hn:=qt h.so
 revert g0 g1
 unfold te
 generalize acB P c.x c.y=b
 intro g0 g1
 have hp:=xy hn g0 g1 (LO c _ _)
 have hk:cin (pr0 c b) (idx c)=true∧cin (pr0 c (!b)) (idx c)=true:=⟨pJ (pr0 c b),pJ (pr0 c !b)⟩
 have e3:∀ b,idx (cb (pr1 c b))=idx c+9:=fun b=>by unfold pr1 cb idx;cases b<;>simp<;>omega
 have hk9:cin (pr1 c b) (idx c+9)=true∧cin (pr1 c (!b)) (idx c+9)=true:=⟨by rw[←e3 b];exact zA _,by rw[←e3 (!b)];exact zA _⟩
 have n0:pr0 c b∉P:=fun hm=>(HW c b).1 (oB h hm g0 hk.1 hk.2)
 have n1:pr1 c b∉P:=fun hm=>(HW c b).2 (oB h hm g1 hk9.1 hk9.2)
 refine⟨hp,?_,n0,n1⟩
 refine CH (fun e he=> ?_) ?_
 ·simp only[List.cons_append,List.nil_append,List.mem_cons]at he
  rcases he with rfl |rfl |he
  ·exact(DF hb b).1
  ·exact(DF hb b).2
  ·exact h.ok e (List.mem_filter.1 he).1
 ·simp only[List.cons_append,List.nil_append]
  refine List.nodup_cons.2 ⟨fun hm=> ?_,List.nodup_cons.2 ⟨fun hm=>n1 (List.mem_filter.1 hm).1,hn.filter _⟩⟩
  rcases List.mem_cons.1 hm with e |hm
  ·exact LO c _ _ e
  ·exact n0 (List.mem_filter.1 hm).1
theorem GQ {s:Nat} {P:List Dom} {c:Cel} (h:TilS s P) (hc:gK P c.x c.y=true):TilS s (te P c):=by
 obtain⟨h1,h2,_,_⟩:=kQ h hc
 have hb:=mA hc
 refine⟨fun d hd=> ?_,fun i=> ?_,Bl _⟩
 ·rcases List.mem_cons.1 (h2.mem_iff.1 hd)with rfl |hd
  ·exact(DF hb _).1
  ·rcases List.mem_cons.1 hd with rfl |hd
   ·exact(DF hb _).2
   ·exact h.ok d (List.mem_filter.1 hd).1
 ·have e1:=uE h1 i
  have e2:=uE h2 i
  rw[lS,lS]at e1 e2
  have q1:=HV hb (acB P c.x c.y) i
  have q2:=HV hb (!(acB P c.x c.y)) i
  have:=h.cv i
  omega
theorem jf {s:Nat} {P:List Dom} {c:Cel} (h:TilS s P) (hc:gK P c.x c.y=true):TilS s (bA P c):=by
 unfold bA;rw[if_pos hc];exact GQ h hc
def LexN (P Q:List Dom):Prop:=∃ (C:List Dom) (f:Nat) (P' Q':List Dom),P=C++dmn f false::P'∧Q=C++dmn f true::Q'
theorem Lq:∀ n s,(tls n s).Pairwise LexN:=by
  intro n
  induction n with
  | zero=>intro s;simp [tls]
  | succ n ih=>
    intro s
    by_cases h0:s=0
    · rw[mv h0];simp
    · rw[uu h0]
      have hb:∀ b,(tlb n s b).Pairwise LexN:=by
        intro b;unfold tlb;split
        · refine List.Pairwise.map _ (fun P Q h=> ?_) (ih _)
          obtain⟨C,f,P',Q',rfl,rfl⟩:=h
          exact⟨dmn (au s) b::C,f,P',Q',rfl,rfl⟩
        · exact List.Pairwise.nil
      refine List.pairwise_append.2 ⟨hb _,hb _,fun P hP Q hQ=> ?_⟩
      cases P with
      | nil=>exact absurd hP ut
      | cons d P=>
        cases Q with
        | nil=>exact absurd hQ ut
        | cons e Q=>
          have h1:=(pq.1 hP).2.1
          have h2:=(pq.1 hQ).2.1
          exact⟨[],au s,P,Q,by rw[h1];rfl,by rw[h2];rfl⟩
theorem IV:∀ (P:List Dom) (s:Nat),ya s P→2*P.length=jj s:=by
  intro P
  induction P with
  | nil=>intro s h;have h:s=0:=h;subst h;show 2*0=jj 0;decide
  | cons d P ih=>
    intro s ⟨_,h1,_,h3⟩
    have:=ih _ h3
    have:=iT h1
    simp only[List.length_cons];omega
theorem Eh {s:Nat} {P:List Dom} (hs:s<18446744073709551616) (h:TilS s P):2*P.length=jj s:=IV P s ((zr hs).2 h)
theorem Ko {l:List Int} {i j:Nat} (hij:i<j) (hj:j<(ltR l).length):LexN (gLd (ltR l) i) (gLd (ltR l) j):=by
  rw[ee (by omega),ee hj]
  have : (ltR l).Pairwise LexN := by unfold ltR;split
                                     · exact Lq _ _
                                     · exact List.Pairwise.nil
  exact List.pairwise_iff_getElem.1 this i j (by omega) hj hij
theorem Jb {n s:Nat} (hs:s<18446744073709551616) (hp:jj s<2*n):tls n s=[]↔cnt s=0:=by
 rw[←zt n s hs hp]
 exact List.length_eq_zero_iff.symm
theorem FV:∀ (n s:Nat),s<18446744073709551616→jj s<2*n→0<cnt s→gLd (tls n s) 0=ftl n s:=by
  intro n
  induction n with
  | zero=>intro s _ h;omega
  | succ n ih=>
    intro s hs hp hc
    by_cases h0:s=0
    · rw[mv h0,ftl,if_pos h0];rfl
    · obtain⟨h1,h2⟩:=KD hs h0 hc
      have hq:=iT h1
      have hi:=ih _ (dQ hs) (by omega) h2
      have hne:tls n (andn s (domS (pick s)))≠[]:=fun e=>by rw[Jb (dQ hs) (by omega)]at e;omega
      rw[uu h0,ftl,if_neg h0]
      obtain⟨P,L,hL⟩:=List.exists_cons_of_ne_nil hne
      rw[hL]at hi
      have hi:P=ftl n (andn s (domS (pick s))):=hi
      have hb:∀ b,pick s=dmn (au s) b→tlb n s b=(pick s::P)::L.map (pick s:: ·):=fun b e=>by
        unfold tlb;rw[←e,if_pos h1,hL];rfl
      by_cases hk:(fc s (dmn (au s) false)&& !decide (cnt (andn s (domS (dmn (au s) false)))=0))=true
      · have e:pick s=dmn (au s) false:=by unfold pick;rw[if_pos hk]
        rw[hb _ e,←hi];rfl
      · have e:pick s=dmn (au s) true:=by unfold pick;rw[if_neg hk]
        have hz:tlb n s false=[]:=by
          unfold tlb;split
          · rename_i hf
            have hq2:=iT hf
            rw[hf,Bool.true_and,Bool.not_eq_true',decide_eq_false_iff_not,Classical.not_not]at hk
            rw[(Jb (dQ hs) (by omega)).2 hk];rfl
          · rfl
        rw[hz,hb _ e,←hi];rfl
theorem EM (i:Nat):∀ (P:List Dom) (s:Nat),(∀ d∈P,okD d=true)→(P.foldl rP s).testBit i=(s.testBit i||P.any (fun d=>cin d i)):=by
  intro P
  induction P with
  | nil=>intro s _;simp
  | cons d P ih=>
    intro s h
    rw[List.foldl_cons,ih _ (fun e he=>h e (by simp [he])),List.any_cons]
    unfold rP;rw[if_pos (h d (by simp)),Nat.testBit_or,ud,Bool.or_assoc]
theorem zB {P:List Dom} (h:∀ d∈P,okD d=true) (i:Nat):(dl P).testBit i=P.any (fun d=>cin d i):=by
 unfold dl;rw[EM i P 0 h];simp
theorem Lp {s:Nat} {P:List Dom} (h:TilS s P):dl P=s:=by
 apply Nat.eq_of_testBit_eq;intro i
 rw[zB h.ok]
 have:=h.cv i
 cases e:s.testBit i
 ·rw[e]at this
  rw[List.any_eq_false]
  intro d hd hc
  have:=qF hd hc
  simp at*;omega
 ·rw[e]at this
  obtain⟨d,hd,hc⟩:=Gz (P:=P) (i:=i) (by rw[this];decide)
  exact List.any_eq_true.2 ⟨d,hd,hc⟩
theorem Ef {s:Nat} {P:List Dom} (h:TilS s P) {d:Dom} (hd:d∈P) {i:Nat} (hc:cin d i=true):s.testBit i=true:=by
 have hp:=qF hd hc
 rw[h.cv]at hp
 cases hz:s.testBit i
 ·rw[hz]at hp;simp at hp
 ·rfl
theorem bO {l:List Int} {P:List Dom} (ho:aU l=true) (h:TilS (ag l) P):ct l P=true:=by
 have hn:=qt h.so
 have hcov:∀ k,k<P.length→∀ i,cin (gD P k) i=true→(dl (P.take k)).testBit i=false:=fun k hk i hc=>by
  rw[zB (fun d hd=>h.ok d (List.mem_of_mem_take hd)),List.any_eq_false]
  intro d hd hcd
  have e:=oB h (List.mem_of_mem_take hd) (pS hk) hcd hc
  obtain⟨j,hj,rfl⟩:=List.getElem_of_mem hd
  rw[List.length_take]at hj
  rw[List.getElem_take,jP hk]at e
  have:=(List.getElem_inj hn).1 e
  omega
 unfold ct
 rw[Lp h,decide_eq_true rfl,Bool.and_true]
 unfold fg pC
 rw[ho,Bool.true_and,List.all_eq_true]
 intro k hk
 have hk:k<P.length:=by simpa using hk
 have hok:=h.ok _ (pS hk)
 unfold stepOk
 rw[hok,Bool.true_and,nP,Ef h (pS hk) (pJ _),Ef h (pS hk) (zA _),hcov k hk _ (pJ _),hcov k hk _ (zA _)]
 rcases Nat.eq_zero_or_pos k with rfl |hp
 ·rfl
 ·have hso:=List.pairwise_iff_getElem.1 h.so (k-1) k (by omega) hk (by omega)
  rw[←jP (by omega),←jP hk]at hso
  unfold bef
  rw[h.ok _ (pS (by omega)),hok,decide_eq_true hso];simp
theorem Ho {a:List (List Dom)} (hn:a.Nodup) {k:Nat} (hk:k<a.length):ixT a (gLd a k)=(k:Int):=by
 refine(Ds hk (fun i hi e=> ?_) rfl).symm
 have:i=k:=by
  rw[ee (by omega),ee hk]at e
  exact(List.getElem_inj hn).1 e
 omega
theorem Jn {P Q:List Dom} (h1:SO P) (h2:SO Q) (hp:P.Perm Q):P=Q:=hp.eq_of_pairwise (fun a b _ _ h h'=>absurd h (by omega)) h1 h2
theorem mU {c:Cel} (b:Bool):cin (pr0 c b) (idx c)=true:=pJ (pr0 c b)
theorem xi {s:Nat} {P:List Dom} {c:Cel} (h:TilS s P) (hc:gK P c.x c.y=true):gK (bA P c) c.x c.y=true∧bA (bA P c) c=P:=by
 have hQ:=jf h hc
 have e0:bA P c=te P c:=by unfold bA;rw[if_pos hc]
 obtain⟨p1,p2,m0,m1⟩:=kQ h hc
 rw[←e0]at p2
 have hb:=mA hc
 have q0:pr0 c (acB P c.x c.y)∈bA P c:=p2.mem_iff.2 (by simp)
 have q1:pr1 c (acB P c.x c.y)∈bA P c:=p2.mem_iff.2 (by simp)
 have hac:acB (bA P c) c.x c.y= !(acB P c.x c.y):=by
  revert q0 q1
  cases e:acB P c.x c.y
  ·intro q0 q1
   show(mH _ _ _ _&&mH _ _ _ _)=true
   rw[Bool.and_eq_true,fY,fY];exact⟨q0,q1⟩
  ·intro q0 _
   show(mH _ _ _ _&&mH _ _ _ _)=false
   rw[Bool.and_eq_false_iff]
   left
   rw[Bool.eq_false_iff]
   intro hh
   have:=oB hQ q0 (fY.1 hh) (mU true) (mU false)
   unfold pr0 at this;simp at this
 have hcan:gK (bA P c) c.x c.y=true:=by
  unfold gK at hc⊢
  simp only[Bool.and_eq_true,Bool.or_eq_true]at hc⊢
  refine⟨hc.1,?_⟩
  cases e:acB P c.x c.y
  ·left;rw[hac,e];rfl
  ·right;rw[e]at q0 q1
   show(mH _ _ _ _&&mH _ _ _ _)=true
   rw[Bool.and_eq_true,fY,fY];exact⟨q0,q1⟩
 refine⟨hcan,?_⟩
 obtain⟨r1,r2,_,_⟩:=kQ hQ hcan
 have e1:bA (bA P c) c=te (bA P c) c:=by rw[show bA (bA P c) c=if gK (bA P c) c.x c.y then te (bA P c) c else bA P c from rfl,if_pos hcan]
 rw[e1]
 have hf:((bA P c).filter (kp (pr0 c (!(acB (bA P c) c.x c.y))) (pr1 c (!(acB (bA P c) c.x c.y))))).Perm (P.filter (kp (pr0 c (!(acB P c.x c.y))) (pr1 c (!(acB P c.x c.y))))):=by
  rw[hac,Bool.not_not]
  refine(p2.filter _).trans (List.Perm.of_eq ?_)
  rw[List.filter_cons,if_neg (by rw[Ak];simp),List.filter_cons,if_neg (by rw[Ak];simp),List.filter_eq_self]
  intro z hz
  rw[Ak]
  simp only[Bool.and_eq_true,bne_iff_ne]
  have hzP:=(List.mem_filter.1 hz).1
  exact⟨fun e=>m0 (e▸hzP),fun e=>m1 (e▸hzP)⟩
 have hr:=r2.trans (List.Perm.cons _ (List.Perm.cons _ hf))
 rw[hac]at hr
 exact Jn (Bl _) h.so (hr.trans p1.symm)
def mtK (a:List (List Dom)) (q:List Dom) (j:Nat):List Int:=((List.range j).filter (fun i=>decide (gLd a i=q))).map (fun i:Nat=>(i:Int))
def mtc (a:List (List Dom)) (q:List Dom):List Int:=mtK a q a.length
theorem Dy {a:List (List Dom)} {q:List Dom} {j:Nat} (h:gLd a j=q):mtK a q (j+1)=mtK a q j++[(j:Int)]:=by
 unfold mtK;rw[List.range_succ,List.filter_append,List.map_append,List.filter_cons,if_pos (decide_eq_true h)];rfl
theorem HD {a:List (List Dom)} {q:List Dom} {j:Nat} (h:gLd a j≠q):mtK a q (j+1)=mtK a q j:=by
 unfold mtK;rw[List.range_succ,List.filter_append,List.map_append,List.filter_cons,if_neg (by rw[decide_eq_true_eq];exact h)];simp
theorem Dx (a:List (List Dom)) (q:List Dom) (j:Nat):(mtK a q j).length≤j:=by
 unfold mtK;rw[List.length_map];have:=List.length_filter_le (fun i=>decide (gLd a i=q)) (List.range j);rwa [List.length_range]at this
def lkK (a:List (List Dom)) (P:List Dom) (i:Nat):List Int:=((ch P).take i).flatMap (fun c=>mtc a (bA P c))
def lkR (a:List (List Dom)) (P:List Dom):List Int:=(ch P).flatMap (fun c=>mtc a (bA P c))
theorem Ar {a:List (List Dom)} {P:List Dom} {i:Nat} (h:i<(ch P).length):lkK a P (i+1)=lkK a P i++mtc a (bA P (gC (ch P) i)):=by
 unfold lkK;rw[List.take_succ_eq_append_getElem h,List.flatMap_append,jO h];simp
theorem Kk {a:List (List Dom)} {P:List Dom} {i:Nat} (h:¬i<(ch P).length):lkK a P i=lkR a P:=by unfold lkK lkR;rw[List.take_of_length_le (by omega)]
theorem Kl {a:List (List Dom)} {P:List Dom} (ha:a.length≤300):∀ i,i≤(ch P).length→(lkK a P i).length≤300*i:=by
  intro i
  induction i with
  | zero=>intro _;simp [lkK]
  | succ i ih=>
    intro h
    rw[Ar (by omega),List.length_append]
    have:=ih (by omega)
    have:=Dx a (bA P (gC (ch P) i)) a.length
    unfold mtc;omega
theorem xk (P:List Dom):(ch P).length≤64:=Dh P 64
def lkM (a:List (List Dom)):List (List Int):=a.map (lkR a)
theorem yA (a:List (List Dom)):(lkM a).length=a.length:=by simp [lkM]
theorem yB {a:List (List Dom)} {k:Nat} (h:k<a.length):gLs (lkM a) k=lkR a (gLd a k):=by
 rw[GV (by rw[yA];exact h),ee h];simp [lkM]
def lkT (a:List (List Dom)) (k:Nat):List (List Int):=(a.take k).map (lkR a)
theorem uX {a:List (List Dom)} {k:Nat} (h:k<a.length):lkT a k++[lkR a (gLd a k)]=lkT a (k+1):=by
 unfold lkT;rw[List.take_succ_eq_append_getElem h,List.map_append,ee h];rfl
theorem Km {a:List (List Dom)} {k:Nat} (h:¬k<a.length):lkT a k=lkM a:=by unfold lkT lkM;rw[List.take_of_length_le (by omega)]
theorem Kn {a:List (List Dom)} {k:Nat} (h:k≤a.length):(lkT a k).length=k:=by unfold lkT;rw[List.length_map,List.length_take];omega
theorem JN {a:List (List Dom)} (hn:a.Nodup) {i j:Nat} (hi:i<a.length) (hj:j<a.length) (h:gLd a i=gLd a j):i=j:=by
 rw[ee hi,ee hj]at h
 exact(List.getElem_inj hn).1 h
theorem Ku {a:List (List Dom)} (hn:a.Nodup) {k:Nat} (hk:k<a.length):∀ j,j≤a.length→mtK a (gLd a k) j=if k<j then [(k:Int)]else []:=by
  intro j
  induction j with
  | zero=>intro _;rfl
  | succ j ih=>
    intro hj
    by_cases e:k=j
    · subst e
      rw[Dy rfl,ih (by omega),if_neg (by omega),if_pos (by omega)];rfl
    · rw[HD (fun h=>e (JN hn hk (by omega) h.symm)),ih (by omega)]
      split<;>split<;>first |rfl |(exfalso;omega)
theorem mM {a:List (List Dom)} {q:List Dom} (h:q∈a):0≤ixT a q:=by
 unfold ixT;rw[if_pos (List.any_eq_true.2 ⟨q,h,decide_eq_true rfl⟩)];omega
theorem Kv {a:List (List Dom)} (hn:a.Nodup) {q:List Dom} (h:q∈a):mtc a q=[ixT a q]:=by
 have h0:=mM h
 obtain⟨h1,h2⟩:=uV h0
 have:=Ku hn h1 a.length (Nat.le_refl _)
 rw[h2,if_pos h1]at this
 unfold mtc;rw[this];congr 1;omega
def nbI (a:List (List Dom)) (P:List Dom):List Int:=(ch P).map (fun c=>ixT a (bA P c))
theorem Kw (a:List (List Dom)) (P:List Dom):(nbI a P).length=(ch P).length:=by simp [nbI]
theorem xj {P:List Dom} {c:Cel} (h:c∈ch P):gK P c.x c.y=true:=by
 unfold ch flN at h
 obtain⟨i,hi,rfl⟩:=List.mem_map.1 h
 exact(List.mem_filter.1 hi).2
structure FlipA (s:Nat) (a:List (List Dom)):Prop where
 nd:a.Nodup
 ti:∀ P∈a,TilS s P
 cl:∀ Q,(∃ P,P∈a)→TilS s Q→Q∈a
theorem FlipA.of (l:List Int):FlipA (ag l) (ltR l):=⟨xr l,fun _ h=>(mQ h).2,fun _ ⟨_,h⟩ hQ=>Hx h hQ⟩
theorem FlipA.flip {s:Nat} {a:List (List Dom)} (h:FlipA s a) {P:List Dom} (hP:P∈a) {c:Cel} (hc:c∈ch P):bA P c∈a:=h.cl _ ⟨P,hP⟩ (jf (h.ti P hP) (xj hc))
theorem BS {s:Nat} {a:List (List Dom)} (h:FlipA s a) {P:List Dom} (hP:P∈a):lkR a P=nbI a P:=by
  unfold lkR nbI
  have:∀ L:List Cel,(∀ c∈L,c∈ch P)→L.flatMap (fun c=>mtc a (bA P c))=L.map (fun c=>ixT a (bA P c)):=by
    intro L
    induction L with
    | nil=>intro _;rfl
    | cons c L ih=>
      intro hL
      rw[List.flatMap_cons,List.map_cons,ih (fun x hx=>hL x (by simp [hx])),Kv h.nd (h.flip hP (hL c (by simp)))];rfl
  exact this _ fun c hc=>hc
theorem sz:(Tryz.prog.info? 27).map (·.size)=some 1:=by kernel_rfl
theorem Fz:(Tryz.prog.info? 67).map (·.size)=some 2:=by kernel_rfl
theorem sA:TI Tryz.prog 27 false 1:=⟨⟨_,Tryz.underlying27,rfl⟩,by kernel_rfl⟩
theorem FA:TI Tryz.prog 67 true 2:=⟨⟨_,Tryz.underlying67,rfl⟩,by kernel_rfl⟩
theorem sC:Tryz.prog.underlying 24=some (.slice 3):=Tryz.underlying24
theorem sD:Tryz.prog.underlying 48=some (.slice 24):=Tryz.underlying48
theorem mi:Tryz.prog.underlying 50=some (.slice 27):=Tryz.underlying50
theorem xJ:Tryz.prog.underlying 63=some (.slice 67):=Tryz.underlying63
theorem sE:ZI Tryz.prog 24 (.slice none 0 0) 1 24:=by unfold ZI;kernel_rfl
theorem vG:ZI Tryz.prog 3 (.int .i64 0) 1 8:=by unfold ZI;kernel_rfl
theorem sK (a:List (List Dom)) (ha:a.length≤300) (hr:∀ k,k<a.length→(gLd a k).length≤64):FnO Tryz.prog 25 [.a (.slvv 3 (vwD a))] [] (V.b (.a (.slvv 1 (vwI (lkM a))))) [] []:=by
 refine co (N:=63) Tryz.func25 rfl (by kernel_rfl) rfl (Nat.le_of_ble_eq_true rfl) rfl rfl (by kernel_rfl) (by kernel_rfl) trivial [11,14,22,23,26,39,44,53,56,57,60,61,63,64,65,66] (mn rfl) (fun W own kp im0=> ?_)
 show Wp _ _ _ [kV 0 (V.b (.a (.slvv 3 (vwD a)))),kF 11,kF 14,kF 22,kF 23,kF 26,kF 39,kF 44,kF 53,kF 56,kF 57,kF 60,kF 61,kF 63,kF 64,kF 65,kF 66]
 refine sq (rg (zk (nl (sq (rg ?_)))))
 refine z ?_ (h:=fun Z=>b0Q (h:=11) (T:=3) Z sD sE)
 refine za (nl (sq (sq (rg (zk (nl (bkk ?_)))))))
 refine bf (fun(k:Nat)=>k≤a.length) (fun(k:Nat)=>[kV 0 (V.b (.a (.slvv 3 (vwD a)))),kS 3 11 0 ((lkT a k).length),kI 4 ((k:Nat):Int),kO 11 24 1 true (rwI 3 (lkT a k)),kF 14,kF 22,kF 23,kF 26,kF 39,kF 44,kF 53,kF 56,kF 57,kF 60,kF 61,kF 63,kF 64,kF 65,kF 66]) (fun(k:Nat)=>a.length-k) ((0:Nat)) (by exact(Nat.zero_le _:0≤_)) (wkf id (wS<|wE (e:=(vsl (by rfl) rfl))<|wE (e:=(aO (by rfl)))<|wQI (e:=(by rfl))<|by(iterate 15 refine wF ?_);exact wN)) ?_
 rintro k inv1
 replace inv1:k≤a.length:=inv1
 have invk:=inv1
 have htl:=Kn invk
 refine sq (sq (rg (zm (zm ?_))))
 refine z ?_ (h:=fun Z=>lnD Z mi)
 refine z ?_ (h:=fun Z=>ab Z vt vt (bP rfl))
 refine nl ?_
 refine wi (fun c2=> ?_) (fun c2=> ?_)
 ·skip
  have c2P:=of_decide_eq_true c2
  have hrk:=hr k (by omega)
  have hfl:=xk (gLd a k)
  refine sk (sq (bkk (sq (rg (zm (zm ?_))))))
  refine z ?_ (h:=fun Z=>xvv Z mi sz vt (hlt:=(by simp only[jL,ib];first |omega |assumption |exact hr _ (by omega) |exact Nat.le_trans (hr _ (by omega)) (by decide))))
  refine z ?_ (h:=fun Z=>lvD Z sA (by omega))
  refine z ?_ (h:=fun Z=>ah Z (tU (gLd a k) (by omega)) (ac (ArgV.slv _ _ _ _) an) (ResV.row _ _ _ _ 22))
  refine za (nl (sq (rg ?_)))
  refine z ?_ (h:=fun Z=>b0I (h:=23) Z sC vG)
  refine za (nl (sq (sq (rg (zk (nl (bkk ?_)))))))
  refine bf (fun(i:Nat)=>i≤(ch (gLd a k)).length) (fun(i:Nat)=>[kV 0 (V.b (.a (.slvv 3 (vwD a)))),kS 3 11 0 ((lkT a k).length),kI 4 ((k:Nat):Int),kS 5 22 0 ((ch (gLd a k)).length),kS 6 23 0 ((lkK a (gLd a k) i).length),kI 7 ((i:Nat):Int),kO 11 24 1 true (rwI 3 (lkT a k)),kO 22 67 2 true (pl (csl (ch (gLd a k)))),kO 23 3 1 true (pl (isl (lkK a (gLd a k) i))),kF 14,kF 26,kF 39,kF 44,kF 53,kF 56,kF 57,kF 60,kF 61,kF 63,kF 64,kF 65,kF 66]) (fun(i:Nat)=>(ch (gLd a k)).length-i) ((0:Nat)) (by exact(Nat.zero_le _:0≤_)) (wkf id (wS<|wS<|wS<|wS<|wE (e:=(vsl (by rfl) rfl))<|wE (e:=(aO (by rfl)))<|wQI<|wP<|wO (e:=aG (fun h=>h) (congrArg isl (by rfl)))<|by(iterate 13 refine wF ?_);exact wN)) ?_
  rintro i inv3
  replace inv3:i≤(ch (gLd a k)).length:=inv3
  have invi:=inv3
  have hkl:=Kl (a:=a) (P:=(gLd a k)) ha i invi
  refine sq (sq (rg (zm (zm ?_))))
  refine z ?_ (h:=fun Z=>lnS Z xJ)
  refine z ?_ (h:=fun Z=>ab Z vt vt (bP rfl))
  refine nl ?_
  refine wi (fun c4=> ?_) (fun c4=> ?_)
  ·skip
   have c4P:=of_decide_eq_true c4
   have hfa:=BK (gLd a k) (gC (ch (gLd a k)) i)
   have hsn:=Ar (a:=a) (P:=(gLd a k)) (i:=i) (by omega)
   refine sk (sq (bkk (sq (cg (zdm (zdm ?_))))))
   refine zd ?_ (h:=fun Z=>xvv Z mi sz vt (hlt:=(by simp only[jL,ib];first |omega |assumption |exact hr _ (by omega) |exact Nat.le_trans (hr _ (by omega)) (by decide))))
   refine zd ?_ (h:=fun Z=>lvD Z sA (by omega))
   refine zdm (zdm ?_)
   refine zd ?_ (h:=fun Z=>ix0 Z xJ Fz vt (hlt:=(by omega)))
   refine zd ?_ (h:=fun Z=>lC Z FA (by omega))
   refine zd ?_ (h:=fun Z=>cS Z (wa (gLd a k) (gC (ch (gLd a k)) i) (by omega)) (ac (ArgV.slv _ _ _ _) (ac (ArgV.va va) an)) (ResV.row _ _ _ _ 39) rv)
   refine zdm ?_
   refine zd ?_ (h:=fun Z=>az Z (by exact rfl))
   refine zd ?_ (h:=fun Z=>az Z (by exact rfl))
   refine zd ?_ (h:=fun Z=>gt Z)
   refine zd ?_ (h:=fun Z=>gt Z)
   refine bJ (sq (rg (zk (nl (bkk ?_)))))
   refine bf (fun(j:Nat)=>j≤a.length) (fun(j:Nat)=>[kV 0 (V.b (.a (.slvv 3 (vwD a)))),kS 3 11 0 ((lkT a k).length),kI 4 ((k:Nat):Int),kS 5 22 0 ((ch (gLd a k)).length),kS 6 23 0 ((lkK a (gLd a k) i++mtK a (bA (gLd a k) (gC (ch (gLd a k)) i)) j).length),kI 7 ((i:Nat):Int),kS 8 39 0 ((bA (gLd a k) (gC (ch (gLd a k)) i)).length),kI 10 ((j:Nat):Int),kO 11 24 1 true (rwI 3 (lkT a k)),kO 22 67 2 true (pl (csl (ch (gLd a k)))),kO 23 3 1 true (pl (isl (lkK a (gLd a k) i++mtK a (bA (gLd a k) (gC (ch (gLd a k)) i)) j))),kO 39 54 3 true (pl (dsl (bA (gLd a k) (gC (ch (gLd a k)) i)))),kF 14,kF 26,kF 44,kF 53,kF 56,kF 57,kF 60,kF 61,kF 63,kF 64,kF 65,kF 66]) (fun(j:Nat)=>a.length-j) ((0:Nat)) (by exact(Nat.zero_le _:0≤_)) (wkf id (wS<|wS<|wS<|wS<|wE (e:=(vsl (by(exact congrArg List.length (by first |rfl |omega |(rw[hmt,List.append_assoc];done) |(rw[hmt];done) |(simp [mtK];done)))) rfl))<|wS<|wS<|wE (e:=(aO (by rfl)))<|wQI<|wP<|wO (e:=aG (fun h=>h) (congrArg isl (by(simp [mtK];done))))<|wP<|by(iterate 12 refine wF ?_);exact wN)) ?_
   rintro j inv5
   replace inv5:j≤a.length:=inv5
   have invj:=inv5
   have hml:=Dx a (bA (gLd a k) (gC (ch (gLd a k)) i)) j
   refine sq (sq (rg (zm (zm ?_))))
   refine z ?_ (h:=fun Z=>lnD Z mi)
   refine z ?_ (h:=fun Z=>ab Z vt vt (bP rfl))
   refine nl ?_
   refine wi (fun c6=> ?_) (fun c6=> ?_)
   ·skip
    have c6P:=of_decide_eq_true c6
    refine sk (sq (bkk (sq (rg (zm (zm ?_))))))
    refine z ?_ (h:=fun Z=>xvv Z mi sz vt (hlt:=(by simp only[jL,ib];first |omega |assumption |exact hr _ (by omega) |exact Nat.le_trans (hr _ (by omega)) (by decide))))
    refine z ?_ (h:=fun Z=>lvD Z sA (by omega))
    refine zm ?_
    refine z ?_ (h:=fun Z=>ah Z (eZ (gLd a j) (bA (gLd a k) (gC (ch (gLd a k)) i)) (by exact Nat.le_trans (hr _ (by omega)) (by decide)) (by omega)) (ac (ArgV.slv _ _ _ _) (ac (bR (by exact bQ _)) an)) rv)
    refine nl ?_
    refine wi (b:=(decide ((gLd a j)=(bA (gLd a k) (gC (ch (gLd a k)) i))))) (fun c7=> ?_) (fun c7=> ?_)
    ·skip
     have hmt:=Dy (a:=a) (of_decide_eq_true c7)
     refine rg (zm (zm ?_))
     refine z ?_ (h:=fun Z=>aR (h:=56) (xs:=isl ([((j:Nat):Int)]:List Int)) Z sC vG (.cons vt OpVs.nil) (by decide) (by decide) (by kernel_rfl) rfl)
     refine z ?_ (h:=fun Z=>aI_ (h2:=57) (L3:=((lkK a (gLd a k) i++mtK a (bA (gLd a k) (gC (ch (gLd a k)) i)) j)++[((j:Nat):Int)])) Z sC vG (by exact rfl) rfl (by exact rfl) (by(simp;omega)))
     refine za (nl (rg (zm ?_)))
     refine z ?_ (h:=fun Z=>ab Z vt vc (rA (by omega) (by omega)))
     refine za (nl ?_)
     exact ar ((j+1)) (by show _≤_;omega) (by show a.length-(j+1)<a.length-j;omega) (wkf (bn [(23,57)]) (wS<|wS<|wS<|wS<|wE (e:=(vsl (by(exact congrArg List.length (by first |rfl |omega |(rw[hmt,List.append_assoc];done) |(rw[hmt];done) |(simp [mtK];done)))) rfl))<|wS<|wS<|wE (e:=(aO (by rfl)))<|wQI<|wP<|wO (e:=aG (fun h=>h) (congrArg isl (by(rw[hmt,List.append_assoc];done))))<|wP<|by(iterate 12 refine wF ?_);exact wN))
    ·skip
     have hmt:=HD (a:=a) (of_decide_eq_false c7)
     refine sk (rg (zm ?_))
     refine z ?_ (h:=fun Z=>ab Z vt vc (rA (by omega) (by omega)))
     refine za (nl ?_)
     exact ar ((j+1)) (by show _≤_;omega) (by show a.length-(j+1)<a.length-j;omega) (wkf id (wS<|wS<|wS<|wS<|wE (e:=(vsl (by(exact congrArg List.length (by first |rfl |omega |(rw[hmt,List.append_assoc];done) |(rw[hmt];done) |(simp [mtK];done)))) rfl))<|wS<|wS<|wE (e:=(aO (by rfl)))<|wQI<|wP<|wO (e:=aG (fun h=>h) (congrArg isl (by(rw[hmt];done))))<|wP<|by(iterate 12 refine wF ?_);exact wN))
   ·skip
    have c6P:=of_decide_eq_false c6
    refine aJ (rg (zm ?_))
    refine z ?_ (h:=fun Z=>ab Z vt vc (rA (by omega) (by omega)))
    refine za (nl ?_)
    exact ar ((i+1)) (by show _≤_;omega) (by show(ch (gLd a k)).length-(i+1)<(ch (gLd a k)).length-i;omega) (wkf id (wS<|wS<|wS<|wS<|wE (e:=(vsl (by(exact congrArg List.length (by first |rfl |omega |(have e:j=a.length:=by omega);subst e;exact hsn.symm |(have e:j=a.length:=by omega);subst e;exact hsn))) rfl))<|wE (e:=(aO (by rfl)))<|wQI<|wP<|wO (e:=aG (fun h=>h) (congrArg isl (by(have e:j=a.length:=by omega);subst e;exact hsn)))<|by(iterate 13 refine wF ?_);exact wN))
  ·skip
   have c4P:=of_decide_eq_false c4
   have hle:=Kk (a:=a) (P:=(gLd a k)) (i:=i) (by omega)
   refine aJ (rg (zm (zm ?_)))
   refine z ?_ (h:=fun Z=>bs1 (h:=60) Z sD sE (by exact⟨_,_,_,.inl rfl⟩))
   refine z ?_ (h:=fun Z=>aQ (h2:=61) (nm:=((lkT a k)++[(lkK a (gLd a k) i)]).length) Z sD sE (by exact⟨_,_,_,.inl rfl⟩) (by simp [iU,hZ]) (by omega) (by simp))
   refine za (nl ?_)
   refine dE (pkI (h:=61) (h1:=23) (T:=3) (T0:=24) (s0:=1) (ex0:=true) (n:=((lkK a (gLd a k) i).length)) (L:=(lkT a k)) (r:=(lkK a (gLd a k) i))) ?_
   refine rg (zm ?_)
   refine z ?_ (h:=fun Z=>ab Z vt vc (rA (by omega) (by omega)))
   refine za (nl ?_)
   exact ar ((k+1)) (by show _≤_;omega) (by show a.length-(k+1)<a.length-k;omega) (wkf (bn [(11,61)]) (wS<|wE (e:=(vsl (by(exact congrArg List.length (by first |rfl |omega |(rw[hle];exact uX (by omega)) |(rw[hle];exact Eq.symm (uX (by omega)))))) rfl))<|wE (e:=(aO (by rfl)))<|wQI (e:=(by(rw[hle];exact Eq.symm (uX (by omega)))))<|by(iterate 15 refine wF ?_);exact wN))
 ·skip
  have c2P:=of_decide_eq_false c2
  refine aJ (sq (rg (zm (za (nl ?_)))))
  refine dE (fzI (k:=2) (h:=11) (T0:=24) (T:=3) (ex0:=true) (n:=((lkT a k).length)) (L:=(lkT a k)) (hn:=by rfl)) ?_
  refine aq ?_
  exact⟨_,dK,trivial,da 2 (.a (.slvv 1 (vwI (lkT a k)))) (.a (.slvv 1 (vwI (lkM a)))) (by kernel_rfl) (congrArg (fun z=>B.a (.slvv 1 (vwI z))) (by exact Km (by omega)))⟩
inductive GP (M:List (List Int)):Nat→Int→Int→Prop
 | nil (u:Int):GP M 0 u u
 | snoc (n:Nat) (u v w:Int) (h:GP M n u v) (hw:w∈gLs M v.toNat):GP M (n+1) u w
def IsD (M:List (List Int)) (t v d:Int):Prop:=(∃ n:Nat,d=n∧GP M n t v∧∀ m,GP M m t v→n≤m)∨(d= -1∧∀ n,¬GP M n t v)
theorem Hu {p:Nat→Prop}:∀ (k n:Nat),n≤k→p n→∃ m,p m∧∀ j,p j→m≤j:=by
  intro k
  induction k with
  | zero=>intro n hn h;exact⟨n,h,fun j _=>by omega⟩
  | succ k ih=>
    intro n hn h
    by_cases e:∃ j,j<n∧p j
    · obtain⟨j,hj,hp⟩:=e;exact ih j (by omega) hp
    · exact⟨n,h,fun j hj=>Classical.byContradiction fun hc=>e ⟨j,by omega,hj⟩⟩
theorem IsD.ex (M:List (List Int)) (t v:Int):∃ d,IsD M t v d:=by
 by_cases h:∃ n,GP M n t v
 ·obtain⟨n,hn⟩:=h
  obtain⟨m,h1,h2⟩:=Hu (p:=fun n=>GP M n t v) n n (Nat.le_refl _) hn
  exact⟨m,.inl ⟨m,rfl,h1,h2⟩⟩
 ·exact⟨-1,.inr ⟨rfl,fun n hn=>h ⟨n,hn⟩⟩⟩
open Classical in
noncomputable def dsD (M:List (List Int)) (t v:Int):Int:=Classical.epsilon (IsD M t v)
theorem ym (M:List (List Int)) (t v:Int):IsD M t v (dsD M t v):=Classical.epsilon_spec (IsD.ex M t v)
theorem BF {M:List (List Int)} {t v:Int} {n:Nat} (h:GP M n t v):0≤dsD M t v∧dsD M t v≤n:=by
 rcases ym M t v with⟨m,h1,h2,h3⟩ |⟨h1,h2⟩
 ·have:=h3 n h;omega
 ·exact absurd h (h2 n)
theorem zO {M:List (List Int)} {t v:Int} (h:0≤dsD M t v):GP M (dsD M t v).toNat t v:=by
 rcases ym M t v with⟨m,h1,h2,h3⟩ |⟨h1,h2⟩
 ·rw[h1];exact h2
 ·omega
theorem GJ {M:List (List Int)} {t v:Int} (h:∀ n,¬GP M n t v):dsD M t v= -1:=by
 rcases ym M t v with⟨m,h1,h2,h3⟩ |⟨h1,h2⟩
 ·exact absurd h2 (h m)
 ·exact h1
theorem uH (M:List (List Int)) (t:Int):dsD M t t=0:=by have:=BF (GP.nil (M:=M) t);omega
theorem GK {M:List (List Int)} {t u w:Int} (hu:0≤dsD M t u) (hw:w∈gLs M u.toNat):0≤dsD M t w∧dsD M t w≤dsD M t u+1:=by
 have:=BF (GP.snoc _ _ _ _ (zO hu) hw);omega
noncomputable def dL (M:List (List Int)) (t:Int) (n:Nat) (L:List Int):List Int:=(List.range n).map (fun v=>if((v:Nat):Int)∈L then dsD M t v else -1)
theorem rQ (M:List (List Int)) (t:Int) (n:Nat) (L:List Int):(dL M t n L).length=n:=by unfold dL;simp
theorem LG {M:List (List Int)} {t:Int} {n:Nat} {L:List Int} {v:Nat} (hv:v<n):gI (dL M t n L) v=if((v:Nat):Int)∈L then dsD M t v else -1:=by
 rw[cQ (by rw[rQ];exact hv)];unfold dL;simp
theorem GA {M:List (List Int)} {t:Int} {n:Nat} {L:List Int} {v:Nat} (hv:v<n):dL M t n (L++[((v:Nat):Int)])=(dL M t n L).set v (dsD M t v):=by
 apply List.ext_getElem
 ·simp [dL]
 ·intro i h1 h2
  have hi:i<n:=by simpa [dL] using h1
  rw[List.getElem_set]
  unfold dL
  simp only[List.getElem_map,List.getElem_range,List.mem_append,List.mem_singleton]
  by_cases e:v=i
  ·subst e;simp
  ·rw[if_neg e]
   have:¬((i:Nat):Int)=((v:Nat):Int):=by omega
   simp [this]
theorem Mr (M:List (List Int)) (t:Int) (n:Nat):dL M t n []=List.replicate n (-1):=by
 apply List.ext_getElem
 ·simp [dL]
 ·intro i h1 h2;rw[List.getElem_replicate];unfold dL;simp only[List.getElem_map,List.not_mem_nil,if_false]
def rC (M:List (List Int)) (n:Nat):Prop:=∀ k,k<n→∀ w∈gLs M k,0≤w∧w<(n:Int)
structure BInv (M:List (List Int)) (t:Int) (n:Nat) (L:List Int) (k:Nat):Prop where
 nd:L.Nodup
 lt:∀ u∈L,0≤u∧u<(n:Int)
 hd:t∈L
 rc:∀ u∈L,0≤dsD M t u
 so:L.Pairwise (fun u v=>dsD M t u≤dsD M t v)
 cl:∀ j (hj:j<L.length),j<k→∀ w∈gLs M (L[j]).toNat,w∈L
 ne:∀ (hk:k<L.length),∀ v∈L,dsD M t v≤dsD M t (L[k])+1
 bd:∀ v∈L,dsD M t v<(L.length:Int)
theorem BInv.init {M:List (List Int)} {t:Int} {n:Nat} (h:0≤t∧t<(n:Int)):BInv M t n [t] 0:=
 ⟨by simp,fun u hu=>by rw[List.mem_singleton]at hu;subst hu;exact h,by simp,fun u hu=>by rw[List.mem_singleton]at hu;subst hu;rw[uH];exact Int.le_refl _,by simp,fun j _ hj=>by omega,fun _ v hv=>by rw[List.mem_singleton]at hv;subst hv;simp;omega,fun v hv=>by rw[List.mem_singleton]at hv;subst hv;rw[uH];simp⟩
theorem vg (n:Nat) (L:List Int) (hn:L.Nodup) (h:∀ u∈L,0≤u∧u<(n:Int)):L.length≤n:=by
 have:=gy n (L.map Int.toNat) (List.pairwise_map.2 (hn.imp_of_mem fun {a b} ha hb hne e=>hne (by have:=h a ha;have:=h b hb;omega))) (fun u hu=>by
  obtain⟨a,ha,rfl⟩:=List.mem_map.1 hu
  have:=h a ha;omega)
 simpa using this
theorem BInv.len {M:List (List Int)} {t:Int} {n:Nat} {L:List Int} {k:Nat} (h:BInv M t n L k):L.length≤n:=vg n L h.nd h.lt
structure BIn (M:List (List Int)) (t:Int) (n:Nat) (L:List Int) (k:Nat) (u:Int) (i:Nat) (N:List Int):Prop where
 ap:∃ E,N=L++E
 nd:N.Nodup
 lt:∀ u∈N,0≤u∧u<(n:Int)
 rc:∀ u∈N,0≤dsD M t u
 so:N.Pairwise (fun u v=>dsD M t u≤dsD M t v)
 got:∀ w∈(gLs M u.toNat).take i,w∈N
 ne:∀ v∈N,dsD M t v≤dsD M t u+1
 bd:∀ v∈N,dsD M t v<(N.length:Int)
theorem BInv.into {M:List (List Int)} {t:Int} {n:Nat} {L:List Int} {k:Nat} (h:BInv M t n L k) (hk:k<L.length):BIn M t n L k (L[k]) 0 L:=
 ⟨⟨[],by simp⟩,h.nd,h.lt,h.rc,h.so,by simp,h.ne hk,h.bd⟩
theorem BIn.len {M:List (List Int)} {t:Int} {n:Nat} {L:List Int} {k i:Nat} {u:Int} {N:List Int} (h:BIn M t n L k u i N):N.length≤n:=vg n N h.nd h.lt
theorem tD {L:List Int} {k:Nat} (h:k<L.length):L.take (k+1)=L.take k++[gI L k]:=by rw[List.take_succ_eq_append_getElem h,cQ h]
theorem BIn.skip {M:List (List Int)} {t:Int} {n:Nat} {L:List Int} {k i:Nat} {u:Int} {N:List Int} (h:BIn M t n L k u i N) (hi:i<(gLs M u.toNat).length) (hm:gI (gLs M u.toNat) i∈N):BIn M t n L k u (i+1) N:=
 ⟨h.ap,h.nd,h.lt,h.rc,h.so,fun w hw=>by
  rw[tD hi,List.mem_append,List.mem_singleton]at hw
  rcases hw with hw |rfl
  ·exact h.got w hw
  ·exact hm,h.ne,h.bd⟩
theorem BInv.near {M:List (List Int)} {t:Int} {n:Nat} {L:List Int} {k:Nat} (h:BInv M t n L k) (hk:k<L.length):∀ (m:Nat) (v:Int),GP M m t v→(m:Int)≤dsD M t (L[k])→v∈L:=by
  intro m
  induction m with
  | zero=>intro v hv _;cases hv;exact h.hd
  | succ m ih=>
    intro w hw hm
    cases hw with
    | snoc _ _ p _ hp hwp=>
      have hpL:=ih p hp (by omega)
      obtain⟨j,hj,rfl⟩:=List.getElem_of_mem hpL
      have hd:=(BF hp).2
      refine h.cl j hj ?_ w hwp
      refine Classical.byContradiction fun hc=> ?_
      rcases Nat.lt_or_ge k j with hkj |hkj
      · have:=List.pairwise_iff_getElem.1 h.so k j hk hj hkj
        omega
      · obtain rfl:j=k:=by omega
        omega
theorem BIn.go {M:List (List Int)} {t:Int} {n:Nat} {L:List Int} {k i:Nat} {N:List Int} (hI:BInv M t n L k) (hk:k<L.length) (hR:rC M n) (h:BIn M t n L k (L[k]) i N) (hi:i<(gLs M (L[k]).toNat).length) (hm:gI (gLs M (L[k]).toNat) i∉N):
  BIn M t n L k (L[k]) (i+1) (N++[gI (gLs M (L[k]).toNat) i])∧dsD M t (gI (gLs M (L[k]).toNat) i)=dsD M t (L[k])+1∧(0≤gI (gLs M (L[k]).toNat) i∧gI (gLs M (L[k]).toNat) i<(n:Int)):=by
 have hu:=hI.lt _ (List.getElem_mem hk)
 have hur:=hI.rc _ (List.getElem_mem hk)
 have hw:gI (gLs M (L[k]).toNat) i∈gLs M (L[k]).toNat:=by rw[cQ hi];exact List.getElem_mem hi
 have hb:=hR _ (by omega) _ hw
 obtain⟨s1,s2⟩:=GK hur hw
 have e:dsD M t (gI (gLs M (L[k]).toNat) i)=dsD M t (L[k])+1:=by
  refine Classical.byContradiction fun hc=>hm ?_
  have hp:=zO s1
  have:=hI.near hk _ _ hp (by omega)
  obtain⟨E,rfl⟩:=h.ap
  simp [this]
 refine⟨⟨?_,?_,?_,?_,?_,?_,?_,?_⟩,e,hb⟩
 ·obtain⟨E,rfl⟩:=h.ap
  exact⟨E++[gI (gLs M (L[k]).toNat) i],by rw[List.append_assoc]⟩
 ·rw[List.nodup_append]
  refine⟨h.nd,by simp,fun a ha b hb'=> ?_⟩
  rw[List.mem_singleton]at hb'
  subst hb'
  rintro rfl
  exact hm ha
 ·intro u hu'
  rw[List.mem_append,List.mem_singleton]at hu'
  rcases hu' with hu' |rfl
  ·exact h.lt u hu'
  ·exact hb
 ·intro u hu'
  rw[List.mem_append,List.mem_singleton]at hu'
  rcases hu' with hu' |rfl
  ·exact h.rc u hu'
  ·exact s1
 ·rw[List.pairwise_append]
  refine⟨h.so,by simp,fun a ha b hb'=> ?_⟩
  rw[List.mem_singleton]at hb'
  subst hb'
  rw[e];exact h.ne a ha
 ·intro w hw'
  rw[tD hi,List.mem_append,List.mem_singleton]at hw'
  rw[List.mem_append,List.mem_singleton]
  rcases hw' with hw' |rfl
  ·exact .inl (h.got w hw')
  ·exact .inr rfl
 ·intro v hv
  rw[List.mem_append,List.mem_singleton]at hv
  rcases hv with hv |rfl
  ·exact h.ne v hv
  ·omega
 ·intro v hv
  rw[List.length_append,List.length_singleton]
  rw[List.mem_append,List.mem_singleton]at hv
  rcases hv with hv |rfl
  ·have:=h.bd v hv;omega
  ·obtain⟨E,rfl⟩:=h.ap
   have:=h.bd (L[k]) (by simp)
   omega
theorem BIn.out {M:List (List Int)} {t:Int} {n:Nat} {L:List Int} {k i:Nat} {N:List Int} (hI:BInv M t n L k) (hk:k<L.length) (h:BIn M t n L k (L[k]) i N) (hi:¬i<(gLs M (L[k]).toNat).length):BInv M t n N (k+1):=by
 obtain⟨E,rfl⟩:=h.ap
 refine⟨h.nd,h.lt,by simp [hI.hd],h.rc,h.so,fun j hj hjk w hw=> ?_,fun hk1 v hv=> ?_,h.bd⟩
 ·have hjL:j<L.length:=by omega
  rw[List.getElem_append_left hjL]at hw
  by_cases e:j=k
  ·subst e
   refine h.got w ?_
   rw[List.take_of_length_le (by omega)];exact hw
  ·rw[List.mem_append];exact .inl (hI.cl j hjL (by omega) w hw)
 ·have h1:=h.ne v hv
  have h2:=List.pairwise_iff_getElem.1 h.so k (k+1) (by omega) hk1 (by omega)
  rw[List.getElem_append_left hk]at h2
  omega
theorem BInv.fin {M:List (List Int)} {t:Int} {n:Nat} {L:List Int} {k:Nat} (h:BInv M t n L k) (hk:¬k<L.length):∀ (m:Nat) (v:Int),GP M m t v→v∈L:=by
  intro m
  induction m with
  | zero=>intro v hv;cases hv;exact h.hd
  | succ m ih=>
    intro w hw
    cases hw with
    | snoc _ _ p _ hp hwp=>
      obtain⟨j,hj,rfl⟩:=List.getElem_of_mem (ih p hp)
      exact h.cl j hj (by omega) w hwp
noncomputable def dsM (M:List (List Int)) (t:Int) (n:Nat):List Int:=(List.range n).map (fun v=>dsD M t ((v:Nat):Int))
theorem Dc (M:List (List Int)) (t:Int) (n:Nat):(dsM M t n).length=n:=by unfold dsM;simp
theorem ML {M:List (List Int)} {t:Int} {n v:Nat} (hv:v<n):gI (dsM M t n) v=dsD M t v:=by
 rw[cQ (by rw[Dc];exact hv)];unfold dsM;simp
theorem Mp {M:List (List Int)} {t:Int} {n:Nat} {L:List Int} {k:Nat} (h:BInv M t n L k) (hk:¬k<L.length):dL M t n L=dsM M t n:=by
 unfold dL dsM
 refine List.map_congr_left fun v _=> ?_
 split
 ·rfl
 ·rename_i hv
  exact(GJ fun m hm=>hv (h.fin hk m _ hm)).symm
theorem Mq {M:List (List Int)} {t:Int} {n:Nat} {L:List Int} (hrc:∀ u∈L,0≤dsD M t u) {w:Int} (hw:0≤w∧w<(n:Int)):gI (dL M t n L) w.toNat<0↔w∉L:=by
 rw[LG (by omega),show((w.toNat:Nat):Int)=w by omega]
 by_cases h:w∈L
 ·rw[if_pos h];have:=hrc w h
  constructor
  ·intro h2;omega
  ·intro h2;exact absurd h h2
 ·rw[if_neg h];simp [h]
theorem CU {P:List Dom} {c:Cel} (hc:gK P c.x c.y=true):∃ x y:Nat,c=⟨x,y⟩:=by
 have:=mA hc
 obtain⟨a,b⟩:=c
 dsimp only at this
 exact⟨a.toNat,b.toNat,by rw[show((a.toNat:Nat):Int)=a by omega,show((b.toNat:Nat):Int)=b by omega]⟩
inductive FW:Nat→List Dom→List Dom→Prop
 | nil (P:List Dom):FW 0 P P
 | step (n:Nat) (P Q:List Dom) (c:Cel) (hc:gK P c.x c.y=true) (h:FW n (bA P c) Q):FW (n+1) P Q
theorem FW.snoc {n:Nat} {P Q:List Dom} (h:FW n P Q) {c:Cel} (hc:gK Q c.x c.y=true):FW (n+1) P (bA Q c):=by
 induction h with
 | nil P=>exact .step _ _ _ c hc (.nil _)
 | step n P Q d hd _ ih=>exact .step _ _ _ d hd (ih hc)
theorem FW.back {s n:Nat} {P Q:List Dom} (h:FW n P Q):TilS s P→FW n Q P:=by
  induction h with
  | nil P=>exact fun _=> .nil _
  | step n P Q d hd hr ih=>
    intro hP
    have:=ih (jf hP hd)
    obtain⟨b1,b2⟩:=xi hP hd
    have h3:=FW.snoc this b1
    rw[b2]at h3;exact h3
theorem zT {P:List Dom} {c:Cel} (h:gK P c.x c.y=true):c∈ch P:=by
 obtain⟨x,y,rfl⟩:=CU h
 have hb:=mA h
 dsimp only at hb h
 unfold ch flN
 refine List.mem_map.2 ⟨y*8+x,List.mem_filter.2 ⟨by rw[List.mem_range];omega,?_⟩,?_⟩
 ·have e:gH (y*8+x)=(⟨x,y⟩:Cel):=by unfold gH;simp only[Cel.mk.injEq];omega
  unfold canN;rw[e];exact h
 ·unfold gH;simp only[Cel.mk.injEq];omega
theorem Ir {s:Nat} {a:List (List Dom)} (hA:FlipA s a) {P:List Dom} (hP:P∈a):gLs (lkM a) (ixT a P).toNat=nbI a P:=by
 obtain⟨h1,h2⟩:=uV (mM hP)
 rw[yB h1,h2,BS hA hP]
theorem gp_of {s:Nat} {a:List (List Dom)} (hA:FlipA s a) {n:Nat} {P Q:List Dom} (h:FW n P Q):P∈a→GP (lkM a) n (ixT a P) (ixT a Q)∧Q∈a:=by
  have key:∀ {m n:Nat} {A P Q:List Dom},FW n P Q→P∈a→GP (lkM a) m (ixT a A) (ixT a P)→GP (lkM a) (n+m) (ixT a A) (ixT a Q)∧Q∈a:=by
    intro m n A P Q h
    induction h generalizing m with
    | nil P=>intro hP hg;exact⟨by rw[Nat.zero_add];exact hg,hP⟩
    | step n P Q c hc _ ih=>
      intro hP hg
      have hR:=hA.flip hP (zT hc)
      have:=ih hR (GP.snoc m _ _ (ixT a (bA P c)) hg (by rw[Ir hA hP];exact List.mem_map.2 ⟨c,zT hc,rfl⟩))
      rw[show n+1+m=n+(m+1) by omega];exact this
  intro hP
  exact key h hP (.nil _)
theorem Kd {a:List (List Dom)} {P Q:List Dom} (hP:P∈a) (hQ:Q∈a) (h:ixT a P=ixT a Q):P=Q:=by
 rw[←(uV (mM hP)).2,←(uV (mM hQ)).2,h]
theorem fw_of {s:Nat} {a:List (List Dom)} (hA:FlipA s a) {n:Nat} {i j:Int} (h:GP (lkM a) n i j):∀ P,P∈a→i=ixT a P→∃ Q,Q∈a∧j=ixT a Q∧FW n P Q:=by
  induction h with
  | nil u=>intro P hP e;exact⟨P,hP,e,.nil _⟩
  | snoc n u v w _ hw ih=>
    intro P hP e
    obtain⟨Q,hQ,eQ,hF⟩:=ih P hP e
    rw[eQ,Ir hA hQ]at hw
    obtain⟨c,hc,rfl⟩:=List.mem_map.1 hw
    exact⟨_,hA.flip hQ hc,rfl,hF.snoc (xj hc)⟩
theorem yr {s:Nat} {a:List (List Dom)} (hA:FlipA s a) {n:Nat} {P Q:List Dom} (hP:P∈a) (hQ:Q∈a):GP (lkM a) n (ixT a P) (ixT a Q)↔FW n P Q:=by
 constructor
 ·intro h
  obtain⟨R,hR,e,hF⟩:=fw_of hA h P hP rfl
  rw[Kd hQ hR e];exact hF
 ·intro h;exact(gp_of hA h hP).1
theorem Mx {s:Nat} {a:List (List Dom)} (hA:FlipA s a) {P Q:List Dom} (hP:P∈a) (hQ:Q∈a) {d:Int} (h:(∃ n:Nat,d=n∧FW n P Q∧∀ m,FW m P Q→n≤m)∨(d= -1∧∀ n,¬FW n P Q)):dsD (lkM a) (ixT a P) (ixT a Q)=d:=by
 rcases h with⟨n,rfl,h1,h2⟩ |⟨rfl,h1⟩
 ·rcases ym (lkM a) (ixT a P) (ixT a Q)with⟨m,e,h3,h4⟩ |⟨e,h3⟩
  ·have:=h2 m ((yr hA hP hQ).1 h3)
   have:=h4 n ((yr hA hP hQ).2 h1)
   omega
  ·exact absurd ((yr hA hP hQ).2 h1) (h3 n)
 ·exact GJ fun n hn=>h1 n ((yr hA hP hQ).1 hn)
theorem KO {s:Nat} {a:List (List Dom)} (hA:FlipA s a):rC (lkM a) a.length:=by
 intro k hk w hw
 have hP:gLd a k∈a:=by rw[ee hk];exact List.getElem_mem hk
 rw[yB hk,BS hA hP]at hw
 obtain⟨c,hc,rfl⟩:=List.mem_map.1 hw
 have:=mM (hA.flip hP hc)
 have:=(BR a (bA (gLd a k) c)).1
 omega
noncomputable def fdR (l:List Int) (p q:List Dom):Int:=if ixT (ltR l) p<0∨ixT (ltR l) q<0 then -1 else dsD (lkM (ltR l)) (ixT (ltR l) q) (ixT (ltR l) p)
theorem GN {l:List Int} {p q:List Dom} (h:ixT (ltR l) p<0∨ixT (ltR l) q<0):fdR l p q= -1:=by unfold fdR;rw[if_pos h]
theorem Df {l:List Int} {p q:List Dom} (h1:¬ixT (ltR l) p<0) (h2:¬ixT (ltR l) q<0):fdR l p q=dsD (lkM (ltR l)) (ixT (ltR l) q) (ixT (ltR l) p):=by unfold fdR;rw[if_neg (by omega)]
theorem Hw {s:Nat} {a:List (List Dom)} (hA:FlipA s a) {k:Nat} (hk:k<(lkM a).length):(gLs (lkM a) k).length≤64:=by
 rw[yA]at hk
 have hP:gLd a k∈a:=by rw[ee hk];exact List.getElem_mem hk
 rw[yB hk,BS hA hP,Kw];exact xk _
end Cl
end Go.Proofs.YtonlghbbdcddoaaGreat
