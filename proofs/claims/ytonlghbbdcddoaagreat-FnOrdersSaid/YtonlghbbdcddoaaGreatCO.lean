/- Parts put together: C33, C34. -/
import Derived.Test.YtonlghbbdcddoaaGreatC32
import Derived.Test.YtonlghbbdcddoaaGreatClB
set_option maxHeartbeats 4000000
set_option maxRecDepth 100000
namespace Go.Proofs.YtonlghbbdcddoaaGreat
namespace Cl
open Go.ChangeShapes Go.WideShapes Go.ChangeAt Go.RowKit
def mF (b:Bool) (x y:Int):Int:=if b=true then max x y else min x y
def yD (f:Int→Int→Int) (x y:List Int) (k:Nat):List Int:=(List.range k).map fun i=>f (gI x i) (gI y i)
def ka (f:Int→Int→Int) (x y:List Int) (k:Nat):List Int:=yD f x y k++x.drop k
theorem jS (f:Int→Int→Int) (x y:List Int) (k:Nat):(yD f x y k).length=k:=by simp [yD]
theorem Fg (f:Int→Int→Int) (x y:List Int) (k:Nat):yD f x y (k+1)=yD f x y k++[f (gI x k) (gI y k)]:=by unfold yD;rw[List.range_succ,List.map_append];rfl
theorem oe {f:Int→Int→Int} {x y:List Int} {k:Nat} (h:k≤x.length):(ka f x y k).length=x.length:=by unfold ka;rw[List.length_append,jS,List.length_drop];omega
theorem HA {f:Int→Int→Int} {x y:List Int} {k:Nat} (h:¬k<x.length):ka f x y k=yD f x y k:=by unfold ka;rw[List.drop_of_length_le (by omega),List.append_nil]
theorem Au {f:Int→Int→Int} {x y:List Int} {k:Nat} (h:k<x.length):gI (ka f x y k) k=gI x k:=by
 rw[cQ (by rw[oe (by omega)];exact h),cQ h]
 unfold ka
 rw[List.getElem_append_right (by rw[jS];omega)]
 simp only[jS,Nat.sub_self,List.getElem_drop,Nat.add_zero]
theorem Av {f:Int→Int→Int} {x y:List Int} {k:Nat} {v:Int} (h:k<x.length) (hv:v=f (gI x k) (gI y k)):(ka f x y k).set k v=ka f x y (k+1):=by
 subst hv
 unfold ka
 rw[List.set_append,if_neg (by rw[jS];omega),jS,Nat.sub_self,Fg,List.append_assoc]
 rw[List.drop_eq_getElem_cons h];rfl
noncomputable def ko (b:Bool) (l:List Int) (p q:List Dom):List Int:=yD (mF b) (hts l p) (hts l q) 81
noncomputable def dq (c:Bool) (l:List Int) (a b:List Dom):List Dom:=if(okH l a&&okH l b)=true then pI l (ko c l a b)else []
noncomputable def tN (c:Bool) (l:List Int) (a b:List Dom):Bool:=(okH l a&&okH l b)&&nD l (ko c l a b)
theorem Dw {c:Bool} {l:List Int} {a b:List Dom} (h:(okH l a&&okH l b)=false):dq c l a b=[]:=by unfold dq;rw[if_neg (by rw[h];simp)]
theorem Dv {c:Bool} {l:List Int} {a b:List Dom} (h:(okH l a&&okH l b)=false):tN c l a b=false:=by unfold tN;rw[h];rfl
theorem um {c:Bool} {l:List Int} {a b:List Dom} {k:Nat} (h:(okH l a&&okH l b)=true) (hk:k≤(hts l a).length) (hk2:¬k<(hts l a).length):dq c l a b=pI l (ka (mF c) (hts l a) (hts l b) k)∧tN c l a b=nD l (ka (mF c) (hts l a) (hts l b) k):=by
 have h81:=kq (fw h).1
 have ek:k=81:=by omega
 rw[HA hk2]
 subst ek
 unfold dq tN ko
 rw[if_pos h,h];exact⟨rfl,rfl⟩
theorem kC:(Tryz.prog.info? 3).map (·.size)=some 1:=by kernel_rfl
theorem jq:TI Tryz.prog 26 true 1:=⟨⟨_,Tryz.underlying26,rfl⟩,by kernel_rfl⟩
theorem kD:TI Tryz.prog 3 false 1:=⟨⟨_,Tryz.underlying3,rfl⟩,by kernel_rfl⟩
theorem gk:Tryz.prog.underlying 24=some (.slice 3):=Tryz.underlying24
theorem qR (a b:Int):Fn Tryz.prog 18 [.a (.val (.int .i64 a)),.a (.val (.int .i64 b))] [.val (.int .i64 (mF false a b))]:=by
 refine aN (N:=8) Tryz.func18 rfl (by kernel_rfl) rfl (Nat.le_of_ble_eq_true rfl) [7] (dB rfl) (fun W=> ?_)
 show Wp _ _ _ [kI 0 a,kI 1 b,kF 7]
 refine sq (rg (zk (nl (sq (rg (zm (zm ?_)))))))
 refine z ?_ (h:=fun Z=>ux (c:=(min a b)) Z vt vt (by omega))
 refine za (nl (aq ?_))
 exact VRes.tmp _ _ _ (by exact rfl) (cc (congrArg (Value.int .i64) (by rfl)))
theorem wI (l:List Int) (a b:List Dom) (hl:l.length≤4194304) (ha:a.length≤2097152) (hb:b.length≤2097152):Fn Tryz.prog 17 [.agg [(.slv l.length 1 (isl l):A)],.a (.slv a.length 3 (dsl a)),.a (.slv b.length 3 (dsl b)),.a (.fn 18 [])] [.row 54 3 (dq false l a b).length (dsl (dq false l a b)),.val (.bool (tN false l a b))]:=by
 refine aN (N:=48) Tryz.func17 rfl (by kernel_rfl) rfl (Nat.le_of_ble_eq_true rfl) [4,18,25,40,45] (vO rfl rfl (by intro u hu;injection hu with hu;subst hu;rfl)) (fun W=> ?_)
 show Wp _ _ _ [kV 0 (V.b (.agg [(.slv l.length 1 (isl l):A)])),kV 1 (V.b (.a (.slv a.length 3 (dsl a)))),kV 2 (V.b (.a (.slv b.length 3 (dsl b)))),kV 3 (V.b (.a (.fn 18 []))),kF 4,kF 18,kF 25,kF 40,kF 45]
 refine sq (rg ?_)
 refine z ?_ (h:=fun Z=>aM (h:=4) Z xt (by exact ob1 rfl))
 refine zk (zk (nl (sq (rg ?_))))
 refine z ?_ (h:=fun Z=>aa (xs:=[(.slv l.length 1 (isl l):A)]) Z jq rfl (by decide) rfl)
 refine zm (zm ?_)
 refine z ?_ (h:=fun Z=>bo (d:=18) (f:=21) (os:=[]) (os':=[(.o 18,some (.o ⟨3,1,true,pl (isl (hts l a))⟩)),(.o 25,some (.o ⟨3,1,true,pl (isl (hts l b))⟩))]) (r:=V.tup [.a (.sl 18 0 ((hts l a).length)),.a (.sl 25 0 ((hts l b).length)),.a (.val (.bool (okH l a&&okH l b)))]) (bs:=[.agg [(.slv l.length 1 (isl l):A)],.a (.slv a.length 3 (dsl a)),.a (.slv b.length 3 (dsl b))]) (keep:=[]) (new:=[18,25]) (dead:=[]) Z (FnO.ren' (fh l a b (by omega) (by omega) (by omega)) (bn [(7,18),(9,25)]) rfl rfl (by kernel_rfl) (by kernel_rfl) ⟨bB (fun _=>rfl),bB (fun _=>rfl),trivial⟩ (by kernel_rfl) rfl (by simp only[cH,Ob.ren,bM,aC,aD,aA,bt,bq];first |done |rfl) (by simp only[cH,Ob.ren,bM,aC,aD,aA,bt,bq];first |done |rfl) rfl rfl) (by kernel_rfl) ⟨bB (fun _=>rfl),bB (fun _=>rfl),trivial⟩ (by kernel_rfl) (ArgOs.cons (ArgO.slot 15 (.agg [(.slv l.length 1 (isl l):A)])) (ArgOs.cons (ArgO.slot 16 (.a (.slv a.length 3 (dsl a)))) (ArgOs.cons (ArgO.slot 17 (.a (.slv b.length 3 (dsl b)))) (ArgOs.nil)))))
 refine zm ?_
 refine z ?_ (h:=fun Z=>az Z (by exact rfl))
 refine z ?_ (h:=fun Z=>az Z (by exact rfl))
 refine z ?_ (h:=fun Z=>az Z (by exact rfl))
 refine za (za (za (nl (sq (sq (rg (zm ?_)))))))
 refine z ?_ (h:=fun Z=>aK Z vt (bE rfl))
 refine nl ?_
 refine wi (b:=(!(okH l a&&okH l b))) (fun c1=> ?_) (fun c1=> ?_)
 ·skip
  have c2:(okH l a&&okH l b)=false:=by first |(rw[←Bool.not_eq_true'];exact c1) |simpa using c1
  refine sq (rg (zk (zk (nl (aq ?_)))))
  exact⟨VRes.tmp _ _ _ (by exact rfl) (lP (L:=(dq false l a b)) (by exact Dw (by assumption))),VRes.tmp _ _ _ (by exact rfl) (cc (congrArg Value.bool (by exact(Dv (by assumption)).symm)))⟩
 ·skip
  have c3:(okH l a&&okH l b)=true:=by first |(rw[←Bool.not_eq_false'];exact c1) |simpa using c1
  have hoa:okH l a=true:=(fw c3).1
  have hob:okH l b=true:=(fw c3).2
  have hla:=kq hoa
  have hlb:=kq hob
  refine sk (sq (sq (rg (zm ?_))))
  refine z ?_ (h:=fun Z=>lnS Z gk)
  refine z ?_ (h:=fun Z=>mc Z)
  refine nl (bkk ?_)
  refine bf (fun(k:Nat)=>k≤(hts l a).length) (fun(k:Nat)=>[kV 3 (V.b (.a (.fn 18 []))),kP 4 4 0,kS 10 18 0 ((ka (mF false) (hts l a) (hts l b) k).length),kS 11 25 0 ((hts l b).length),kI 25 (((hts l a).length:Nat):Int),kI 26 ((k:Nat):Int),kO 4 26 1 true [(.slv l.length 1 (isl l):A)],kO 18 3 1 true (pl (isl (ka (mF false) (hts l a) (hts l b) k))),kO 25 3 1 true (pl (isl (hts l b))),kF 40,kF 45]) (fun(k:Nat)=>(hts l a).length-k) ((0:Nat)) (by exact(Nat.zero_le _:0≤_)) (wkf id (wS<|wS<|wE (e:=(vsl (by rfl) rfl))<|wS<|wS<|wE (e:=(aO (by rfl)))<|wX<|wO (e:=aG (fun h=>h) (congrArg isl (by rfl)))<|wP<|wF<|wF<|wN)) ?_
  rintro k inv4
  replace inv4:k≤(hts l a).length:=inv4
  have invk:=inv4
  have hmk:=oe (f:=(mF false)) (y:=hts l b) invk
  refine sq (rg ?_)
  refine z ?_ (h:=fun Z=>ab Z vt vt (bP rfl))
  refine nl (sq ?_)
  refine wi (fun c5=> ?_) (fun c5=> ?_)
  ·skip
   have c5P:=of_decide_eq_true c5
   have hmk1:=oe (f:=(mF false)) (x:=hts l a) (y:=hts l b) (k:=k+1) (by omega)
   refine sk (sq (bkk (sq (rg (zm (za (nl (cg (zdm (zdm (zdm (zdm (zdm ?_)))))))))))))
   refine zd ?_ (h:=fun Z=>ix0 Z gk kC vt (hlt:=(by omega)))
   refine zd ?_ (h:=fun Z=>lI Z kD (by omega))
   refine zdm (zdm ?_)
   refine zd ?_ (h:=fun Z=>ix0 Z gk kC vt (hlt:=(by omega)))
   refine zd ?_ (h:=fun Z=>lI Z kD (by omega))
   refine zd ?_ (h:=fun Z=>cI (d:=40) (f:=18) (t:=31) (caps:=[]) (os:=[]) (os':=[]) (r:=V.v (.int .i64 (mF false (gI (ka (mF false) (hts l a) (hts l b) k) k) (gI (hts l b) k)))) (bs:=[.a (.val (.int .i64 (gI (ka (mF false) (hts l a) (hts l b) k) k))),.a (.val (.int .i64 (gI (hts l b) k)))]) (keep:=[]) (new:=[]) (dead:=[]) Z (FnO.of_fn (qR (gI (ka (mF false) (hts l a) (hts l b) k) k) (gI (hts l b) k) ) (by kernel_rfl)) rfl trivial rfl (ArgOs.cons ((ArgO.v vt)) (ArgOs.cons ((ArgO.v vt)) (ArgOs.nil))))
   refine zd ?_ (h:=fun Z=>ix0 Z gk kC vt (hlt:=(by omega)))
   refine zd ?_ (h:=fun _=>sI kD xt (by omega))
   refine bJ (rg ?_)
   refine z ?_ (h:=fun Z=>ab Z vt vc (rA (by omega) (by omega)))
   refine zm (nl ?_)
   exact ar ((k+1)) (by show _≤_;omega) (by show(hts l a).length-(k+1)<(hts l a).length-k;omega) (wkf id (wS<|wS<|wE (e:=(vsl (by omega) rfl))<|wS<|wS<|wE (e:=(aO (by rfl)))<|wX<|wO (e:=aG (fun h=>h) (congrArg isl (by exact Eq.symm (Av (by omega) (by rw[Au (x:=hts l a) (k:=k) (by omega)])))))<|wP<|wF<|wF<|wN))
  ·skip
   have c5P:=of_decide_eq_false c5
   refine aJ (sq (rg ?_))
   refine z ?_ (h:=fun Z=>aa (xs:=[(.slv l.length 1 (isl l):A)]) Z jq rfl (by decide) rfl)
   refine zm ?_
   refine z ?_ (h:=fun Z=>cS Z (kW l (ka (mF false) (hts l a) (hts l b) k) (by omega) (by omega)) (ac (ArgV.regv _ _ 1 _) (ac (bR (by exact fi _)) an)) (ResV.row _ _ _ _ 45) rv)
   refine z ?_ (h:=fun Z=>az Z (by exact rfl))
   refine z ?_ (h:=fun Z=>az Z (by exact rfl))
   refine za (za (nl (aq ?_)))
   exact⟨VRes.tmp _ _ _ (by exact rfl) (lQ (h:=45) (L:=(pI l (ka (mF false) (hts l a) (hts l b) k))) (by kernel_rfl) (by exact(um (by assumption) (by omega) (by omega)).1.symm) (by rfl)),VRes.tmp _ _ _ (by exact rfl) (cc (congrArg Value.bool (by exact(um (by assumption) (by omega) (by omega)).2.symm)))⟩
theorem tI (l:List Int) (a b:List Dom) (hl:l.length≤4194304) (ha:a.length≤2097152) (hb:b.length≤2097152):Fn Tryz.prog 6 [.agg [(.slv l.length 1 (isl l):A)],.a (.slv a.length 3 (dsl a)),.a (.slv b.length 3 (dsl b))] [.row 54 3 (dq false l a b).length (dsl (dq false l a b)),.val (.bool (tN false l a b))]:=by
 refine aN (N:=14) Tryz.func6 rfl (by kernel_rfl) rfl (Nat.le_of_ble_eq_true rfl) [3,11] (vO rfl rfl (by intro u hu;injection hu with hu;subst hu;rfl)) (fun W=> ?_)
 show Wp _ _ _ [kV 0 (V.b (.agg [(.slv l.length 1 (isl l):A)])),kV 1 (V.b (.a (.slv a.length 3 (dsl a)))),kV 2 (V.b (.a (.slv b.length 3 (dsl b)))),kF 3,kF 11]
 refine sq (rg ?_)
 refine z ?_ (h:=fun Z=>aM (h:=3) Z xt (by exact ob1 rfl))
 refine zk (zk (nl (sq (rg ?_))))
 refine z ?_ (h:=fun Z=>aa (xs:=[(.slv l.length 1 (isl l):A)]) Z jq rfl (by decide) rfl)
 refine zm (zm ?_)
 refine z ?_ (h:=fun Z=>cS Z (wI l a b (by omega) (by omega) (by omega)) (ac (ArgV.regv _ _ 1 _) (ac (ArgV.slv _ _ _ _) (ac (ArgV.slv _ _ _ _) (ac (ArgV.fn 18) an)))) (ResV.row _ _ _ _ 11) rv)
 refine z ?_ (h:=fun Z=>az Z (by exact rfl))
 refine z ?_ (h:=fun Z=>az Z (by exact rfl))
 refine za (za (nl (aq ?_)))
 exact⟨VRes.tmp _ _ _ (by exact rfl) (BRes.row 11 ((dq false l a b).length) _ 3 _ (by kernel_rfl) (by exact bQ _)),VRes.tmp _ _ _ (by exact rfl) (BRes.val _)⟩
theorem pX (a b:Int):Fn Tryz.prog 19 [.a (.val (.int .i64 a)),.a (.val (.int .i64 b))] [.val (.int .i64 (mF true a b))]:=by
 refine aN (N:=8) Tryz.func19 rfl (by kernel_rfl) rfl (Nat.le_of_ble_eq_true rfl) [7] (dB rfl) (fun W=> ?_)
 show Wp _ _ _ [kI 0 a,kI 1 b,kF 7]
 refine sq (rg (zk (nl (sq (rg (zm (zm ?_)))))))
 refine z ?_ (h:=fun Z=>zw (c:=(max a b)) Z vt vt (by omega))
 refine za (nl (aq ?_))
 exact VRes.tmp _ _ _ (by exact rfl) (cc (congrArg (Value.int .i64) (by rfl)))
theorem ve (l:List Int) (a b:List Dom) (hl:l.length≤4194304) (ha:a.length≤2097152) (hb:b.length≤2097152):Fn Tryz.prog 17 [.agg [(.slv l.length 1 (isl l):A)],.a (.slv a.length 3 (dsl a)),.a (.slv b.length 3 (dsl b)),.a (.fn 19 [])] [.row 54 3 (dq true l a b).length (dsl (dq true l a b)),.val (.bool (tN true l a b))]:=by
 refine aN (N:=48) Tryz.func17 rfl (by kernel_rfl) rfl (Nat.le_of_ble_eq_true rfl) [4,18,25,40,45] (vO rfl rfl (by intro u hu;injection hu with hu;subst hu;rfl)) (fun W=> ?_)
 show Wp _ _ _ [kV 0 (V.b (.agg [(.slv l.length 1 (isl l):A)])),kV 1 (V.b (.a (.slv a.length 3 (dsl a)))),kV 2 (V.b (.a (.slv b.length 3 (dsl b)))),kV 3 (V.b (.a (.fn 19 []))),kF 4,kF 18,kF 25,kF 40,kF 45]
 refine sq (rg ?_)
 refine z ?_ (h:=fun Z=>aM (h:=4) Z xt (by exact ob1 rfl))
 refine zk (zk (nl (sq (rg ?_))))
 refine z ?_ (h:=fun Z=>aa (xs:=[(.slv l.length 1 (isl l):A)]) Z jq rfl (by decide) rfl)
 refine zm (zm ?_)
 refine z ?_ (h:=fun Z=>bo (d:=18) (f:=21) (os:=[]) (os':=[(.o 18,some (.o ⟨3,1,true,pl (isl (hts l a))⟩)),(.o 25,some (.o ⟨3,1,true,pl (isl (hts l b))⟩))]) (r:=V.tup [.a (.sl 18 0 ((hts l a).length)),.a (.sl 25 0 ((hts l b).length)),.a (.val (.bool (okH l a&&okH l b)))]) (bs:=[.agg [(.slv l.length 1 (isl l):A)],.a (.slv a.length 3 (dsl a)),.a (.slv b.length 3 (dsl b))]) (keep:=[]) (new:=[18,25]) (dead:=[]) Z (FnO.ren' (fh l a b (by omega) (by omega) (by omega)) (bn [(7,18),(9,25)]) rfl rfl (by kernel_rfl) (by kernel_rfl) ⟨bB (fun _=>rfl),bB (fun _=>rfl),trivial⟩ (by kernel_rfl) rfl (by simp only[cH,Ob.ren,bM,aC,aD,aA,bt,bq];first |done |rfl) (by simp only[cH,Ob.ren,bM,aC,aD,aA,bt,bq];first |done |rfl) rfl rfl) (by kernel_rfl) ⟨bB (fun _=>rfl),bB (fun _=>rfl),trivial⟩ (by kernel_rfl) (ArgOs.cons (ArgO.slot 15 (.agg [(.slv l.length 1 (isl l):A)])) (ArgOs.cons (ArgO.slot 16 (.a (.slv a.length 3 (dsl a)))) (ArgOs.cons (ArgO.slot 17 (.a (.slv b.length 3 (dsl b)))) (ArgOs.nil)))))
 refine zm ?_
 refine z ?_ (h:=fun Z=>az Z (by exact rfl))
 refine z ?_ (h:=fun Z=>az Z (by exact rfl))
 refine z ?_ (h:=fun Z=>az Z (by exact rfl))
 refine za (za (za (nl (sq (sq (rg (zm ?_)))))))
 refine z ?_ (h:=fun Z=>aK Z vt (bE rfl))
 refine nl ?_
 refine wi (b:=(!(okH l a&&okH l b))) (fun c1=> ?_) (fun c1=> ?_)
 ·skip
  have c2:(okH l a&&okH l b)=false:=by first |(rw[←Bool.not_eq_true'];exact c1) |simpa using c1
  refine sq (rg (zk (zk (nl (aq ?_)))))
  exact⟨VRes.tmp _ _ _ (by exact rfl) (lP (L:=(dq true l a b)) (by exact Dw (by assumption))),VRes.tmp _ _ _ (by exact rfl) (cc (congrArg Value.bool (by exact(Dv (by assumption)).symm)))⟩
 ·skip
  have c3:(okH l a&&okH l b)=true:=by first |(rw[←Bool.not_eq_false'];exact c1) |simpa using c1
  have hoa:okH l a=true:=(fw c3).1
  have hob:okH l b=true:=(fw c3).2
  have hla:=kq hoa
  have hlb:=kq hob
  refine sk (sq (sq (rg (zm ?_))))
  refine z ?_ (h:=fun Z=>lnS Z gk)
  refine z ?_ (h:=fun Z=>mc Z)
  refine nl (bkk ?_)
  refine bf (fun(k:Nat)=>k≤(hts l a).length) (fun(k:Nat)=>[kV 3 (V.b (.a (.fn 19 []))),kP 4 4 0,kS 10 18 0 ((ka (mF true) (hts l a) (hts l b) k).length),kS 11 25 0 ((hts l b).length),kI 25 (((hts l a).length:Nat):Int),kI 26 ((k:Nat):Int),kO 4 26 1 true [(.slv l.length 1 (isl l):A)],kO 18 3 1 true (pl (isl (ka (mF true) (hts l a) (hts l b) k))),kO 25 3 1 true (pl (isl (hts l b))),kF 40,kF 45]) (fun(k:Nat)=>(hts l a).length-k) ((0:Nat)) (by exact(Nat.zero_le _:0≤_)) (wkf id (wS<|wS<|wE (e:=(vsl (by rfl) rfl))<|wS<|wS<|wE (e:=(aO (by rfl)))<|wX<|wO (e:=aG (fun h=>h) (congrArg isl (by rfl)))<|wP<|wF<|wF<|wN)) ?_
  rintro k inv4
  replace inv4:k≤(hts l a).length:=inv4
  have invk:=inv4
  have hmk:=oe (f:=(mF true)) (y:=hts l b) invk
  refine sq (rg ?_)
  refine z ?_ (h:=fun Z=>ab Z vt vt (bP rfl))
  refine nl (sq ?_)
  refine wi (fun c5=> ?_) (fun c5=> ?_)
  ·skip
   have c5P:=of_decide_eq_true c5
   have hmk1:=oe (f:=(mF true)) (x:=hts l a) (y:=hts l b) (k:=k+1) (by omega)
   refine sk (sq (bkk (sq (rg (zm (za (nl (cg (zdm (zdm (zdm (zdm (zdm ?_)))))))))))))
   refine zd ?_ (h:=fun Z=>ix0 Z gk kC vt (hlt:=(by omega)))
   refine zd ?_ (h:=fun Z=>lI Z kD (by omega))
   refine zdm (zdm ?_)
   refine zd ?_ (h:=fun Z=>ix0 Z gk kC vt (hlt:=(by omega)))
   refine zd ?_ (h:=fun Z=>lI Z kD (by omega))
   refine zd ?_ (h:=fun Z=>cI (d:=40) (f:=19) (t:=31) (caps:=[]) (os:=[]) (os':=[]) (r:=V.v (.int .i64 (mF true (gI (ka (mF true) (hts l a) (hts l b) k) k) (gI (hts l b) k)))) (bs:=[.a (.val (.int .i64 (gI (ka (mF true) (hts l a) (hts l b) k) k))),.a (.val (.int .i64 (gI (hts l b) k)))]) (keep:=[]) (new:=[]) (dead:=[]) Z (FnO.of_fn (pX (gI (ka (mF true) (hts l a) (hts l b) k) k) (gI (hts l b) k) ) (by kernel_rfl)) rfl trivial rfl (ArgOs.cons ((ArgO.v vt)) (ArgOs.cons ((ArgO.v vt)) (ArgOs.nil))))
   refine zd ?_ (h:=fun Z=>ix0 Z gk kC vt (hlt:=(by omega)))
   refine zd ?_ (h:=fun _=>sI kD xt (by omega))
   refine bJ (rg ?_)
   refine z ?_ (h:=fun Z=>ab Z vt vc (rA (by omega) (by omega)))
   refine zm (nl ?_)
   exact ar ((k+1)) (by show _≤_;omega) (by show(hts l a).length-(k+1)<(hts l a).length-k;omega) (wkf id (wS<|wS<|wE (e:=(vsl (by omega) rfl))<|wS<|wS<|wE (e:=(aO (by rfl)))<|wX<|wO (e:=aG (fun h=>h) (congrArg isl (by exact Eq.symm (Av (by omega) (by rw[Au (x:=hts l a) (k:=k) (by omega)])))))<|wP<|wF<|wF<|wN))
  ·skip
   have c5P:=of_decide_eq_false c5
   refine aJ (sq (rg ?_))
   refine z ?_ (h:=fun Z=>aa (xs:=[(.slv l.length 1 (isl l):A)]) Z jq rfl (by decide) rfl)
   refine zm ?_
   refine z ?_ (h:=fun Z=>cS Z (kW l (ka (mF true) (hts l a) (hts l b) k) (by omega) (by omega)) (ac (ArgV.regv _ _ 1 _) (ac (bR (by exact fi _)) an)) (ResV.row _ _ _ _ 45) rv)
   refine z ?_ (h:=fun Z=>az Z (by exact rfl))
   refine z ?_ (h:=fun Z=>az Z (by exact rfl))
   refine za (za (nl (aq ?_)))
   exact⟨VRes.tmp _ _ _ (by exact rfl) (lQ (h:=45) (L:=(pI l (ka (mF true) (hts l a) (hts l b) k))) (by kernel_rfl) (by exact(um (by assumption) (by omega) (by omega)).1.symm) (by rfl)),VRes.tmp _ _ _ (by exact rfl) (cc (congrArg Value.bool (by exact(um (by assumption) (by omega) (by omega)).2.symm)))⟩
theorem sb (l:List Int) (a b:List Dom) (hl:l.length≤4194304) (ha:a.length≤2097152) (hb:b.length≤2097152):Fn Tryz.prog 7 [.agg [(.slv l.length 1 (isl l):A)],.a (.slv a.length 3 (dsl a)),.a (.slv b.length 3 (dsl b))] [.row 54 3 (dq true l a b).length (dsl (dq true l a b)),.val (.bool (tN true l a b))]:=by
 refine aN (N:=14) Tryz.func7 rfl (by kernel_rfl) rfl (Nat.le_of_ble_eq_true rfl) [3,11] (vO rfl rfl (by intro u hu;injection hu with hu;subst hu;rfl)) (fun W=> ?_)
 show Wp _ _ _ [kV 0 (V.b (.agg [(.slv l.length 1 (isl l):A)])),kV 1 (V.b (.a (.slv a.length 3 (dsl a)))),kV 2 (V.b (.a (.slv b.length 3 (dsl b)))),kF 3,kF 11]
 refine sq (rg ?_)
 refine z ?_ (h:=fun Z=>aM (h:=3) Z xt (by exact ob1 rfl))
 refine zk (zk (nl (sq (rg ?_))))
 refine z ?_ (h:=fun Z=>aa (xs:=[(.slv l.length 1 (isl l):A)]) Z jq rfl (by decide) rfl)
 refine zm (zm ?_)
 refine z ?_ (h:=fun Z=>cS Z (ve l a b (by omega) (by omega) (by omega)) (ac (ArgV.regv _ _ 1 _) (ac (ArgV.slv _ _ _ _) (ac (ArgV.slv _ _ _ _) (ac (ArgV.fn 19) an)))) (ResV.row _ _ _ _ 11) rv)
 refine z ?_ (h:=fun Z=>az Z (by exact rfl))
 refine z ?_ (h:=fun Z=>az Z (by exact rfl))
 refine za (za (nl (aq ?_)))
 exact⟨VRes.tmp _ _ _ (by exact rfl) (BRes.row 11 ((dq true l a b).length) _ 3 _ (by kernel_rfl) (by exact bQ _)),VRes.tmp _ _ _ (by exact rfl) (BRes.val _)⟩
end Cl
end Go.Proofs.YtonlghbbdcddoaaGreat
