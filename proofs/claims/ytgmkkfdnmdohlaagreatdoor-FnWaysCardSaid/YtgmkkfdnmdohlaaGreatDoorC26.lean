/- Walks. -/
import Derived.Test.YtgmkkfdnmdohlaaGreatDoorC25
import Derived.Test.YtgmkkfdnmdohlaaGreatDoorClB
set_option linter.unusedSimpArgs false
set_option linter.unusedVariables false
set_option maxHeartbeats 4000000
set_option maxRecDepth 100000
namespace Go.Proofs.YtgmkkfdnmdohlaaGreatDoor
namespace Cl
open Go.ChangeShapes Go.WideShapes Go.ChangeAt Go.RowKit
theorem It {s x y:Nat} (hx:x<7) (hy:y<7) (h:tq s x y=true):uj s=true:=by
 unfold uj
 exact List.any_eq_true.2 ⟨y,List.mem_range.2 hy,List.any_eq_true.2 ⟨x,List.mem_range.2 hx,h⟩⟩
def tqR (s b a:Nat):Bool:=(List.range b).any fun x=>tq s x a
def tqT (s a:Nat):Bool:=(List.range a).any fun y=>tqR s 7 y
theorem FU {s a b:Nat} (h:tqR s b a=false) (h2:tq s b a=false):tqR s (b+1) a=false:=by
 unfold tqR at*;rw[List.range_succ,List.any_append,h];simp [h2]
theorem FV {s a:Nat} (h:tqT s a=false) (h2:tqR s 7 a=false):tqT s (a+1)=false:=by
 unfold tqT at*;rw[List.range_succ,List.any_append,h];simp [h2]
theorem Iz {s:Nat} (h:tqT s 7=false):uj s=false:=h
theorem KF (s x y:Nat):tq s x y=((decide (bO s ⟨x,y⟩=bO s ⟨x+1,y+1⟩)&&decide (bO s ⟨x+1,y⟩=bO s ⟨x,y+1⟩))&& !decide (bO s ⟨x,y⟩=bO s ⟨x+1,y⟩)):=rfl
theorem tq_R {l:List Int} (ho:bj l=true) {x y:Nat} (hx:x<7) (hy:y<7):tq (ao l) x y=((decide (cu l ⟨x,y⟩=cu l ⟨x+1,y+1⟩)&&decide (cu l ⟨x+1,y⟩=cu l ⟨x,y+1⟩))&& !decide (cu l ⟨x,y⟩=cu l ⟨x+1,y⟩)):=by
 rw[KF]
 rw[lS ho (bL.2 (by simp only;omega)),lS ho (bL.2 (by simp only;omega)),lS ho (bL.2 (by simp only;omega)),lS ho (bL.2 (by simp only;omega))]
theorem Jj {l:List Int} (ho:bj l=true) {x y:Nat} (hx:x<7) (hy:y<7):(decide (cu l ⟨x,y⟩=cu l ⟨x+1,y+1⟩)&&(decide (cu l ⟨x+1,y⟩=cu l ⟨x,y+1⟩)&&decide (cu l ⟨x,y⟩≠cu l ⟨x+1,y⟩)))=tq (ao l) x y:=by
 rw[tq_R ho hx hy,Bool.and_assoc,decide_not]
theorem zJ {l:List Int} (h:bj l=false):ms l=false:=by unfold ms;rw[h];rfl
theorem Ky {l:List Int} (h:((pcN l:Nat):Int)≠1):ms l=false:=by
 rcases Bool.eq_false_or_eq_true (bj l)with h1 |h1
 ·rw[AK h1]at h
  unfold ms;rw[decide_eq_false (fun e=>h (by rw[e];rfl)),Bool.false_and,Bool.and_false]
 ·exact zJ h1
theorem Kz {l:List Int} (h:hol l≠0):ms l=false:=by
 rcases Bool.eq_false_or_eq_true (bj l)with h1 |h1
 ·have h2:¬gK (ao l)=1:=fun e=>h (by unfold hol;rw[if_pos h1,e];rfl)
  unfold ms;rw[decide_eq_false h2,Bool.false_and,Bool.and_false,Bool.and_false]
 ·exact zJ h1
theorem KA {l:List Int} (h:uj (ao l)=true):ms l=false:=by
 unfold ms;rw[h];simp
theorem KB {l:List Int} (h1:bj l=true) (h2:¬((pcN l:Nat):Int)≠1) (h3:¬hol l≠0) (h4:uj (ao l)=false):ms l=true:=by
 rw[AK h1]at h2
 have e2:li (ao l)=1:=by omega
 have e3:gK (ao l)=1:=by
  unfold hol at h3;rw[if_pos h1]at h3;omega
 unfold ms;rw[h1,h4,e2,e3];rfl
theorem KC {l:List Int} (h1:bj l=true) (h2:((pcN l:Nat):Int)=1) (h3:hol l=0):ms l= !(uj (ao l)):=by
 cases h4:uj (ao l)
 ·exact KB h1 (by omega) (by omega) h4
 ·exact KA h4
theorem lp:∀ (a b:Int),Tryz.prog.built 70 [(0,.int .i64 a),(1,.int .i64 b)]=some ([.int .i64 a,.int .i64 b]:List Value).toArray:=fun _ _=>rfl
theorem cO:TI Tryz.prog 29 true 1:=⟨⟨_,Tryz.underlying29,rfl⟩,by kernel_rfl⟩
theorem iX:Tryz.prog.underlying 4=some .bool:=Tryz.underlying4
theorem oq (l:List Int) (ho:bj l=true):Fn Tryz.prog 56 [.agg [(.slv l.length 1 (isl l):A)]] [.val (.bool (uj (ao l)))]:=by
 refine bm (N:=56) Tryz.func56 rfl (by kernel_rfl) rfl (Nat.le_of_ble_eq_true rfl) [1,23,29,35,42] (dN rfl) (fun W=> ?_)
 show Wp _ _ _ [kV 0 (V.b (.agg [(.slv l.length 1 (isl l):A)])),kF 1,kF 23,kF 29,kF 35,kF 42]
 refine sq (rg ?_)
 refine z ?_ (h:=fun Z=>bo (h:=1) Z xt (by exact ob1 rfl))
 refine zk (nl (sq (sq (rg (zk (nl (bkk ?_)))))))
 refine bg (fun(a:Nat)=>a≤7∧tqT (ao l) a=false) (fun(a:Nat)=>[kP 1 1 0,kI 3 ((a:Nat):Int),kO 1 29 1 true [(.slv l.length 1 (isl l):A)],kF 23,kF 29,kF 35,kF 42]) (fun(a:Nat)=>7-a) ((0:Nat)) (by exact⟨Nat.zero_le _,rfl⟩) (wkf id (wS<|wE (e:=(be (by rfl)))<|wX<|wF<|wF<|wF<|wF<|wN)) ?_
 rintro a inv1
 replace inv1:a≤7∧tqT (ao l) a=false:=inv1
 obtain⟨inv1_0,inv1_1⟩:=inv1
 refine sq (sq (rg (zm ?_)))
 refine z ?_ (h:=fun Z=>aa Z vt vc (rA (by omega) (by omega)))
 refine z ?_ (h:=fun Z=>aa Z vt vc (bA rfl))
 refine nl ?_
 refine wi (fun c2=> ?_) (fun c2=> ?_)
 ·skip
  have c2P:=of_decide_eq_true c2
  refine sk (sq (bkk (sq (rg (zk (nl (bkk ?_)))))))
  refine bg (fun(b:Nat)=>b≤7∧tqR (ao l) b a=false) (fun(b:Nat)=>[kP 1 1 0,kI 3 ((a:Nat):Int),kI 4 ((b:Nat):Int),kO 1 29 1 true [(.slv l.length 1 (isl l):A)],kF 23,kF 29,kF 35,kF 42]) (fun(b:Nat)=>7-b) ((0:Nat)) (by exact⟨Nat.zero_le _,rfl⟩) (wkf id (wS<|wS<|wE (e:=(be (by rfl)))<|wX<|wF<|wF<|wF<|wF<|wN)) ?_
  rintro b inv3
  replace inv3:b≤7∧tqR (ao l) b a=false:=inv3
  obtain⟨inv3_0,inv3_1⟩:=inv3
  refine sq (sq (rg (zm ?_)))
  refine z ?_ (h:=fun Z=>aa Z vt vc (rA (by omega) (by omega)))
  refine z ?_ (h:=fun Z=>aa Z vt vc (bA rfl))
  refine nl ?_
  refine wi (fun c4=> ?_) (fun c4=> ?_)
  ·skip
   have c4P:=of_decide_eq_true c4
   refine sk (sq (bkk (sq (rg ?_))))
   refine z ?_ (h:=fun Z=>ab (xs:=[(.slv l.length 1 (isl l):A)]) Z cO rfl (by decide) rfl)
   refine zm (zm ?_)
   refine z ?_ (h:=fun Z=>bC Z lp vt vt)
   refine z ?_ (h:=fun Z=>ag Z (bE l (⟨((b:Nat):Int),((a:Nat):Int)⟩:Cel) (by omega) (by exact bL.2 (by simp only;omega))) (ac (ArgV.regv _ _ 1 _) (ac (ArgV.va va) an)) rv)
   refine za (nl (sq (rg ?_)))
   refine z ?_ (h:=fun Z=>ab (xs:=[(.slv l.length 1 (isl l):A)]) Z cO rfl (by decide) rfl)
   refine zm ?_
   refine z ?_ (h:=fun Z=>aa Z vt vc (rA (by omega) (by omega)))
   refine zm ?_
   refine z ?_ (h:=fun Z=>bC Z lp vt vt)
   refine z ?_ (h:=fun Z=>ag Z (bE l (⟨(((b:Nat):Int)+1),((a:Nat):Int)⟩:Cel) (by omega) (by exact bL.2 (by simp only;omega))) (ac (ArgV.regv _ _ 1 _) (ac (ArgV.va va) an)) rv)
   refine za (nl (sq (rg ?_)))
   refine z ?_ (h:=fun Z=>ab (xs:=[(.slv l.length 1 (isl l):A)]) Z cO rfl (by decide) rfl)
   refine zm (zm ?_)
   refine z ?_ (h:=fun Z=>aa Z vt vc (rA (by omega) (by omega)))
   refine z ?_ (h:=fun Z=>bC Z lp vt vt)
   refine z ?_ (h:=fun Z=>ag Z (bE l (⟨((b:Nat):Int),(((a:Nat):Int)+1)⟩:Cel) (by omega) (by exact bL.2 (by simp only;omega))) (ac (ArgV.regv _ _ 1 _) (ac (ArgV.va va) an)) rv)
   refine za (nl (sq (rg ?_)))
   refine z ?_ (h:=fun Z=>ab (xs:=[(.slv l.length 1 (isl l):A)]) Z cO rfl (by decide) rfl)
   refine zm ?_
   refine z ?_ (h:=fun Z=>aa Z vt vc (rA (by omega) (by omega)))
   refine zm ?_
   refine z ?_ (h:=fun Z=>aa Z vt vc (rA (by omega) (by omega)))
   refine z ?_ (h:=fun Z=>bC Z lp vt vt)
   refine z ?_ (h:=fun Z=>ag Z (bE l (⟨(((b:Nat):Int)+1),(((a:Nat):Int)+1)⟩:Cel) (by omega) (by exact bL.2 (by simp only;omega))) (ac (ArgV.regv _ _ 1 _) (ac (ArgV.va va) an)) rv)
   refine za (nl (sq ?_))
   refine rZ [kB 55 ((decide ((cu l (⟨((b:Nat):Int),((a:Nat):Int)⟩:Cel))=(cu l (⟨(((b:Nat):Int)+1),(((a:Nat):Int)+1)⟩:Cel))))&&((decide ((cu l (⟨(((b:Nat):Int)+1),((a:Nat):Int)⟩:Cel))=(cu l (⟨((b:Nat):Int),(((a:Nat):Int)+1)⟩:Cel))))&&(decide ((cu l (⟨((b:Nat):Int),((a:Nat):Int)⟩:Cel))≠(cu l (⟨(((b:Nat):Int)+1),((a:Nat):Int)⟩:Cel)))))),kP 1 1 0,kI 3 ((a:Nat):Int),kI 4 ((b:Nat):Int),kO 1 29 1 true [(.slv l.length 1 (isl l):A)],kF 23,kF 29,kF 35,kF 42] ?_ ?_
   ·skip
    rcases Bool.eq_false_or_eq_true (decide ((cu l (⟨((b:Nat):Int),((a:Nat):Int)⟩:Cel))=(cu l (⟨(((b:Nat):Int)+1),(((a:Nat):Int)+1)⟩:Cel))))with c5 |c5
    ·skip
     have c5P:=of_decide_eq_true c5
     rcases Bool.eq_false_or_eq_true (decide ((cu l (⟨(((b:Nat):Int)+1),((a:Nat):Int)⟩:Cel))=(cu l (⟨((b:Nat):Int),(((a:Nat):Int)+1)⟩:Cel))))with c6 |c6
     ·skip
      have c6P:=of_decide_eq_true c6
      refine rg (zm (zm ?_))
      refine z ?_ (h:=fun Z=>aa Z vt vt (jx (c:=true) iX c5))
      refine zm ?_
      refine zg ?_ (h:=fun Z=>ae rfl rfl (mt Z))
      refine zg ?_ (h:=fun Z=>ae rfl rfl (mt Z))
      refine zg ?_ (h:=fun Z=>ae rfl rfl (aa Z vt vt (jx (c:=true) iX c6)))
      refine z ?_ (h:=fun Z=>au Z vt xt)
      refine zm ?_
      refine zg ?_ (h:=fun Z=>ae rfl rfl (mt Z))
      refine zg ?_ (h:=fun Z=>ae rfl rfl (mt Z))
      refine zg ?_ (h:=fun Z=>ae rfl rfl (aa Z vt vt (zF (c:=(decide ((cu l (⟨((b:Nat):Int),((a:Nat):Int)⟩:Cel))≠(cu l (⟨(((b:Nat):Int)+1),((a:Nat):Int)⟩:Cel))))) iX rfl)))
      refine z ?_ (h:=fun Z=>au Z vt xt)
      refine nl ?_
      exact⟨rfl,dM ⟨(by simp only[c5,c6];first |done |kernel_rfl),(by repeat(first |exact trivial |refine⟨by kernel_rfl,?_⟩))⟩⟩
     ·skip
      have c6P:=of_decide_eq_false c6
      refine rg (zm (zm ?_))
      refine z ?_ (h:=fun Z=>aa Z vt vt (jx (c:=true) iX c5))
      refine zm ?_
      refine zg ?_ (h:=fun Z=>ae rfl rfl (mt Z))
      refine zg ?_ (h:=fun Z=>ae rfl rfl (mt Z))
      refine zg ?_ (h:=fun Z=>ae rfl rfl (aa Z vt vt (jx (c:=false) iX c6)))
      refine z ?_ (h:=fun Z=>au Z vt xt)
      refine zm (zo (zo (zo ?_)))
      refine z ?_ (h:=fun Z=>ar Z vt xc)
      refine nl ?_
      exact⟨rfl,dM ⟨(by simp only[c5,c6];first |done |kernel_rfl),(by repeat(first |exact trivial |refine⟨by kernel_rfl,?_⟩))⟩⟩
    ·skip
     have c5P:=of_decide_eq_false c5
     refine rg (zm (zm ?_))
     refine z ?_ (h:=fun Z=>aa Z vt vt (jx (c:=false) iX c5))
     refine zm (zo (zo (zo ?_)))
     refine z ?_ (h:=fun Z=>ar Z vt xc)
     refine zm (zo (zo (zo ?_)))
     refine z ?_ (h:=fun Z=>ar Z vt xc)
     refine nl ?_
     exact⟨rfl,dM ⟨(by simp only[c5];first |done |kernel_rfl),(by repeat(first |exact trivial |refine⟨by kernel_rfl,?_⟩))⟩⟩
   refine wi (b:=((decide ((cu l (⟨((b:Nat):Int),((a:Nat):Int)⟩:Cel))=(cu l (⟨(((b:Nat):Int)+1),(((a:Nat):Int)+1)⟩:Cel))))&&((decide ((cu l (⟨(((b:Nat):Int)+1),((a:Nat):Int)⟩:Cel))=(cu l (⟨((b:Nat):Int),(((a:Nat):Int)+1)⟩:Cel))))&&(decide ((cu l (⟨((b:Nat):Int),((a:Nat):Int)⟩:Cel))≠(cu l (⟨(((b:Nat):Int)+1),((a:Nat):Int)⟩:Cel))))))) (fun c7=> ?_) (fun c7=> ?_)
   ·skip
    obtain⟨c8,c9⟩:=yN c7
    have c8P:=of_decide_eq_true c8
    obtain⟨c10,c11⟩:=yN c9
    have c10P:=of_decide_eq_true c10
    have c11P:=of_decide_eq_true c11
    refine sq (rg (zk (nl (aC ?_))))
    exact VRes.tmp _ _ _ (by exact rfl) (ce (congrArg Value.bool (by exact(It (x:=b) (y:=a) (by omega) (by omega) ((Jj ho (by omega) (by omega)).symm.trans (by assumption))).symm)))
   ·skip
    have c12:=Df c7
    refine sk (rg (zm ?_))
    refine z ?_ (h:=fun Z=>aa Z vt vc (rA (by omega) (by omega)))
    refine za (nl ?_)
    exact aA ((b+1)) (by exact⟨by omega,FU (by assumption) ((Jj ho (by omega) (by omega)).symm.trans (by assumption))⟩) (by show 7-(b+1)<7-b;omega) (wkf id (wS<|wS<|wE (e:=(be (by rfl)))<|wX<|wF<|wF<|wF<|wF<|wN))
  ·skip
   have c4P:=of_decide_eq_false c4
   refine aU (rg (zm ?_))
   refine z ?_ (h:=fun Z=>aa Z vt vc (rA (by omega) (by omega)))
   refine za (nl ?_)
   exact aA ((a+1)) (by(have e:b=7:=by omega);subst e;exact⟨by omega,FV (by assumption) (by assumption)⟩) (by show 7-(a+1)<7-a;omega) (wkf id (wS<|wE (e:=(be (by rfl)))<|wX<|wF<|wF<|wF<|wF<|wN))
 ·skip
  have c2P:=of_decide_eq_false c2
  refine aU (sq (rg (zk (nl (aC ?_)))))
  exact VRes.tmp _ _ _ (by exact rfl) (ce (congrArg Value.bool (by((have e:a=7:=by omega);subst e;exact(Iz (by assumption)).symm))))
theorem bV (l:List Int) (hl:l.length≤4194304):Fn Tryz.prog 27 [.agg [(.slv l.length 1 (isl l):A)]] [.val (.bool (ms l))]:=by
 refine bm (N:=20) Tryz.func27 rfl (by kernel_rfl) rfl (Nat.le_of_ble_eq_true rfl) [1,4,7,12,17] (dN rfl) (fun W=> ?_)
 show Wp _ _ _ [kV 0 (V.b (.agg [(.slv l.length 1 (isl l):A)])),kF 1,kF 4,kF 7,kF 12,kF 17]
 refine sq (rg ?_)
 refine z ?_ (h:=fun Z=>bo (h:=1) Z xt (by exact ob1 rfl))
 refine zk (nl (sq ?_))
 rcases Bool.eq_false_or_eq_true ((bj l))with c1 |c1
 ·skip
  rcases Bool.eq_false_or_eq_true (decide ((((pcN l):Nat):Int)=1))with c2 |c2
  ·skip
   have c2P:=of_decide_eq_true c2
   rcases Bool.eq_false_or_eq_true (decide ((hol l)=0))with c3 |c3
   ·skip
    have c3P:=of_decide_eq_true c3
    refine rg ?_
    refine z ?_ (h:=fun Z=>ab (xs:=[(.slv l.length 1 (isl l):A)]) Z cO rfl (by decide) rfl)
    refine z ?_ (h:=fun Z=>ag Z (bH l (by omega)) (ac (ArgV.regv _ _ 1 _) an) (bi (congrArg Value.bool c1)))
    refine zm ?_
    refine zg ?_ (h:=fun Z=>ae rfl rfl (ab (xs:=[(.slv l.length 1 (isl l):A)]) Z cO rfl (by decide) rfl))
    refine zg ?_ (h:=fun Z=>ae rfl rfl (ag Z (fD l (by omega)) (ac (ArgV.regv _ _ 1 _) an) rv))
    refine zg ?_ (h:=fun Z=>ae rfl rfl (aa Z vt vc (ct (c:=true) c2)))
    refine z ?_ (h:=fun Z=>au Z vt xt)
    refine zm ?_
    refine zg ?_ (h:=fun Z=>ae rfl rfl (ab (xs:=[(.slv l.length 1 (isl l):A)]) Z cO rfl (by decide) rfl))
    refine zg ?_ (h:=fun Z=>ae rfl rfl (ag Z (jB l (by omega)) (ac (ArgV.regv _ _ 1 _) an) rv))
    refine zg ?_ (h:=fun Z=>ae rfl rfl (aa Z vt vc (ct (c:=true) c3)))
    refine z ?_ (h:=fun Z=>au Z vt xt)
    refine zm ?_
    refine zg ?_ (h:=fun Z=>ae rfl rfl (ab (xs:=[(.slv l.length 1 (isl l):A)]) Z cO rfl (by decide) rfl))
    refine zg ?_ (h:=fun Z=>ae rfl rfl (ag Z (oq l (by omega)) (ac (ArgV.regv _ _ 1 _) an) rv))
    refine zg ?_ (h:=fun Z=>ae rfl rfl (bn Z vt (bS rfl)))
    refine z ?_ (h:=fun Z=>au Z vt xt)
    refine za (nl (aC ?_))
    exact VRes.tmp _ _ _ (by exact rfl) (ce (congrArg Value.bool (by(rw[KC (by assumption) (by assumption) (by assumption)];first |done |(simp_all;done)))))
   ·skip
    have c3P:=of_decide_eq_false c3
    refine rg ?_
    refine z ?_ (h:=fun Z=>ab (xs:=[(.slv l.length 1 (isl l):A)]) Z cO rfl (by decide) rfl)
    refine z ?_ (h:=fun Z=>ag Z (bH l (by omega)) (ac (ArgV.regv _ _ 1 _) an) (bi (congrArg Value.bool c1)))
    refine zm ?_
    refine zg ?_ (h:=fun Z=>ae rfl rfl (ab (xs:=[(.slv l.length 1 (isl l):A)]) Z cO rfl (by decide) rfl))
    refine zg ?_ (h:=fun Z=>ae rfl rfl (ag Z (fD l (by omega)) (ac (ArgV.regv _ _ 1 _) an) rv))
    refine zg ?_ (h:=fun Z=>ae rfl rfl (aa Z vt vc (ct (c:=true) c2)))
    refine z ?_ (h:=fun Z=>au Z vt xt)
    refine zm ?_
    refine zg ?_ (h:=fun Z=>ae rfl rfl (ab (xs:=[(.slv l.length 1 (isl l):A)]) Z cO rfl (by decide) rfl))
    refine zg ?_ (h:=fun Z=>ae rfl rfl (ag Z (jB l (by omega)) (ac (ArgV.regv _ _ 1 _) an) rv))
    refine zg ?_ (h:=fun Z=>ae rfl rfl (aa Z vt vc (ct (c:=false) c3)))
    refine z ?_ (h:=fun Z=>au Z vt xt)
    refine zm (zo (zo (zo ?_)))
    refine z ?_ (h:=fun Z=>ar Z vt xc)
    refine za (nl (aC ?_))
    exact VRes.tmp _ _ _ (by exact rfl) (ce (congrArg Value.bool (by exact(Kz (by assumption)).symm)))
  ·skip
   have c2P:=of_decide_eq_false c2
   refine rg ?_
   refine z ?_ (h:=fun Z=>ab (xs:=[(.slv l.length 1 (isl l):A)]) Z cO rfl (by decide) rfl)
   refine z ?_ (h:=fun Z=>ag Z (bH l (by omega)) (ac (ArgV.regv _ _ 1 _) an) (bi (congrArg Value.bool c1)))
   refine zm ?_
   refine zg ?_ (h:=fun Z=>ae rfl rfl (ab (xs:=[(.slv l.length 1 (isl l):A)]) Z cO rfl (by decide) rfl))
   refine zg ?_ (h:=fun Z=>ae rfl rfl (ag Z (fD l (by omega)) (ac (ArgV.regv _ _ 1 _) an) rv))
   refine zg ?_ (h:=fun Z=>ae rfl rfl (aa Z vt vc (ct (c:=false) c2)))
   refine z ?_ (h:=fun Z=>au Z vt xt)
   refine zm (zo (zo (zo ?_)))
   refine z ?_ (h:=fun Z=>ar Z vt xc)
   refine zm (zo (zo (zo ?_)))
   refine z ?_ (h:=fun Z=>ar Z vt xc)
   refine za (nl (aC ?_))
   exact VRes.tmp _ _ _ (by exact rfl) (ce (congrArg Value.bool (by exact(Ky (by assumption)).symm)))
 ·skip
  refine rg ?_
  refine z ?_ (h:=fun Z=>ab (xs:=[(.slv l.length 1 (isl l):A)]) Z cO rfl (by decide) rfl)
  refine z ?_ (h:=fun Z=>ag Z (bH l (by omega)) (ac (ArgV.regv _ _ 1 _) an) (bi (congrArg Value.bool c1)))
  refine zm (zo (zo (zo ?_)))
  refine z ?_ (h:=fun Z=>ar Z vt xc)
  refine zm (zo (zo (zo ?_)))
  refine z ?_ (h:=fun Z=>ar Z vt xc)
  refine zm (zo (zo (zo ?_)))
  refine z ?_ (h:=fun Z=>ar Z vt xc)
  refine za (nl (aC ?_))
  exact VRes.tmp _ _ _ (by exact rfl) (ce (congrArg Value.bool (by exact(zJ (by assumption)).symm)))
end Cl
end Go.Proofs.YtgmkkfdnmdohlaaGreatDoor
