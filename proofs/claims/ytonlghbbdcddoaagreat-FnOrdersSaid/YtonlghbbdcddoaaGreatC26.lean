/- Walks. -/
import Derived.Test.YtonlghbbdcddoaaGreatC25
import Derived.Test.YtonlghbbdcddoaaGreatClB
set_option maxHeartbeats 4000000
set_option maxRecDepth 100000
namespace Go.Proofs.YtonlghbbdcddoaaGreat
namespace Cl
open Go.ChangeShapes Go.WideShapes Go.ChangeAt Go.RowKit
theorem Eb {s x y:Nat} (hx:x<7) (hy:y<7) (h:tq s x y=true):rz s=true:=by
 unfold rz
 exact List.any_eq_true.2 ⟨y,List.mem_range.2 hy,List.any_eq_true.2 ⟨x,List.mem_range.2 hx,h⟩⟩
def tqR (s b a:Nat):Bool:=(List.range b).any fun x=>tq s x a
def tqT (s a:Nat):Bool:=(List.range a).any fun y=>tqR s 7 y
theorem Bo {s a b:Nat} (h:tqR s b a=false) (h2:tq s b a=false):tqR s (b+1) a=false:=by
 unfold tqR at*;rw[List.range_succ,List.any_append,h];simp [h2]
theorem Bp {s a:Nat} (h:tqT s a=false) (h2:tqR s 7 a=false):tqT s (a+1)=false:=by
 unfold tqT at*;rw[List.range_succ,List.any_append,h];simp [h2]
theorem En {s:Nat} (h:tqT s 7=false):rz s=false:=h
theorem Jc (s x y:Nat):tq s x y=((decide (aP s ⟨x,y⟩=aP s ⟨x+1,y+1⟩)&&decide (aP s ⟨x+1,y⟩=aP s ⟨x,y+1⟩))&& !decide (aP s ⟨x,y⟩=aP s ⟨x+1,y⟩)):=rfl
theorem tq_R {l:List Int} (ho:aU l=true) {x y:Nat} (hx:x<7) (hy:y<7):tq (ag l) x y=((decide (dm l ⟨x,y⟩=dm l ⟨x+1,y+1⟩)&&decide (dm l ⟨x+1,y⟩=dm l ⟨x,y+1⟩))&& !decide (dm l ⟨x,y⟩=dm l ⟨x+1,y⟩)):=by
 rw[Jc]
 rw[nR ho (bz.2 (by simp only;omega)),nR ho (bz.2 (by simp only;omega)),nR ho (bz.2 (by simp only;omega)),nR ho (bz.2 (by simp only;omega))]
theorem tq_j (s x y:Nat):(decide (aP s ⟨x,y⟩=aP s ⟨x+1,y+1⟩)&&(decide (aP s ⟨x+1,y⟩=aP s ⟨x,y+1⟩)&&decide (aP s ⟨x,y⟩≠aP s ⟨x+1,y⟩)))=tq s x y:=by
 rw[Jc,Bool.and_assoc,decide_not]
theorem LY {l:List Int} (ho:aU l=true) {x y:Nat} (hx:x<7) (hy:y<7):(decide (dm l ⟨x,y⟩=dm l ⟨x+1,y+1⟩)&&(decide (dm l ⟨x+1,y⟩=dm l ⟨x,y+1⟩)&&decide (dm l ⟨x,y⟩≠dm l ⟨x+1,y⟩)))=tq (ag l) x y:=by
 rw[tq_R ho hx hy,Bool.and_assoc,decide_not]
theorem zh {l:List Int} (h:aU l=false):cu l=false:=by unfold cu;rw[h];rfl
theorem IE {l:List Int} (h:((pcN l:Nat):Int)≠1):cu l=false:=by
 rcases Bool.eq_false_or_eq_true (aU l)with h1 |h1
 ·rw[yX h1]at h
  unfold cu;rw[decide_eq_false (fun e=>h (by rw[e];rfl)),Bool.false_and,Bool.and_false]
 ·exact zh h1
theorem IG {l:List Int} (h:hol l≠0):cu l=false:=by
 rcases Bool.eq_false_or_eq_true (aU l)with h1 |h1
 ·have h2:¬ii (ag l)=1:=fun e=>h (by unfold hol;rw[if_pos h1,e];rfl)
  unfold cu;rw[decide_eq_false h2,Bool.false_and,Bool.and_false,Bool.and_false]
 ·exact zh h1
theorem IH {l:List Int} (h:rz (ag l)=true):cu l=false:=by
 unfold cu;rw[h];simp
theorem II {l:List Int} (h1:aU l=true) (h2:¬((pcN l:Nat):Int)≠1) (h3:¬hol l≠0) (h4:rz (ag l)=false):cu l=true:=by
 rw[yX h1]at h2
 have e2:fV (ag l)=1:=by omega
 have e3:ii (ag l)=1:=by
  unfold hol at h3;rw[if_pos h1]at h3;omega
 unfold cu;rw[h1,h4,e2,e3];rfl
theorem Nw {l:List Int} (h:((!(aU l))||(decide (((pcN l:Nat):Int)≠1)||decide (hol l≠0)))=true):cu l=false:=by
 simp only[Bool.or_eq_true,Bool.not_eq_true',decide_eq_true_eq]at h
 rcases h with h |h |h
 ·exact zh h
 ·exact IE h
 ·exact IG h
theorem Nv {l:List Int} (h1:aU l=true) (h2:((pcN l:Nat):Int)=1) (h3:hol l=0):cu l= !(rz (ag l)):=by
 cases h4:rz (ag l)
 ·exact II h1 (by omega) (by omega) h4
 ·exact IH h4
theorem gi:∀ (a b:Int),Tryz.prog.built 67 [(0,.int .i64 a),(1,.int .i64 b)]=some ([.int .i64 a,.int .i64 b]:List Value).toArray:=fun _ _=>rfl
theorem cr:TI Tryz.prog 26 true 1:=⟨⟨_,Tryz.underlying26,rfl⟩,by kernel_rfl⟩
theorem eM:Tryz.prog.underlying 4=some .bool:=Tryz.underlying4
theorem dV (l:List Int) (hl:l.length≤4194304):Fn Tryz.prog 33 [.agg [(.slv l.length 1 (isl l):A)]] [.val (.bool (cu l))]:=by
 refine aN (N:=70) Tryz.func33 rfl (by kernel_rfl) rfl (Nat.le_of_ble_eq_true rfl) [1,11,15,20,24,35,41,47,54] (dB rfl) (fun W=> ?_)
 show Wp _ _ _ [kV 0 (V.b (.agg [(.slv l.length 1 (isl l):A)])),kF 1,kF 11,kF 15,kF 20,kF 24,kF 35,kF 41,kF 47,kF 54]
 refine sq (rg ?_)
 refine z ?_ (h:=fun Z=>aM (h:=1) Z xt (by exact ob1 rfl))
 refine zk (nl (sq (sq ?_)))
 refine fj [kB 22 ((!(aU l))||((decide ((((pcN l):Nat):Int)≠1))||(decide ((hol l)≠0)))),kP 1 1 0,kO 1 26 1 true [(.slv l.length 1 (isl l):A)],kF 11,kF 15,kF 20,kF 24,kF 35,kF 41,kF 47,kF 54] ?_ ?_
 ·skip
  rcases Bool.eq_false_or_eq_true ((aU l))with c1 |c1
  ·skip
   rcases Bool.eq_false_or_eq_true (decide ((((pcN l):Nat):Int)≠1))with c2 |c2
   ·skip
    have c2P:=of_decide_eq_true c2
    refine rg ?_
    refine z ?_ (h:=fun Z=>aa (xs:=[(.slv l.length 1 (isl l):A)]) Z cr rfl (by decide) rfl)
    refine z ?_ (h:=fun Z=>ah Z (df l (by omega)) (ac (ArgV.regv _ _ 1 _) an) (aH (congrArg Value.bool c1)))
    refine z ?_ (h:=fun Z=>aK Z vt (bE (c:=false) rfl))
    refine zm ?_
    refine zg ?_ (h:=fun Z=>ae rfl rfl (aa (xs:=[(.slv l.length 1 (isl l):A)]) Z cr rfl (by decide) rfl))
    refine zg ?_ (h:=fun Z=>ae rfl rfl (ah Z (kh l (by omega)) (ac (ArgV.regv _ _ 1 _) an) rv))
    refine zg ?_ (h:=fun Z=>ae rfl rfl (ab Z vt vc (iZ (c:=true) c2)))
    refine z ?_ (h:=fun Z=>ao Z vt xt)
    refine zm (zo (zo (zo ?_)))
    refine z ?_ (h:=fun Z=>al Z vt xc)
    refine nl ?_
    exact⟨rfl,bm ⟨(by simp only[c1,c2];first |done |kernel_rfl),(by repeat(first |exact trivial |refine⟨by kernel_rfl,?_⟩))⟩⟩
   ·skip
    have c2P:=of_decide_eq_false c2
    refine rg ?_
    refine z ?_ (h:=fun Z=>aa (xs:=[(.slv l.length 1 (isl l):A)]) Z cr rfl (by decide) rfl)
    refine z ?_ (h:=fun Z=>ah Z (df l (by omega)) (ac (ArgV.regv _ _ 1 _) an) (aH (congrArg Value.bool c1)))
    refine z ?_ (h:=fun Z=>aK Z vt (bE (c:=false) rfl))
    refine zm ?_
    refine zg ?_ (h:=fun Z=>ae rfl rfl (aa (xs:=[(.slv l.length 1 (isl l):A)]) Z cr rfl (by decide) rfl))
    refine zg ?_ (h:=fun Z=>ae rfl rfl (ah Z (kh l (by omega)) (ac (ArgV.regv _ _ 1 _) an) rv))
    refine zg ?_ (h:=fun Z=>ae rfl rfl (ab Z vt vc (iZ (c:=false) c2)))
    refine z ?_ (h:=fun Z=>ao Z vt xt)
    refine zm ?_
    refine zg ?_ (h:=fun Z=>ae rfl rfl (aa (xs:=[(.slv l.length 1 (isl l):A)]) Z cr rfl (by decide) rfl))
    refine zg ?_ (h:=fun Z=>ae rfl rfl (ah Z (pV l (by omega)) (ac (ArgV.regv _ _ 1 _) an) rv))
    refine zg ?_ (h:=fun Z=>ae rfl rfl (ab Z vt vc (iZ rfl)))
    refine z ?_ (h:=fun Z=>ao Z vt xt)
    refine nl ?_
    exact⟨rfl,bm ⟨(by simp only[c1,c2];first |done |kernel_rfl),(by repeat(first |exact trivial |refine⟨by kernel_rfl,?_⟩))⟩⟩
  ·skip
   refine rg ?_
   refine z ?_ (h:=fun Z=>aa (xs:=[(.slv l.length 1 (isl l):A)]) Z cr rfl (by decide) rfl)
   refine z ?_ (h:=fun Z=>ah Z (df l (by omega)) (ac (ArgV.regv _ _ 1 _) an) (aH (congrArg Value.bool c1)))
   refine z ?_ (h:=fun Z=>aK Z vt (bE (c:=true) rfl))
   refine zm (zo (zo (zo ?_)))
   refine z ?_ (h:=fun Z=>al Z vt xc)
   refine zm (zo (zo (zo ?_)))
   refine z ?_ (h:=fun Z=>al Z vt xc)
   refine nl ?_
   exact⟨rfl,bm ⟨(by simp only[c1];first |done |kernel_rfl),(by repeat(first |exact trivial |refine⟨by kernel_rfl,?_⟩))⟩⟩
 refine wi (b:=((!(aU l))||((decide ((((pcN l):Nat):Int)≠1))||(decide ((hol l)≠0))))) (fun c3=> ?_) (fun c3=> ?_)
 ·skip
  have c4:=tj c3
  refine sq (rg (zk (nl (aq ?_))))
  exact VRes.tmp _ _ _ (by exact rfl) (cc (congrArg Value.bool (by exact(Nw (by assumption)).symm)))
 ·skip
  obtain⟨c5,c6⟩:=ly c3
  have c7:(aU l)=true:=by first |(rw[←Bool.not_eq_false'];exact c5) |simpa using c5
  obtain⟨c8,c9⟩:=ly c6
  have c8P:=of_decide_eq_false c8
  have c9P:=of_decide_eq_false c9
  refine sk (sq (rg ?_))
  refine z ?_ (h:=fun Z=>aa (xs:=[(.slv l.length 1 (isl l):A)]) Z cr rfl (by decide) rfl)
  refine z ?_ (h:=fun Z=>ah Z (cA l (by omega)) (ac (ArgV.regv _ _ 1 _) an) rv)
  refine za (nl (sq (sq (rg ?_))))
  refine z ?_ (h:=fun Z=>mc Z)
  refine nl (bkk ?_)
  refine bf (fun(a:Nat)=>a≤7∧tqT (ag l) a=false) (fun(a:Nat)=>[kU 3 (((ag l):Nat):Int),kI 25 ((a:Nat):Int),kF 1,kF 11,kF 15,kF 20,kF 24,kF 35,kF 41,kF 47,kF 54]) (fun(a:Nat)=>7-a) ((0:Nat)) (by exact⟨Nat.zero_le _,rfl⟩) (wkf id (wS<|wE (e:=(aO (by rfl)))<|by(iterate 9 refine wF ?_);exact wN)) ?_
  rintro a inv10
  replace inv10:a≤7∧tqT (ag l) a=false:=inv10
  obtain⟨inv10_0,inv10_1⟩:=inv10
  refine sq (rg ?_)
  refine z ?_ (h:=fun Z=>ab Z vt vc (bP rfl))
  refine nl (sq ?_)
  refine wi (fun c11=> ?_) (fun c11=> ?_)
  ·skip
   have c11P:=of_decide_eq_true c11
   refine sk (sq (bkk (sq (rg (zm (za (nl (sq (rg ?_)))))))))
   refine z ?_ (h:=fun Z=>mc Z)
   refine nl (bkk ?_)
   refine bf (fun(b:Nat)=>b≤7∧tqR (ag l) b a=false) (fun(b:Nat)=>[kU 3 (((ag l):Nat):Int),kI 4 ((a:Nat):Int),kI 25 ((a:Nat):Int),kI 28 ((b:Nat):Int),kF 1,kF 11,kF 15,kF 20,kF 24,kF 35,kF 41,kF 47,kF 54]) (fun(b:Nat)=>7-b) ((0:Nat)) (by exact⟨Nat.zero_le _,rfl⟩) (wkf id (wS<|wS<|wS<|wE (e:=(aO (by rfl)))<|by(iterate 9 refine wF ?_);exact wN)) ?_
   rintro b inv12
   replace inv12:b≤7∧tqR (ag l) b a=false:=inv12
   obtain⟨inv12_0,inv12_1⟩:=inv12
   refine sq (rg ?_)
   refine z ?_ (h:=fun Z=>ab Z vt vc (bP rfl))
   refine nl (sq ?_)
   refine wi (fun c13=> ?_) (fun c13=> ?_)
   ·skip
    have c13P:=of_decide_eq_true c13
    refine sk (sq (bkk (sq (rg (zm (za (nl (sq (rg (zm (zm (zm ?_))))))))))))
    refine z ?_ (h:=fun Z=>bC Z gi vt vt)
    refine z ?_ (h:=fun Z=>ah Z (bc (ag l) (⟨((b:Nat):Int),((a:Nat):Int)⟩:Cel) (by exact bb (by assumption))) (ac (ArgV.v vt) (ac (ArgV.va va) an)) rv)
    refine zm (zm ?_)
    refine z ?_ (h:=fun Z=>ab Z vt vc (rA (by omega) (by omega)))
    refine zm ?_
    refine z ?_ (h:=fun Z=>bC Z gi vt vt)
    refine z ?_ (h:=fun Z=>ah Z (bc (ag l) (⟨(((b:Nat):Int)+1),((a:Nat):Int)⟩:Cel) (by exact bb (by assumption))) (ac (ArgV.v vt) (ac (ArgV.va va) an)) rv)
    refine zm (zm (zm ?_))
    refine z ?_ (h:=fun Z=>ab Z vt vc (rA (by omega) (by omega)))
    refine z ?_ (h:=fun Z=>bC Z gi vt vt)
    refine z ?_ (h:=fun Z=>ah Z (bc (ag l) (⟨((b:Nat):Int),(((a:Nat):Int)+1)⟩:Cel) (by exact bb (by assumption))) (ac (ArgV.v vt) (ac (ArgV.va va) an)) rv)
    refine zm (zm ?_)
    refine z ?_ (h:=fun Z=>ab Z vt vc (rA (by omega) (by omega)))
    refine zm ?_
    refine z ?_ (h:=fun Z=>ab Z vt vc (rA (by omega) (by omega)))
    refine z ?_ (h:=fun Z=>bC Z gi vt vt)
    refine z ?_ (h:=fun Z=>ah Z (bc (ag l) (⟨(((b:Nat):Int)+1),(((a:Nat):Int)+1)⟩:Cel) (by exact bb (by assumption))) (ac (ArgV.v vt) (ac (ArgV.va va) an)) rv)
    refine za (za (za (za (nl (sq ?_)))))
    refine fj [kB 67 ((decide ((aP (ag l) (⟨((b:Nat):Int),((a:Nat):Int)⟩:Cel))=(aP (ag l) (⟨(((b:Nat):Int)+1),(((a:Nat):Int)+1)⟩:Cel))))&&((decide ((aP (ag l) (⟨(((b:Nat):Int)+1),((a:Nat):Int)⟩:Cel))=(aP (ag l) (⟨((b:Nat):Int),(((a:Nat):Int)+1)⟩:Cel))))&&(decide ((aP (ag l) (⟨((b:Nat):Int),((a:Nat):Int)⟩:Cel))≠(aP (ag l) (⟨(((b:Nat):Int)+1),((a:Nat):Int)⟩:Cel)))))),kU 3 (((ag l):Nat):Int),kI 4 ((a:Nat):Int),kI 25 ((a:Nat):Int),kI 28 ((b:Nat):Int),kF 1,kF 11,kF 15,kF 20,kF 24,kF 35,kF 41,kF 47,kF 54] ?_ ?_
    ·skip
     rcases Bool.eq_false_or_eq_true (decide ((aP (ag l) (⟨((b:Nat):Int),((a:Nat):Int)⟩:Cel))=(aP (ag l) (⟨(((b:Nat):Int)+1),(((a:Nat):Int)+1)⟩:Cel))))with c14 |c14
     ·skip
      have c14P:=of_decide_eq_true c14
      rcases Bool.eq_false_or_eq_true (decide ((aP (ag l) (⟨(((b:Nat):Int)+1),((a:Nat):Int)⟩:Cel))=(aP (ag l) (⟨((b:Nat):Int),(((a:Nat):Int)+1)⟩:Cel))))with c15 |c15
      ·skip
       have c15P:=of_decide_eq_true c15
       refine rg (zm (zm ?_))
       refine z ?_ (h:=fun Z=>ab Z vt vt (ke (c:=true) eM c14))
       refine zm ?_
       refine zg ?_ (h:=fun Z=>ae rfl rfl (mt Z))
       refine zg ?_ (h:=fun Z=>ae rfl rfl (mt Z))
       refine zg ?_ (h:=fun Z=>ae rfl rfl (ab Z vt vt (ke (c:=true) eM c15)))
       refine z ?_ (h:=fun Z=>al Z vt xt)
       refine zm ?_
       refine zg ?_ (h:=fun Z=>ae rfl rfl (mt Z))
       refine zg ?_ (h:=fun Z=>ae rfl rfl (mt Z))
       refine zg ?_ (h:=fun Z=>ae rfl rfl (ab Z vt vt (Ih (c:=(decide ((aP (ag l) (⟨((b:Nat):Int),((a:Nat):Int)⟩:Cel))≠(aP (ag l) (⟨(((b:Nat):Int)+1),((a:Nat):Int)⟩:Cel))))) eM rfl)))
       refine z ?_ (h:=fun Z=>al Z vt xt)
       refine nl ?_
       exact⟨rfl,bm ⟨(by simp only[c14,c15];first |done |kernel_rfl),(by repeat(first |exact trivial |refine⟨by kernel_rfl,?_⟩))⟩⟩
      ·skip
       have c15P:=of_decide_eq_false c15
       refine rg (zm (zm ?_))
       refine z ?_ (h:=fun Z=>ab Z vt vt (ke (c:=true) eM c14))
       refine zm ?_
       refine zg ?_ (h:=fun Z=>ae rfl rfl (mt Z))
       refine zg ?_ (h:=fun Z=>ae rfl rfl (mt Z))
       refine zg ?_ (h:=fun Z=>ae rfl rfl (ab Z vt vt (ke (c:=false) eM c15)))
       refine z ?_ (h:=fun Z=>al Z vt xt)
       refine zm (zo (zo (zo ?_)))
       refine z ?_ (h:=fun Z=>ao Z vt xc)
       refine nl ?_
       exact⟨rfl,bm ⟨(by simp only[c14,c15];first |done |kernel_rfl),(by repeat(first |exact trivial |refine⟨by kernel_rfl,?_⟩))⟩⟩
     ·skip
      have c14P:=of_decide_eq_false c14
      refine rg (zm (zm ?_))
      refine z ?_ (h:=fun Z=>ab Z vt vt (ke (c:=false) eM c14))
      refine zm (zo (zo (zo ?_)))
      refine z ?_ (h:=fun Z=>ao Z vt xc)
      refine zm (zo (zo (zo ?_)))
      refine z ?_ (h:=fun Z=>ao Z vt xc)
      refine nl ?_
      exact⟨rfl,bm ⟨(by simp only[c14];first |done |kernel_rfl),(by repeat(first |exact trivial |refine⟨by kernel_rfl,?_⟩))⟩⟩
    refine wi (b:=((decide ((aP (ag l) (⟨((b:Nat):Int),((a:Nat):Int)⟩:Cel))=(aP (ag l) (⟨(((b:Nat):Int)+1),(((a:Nat):Int)+1)⟩:Cel))))&&((decide ((aP (ag l) (⟨(((b:Nat):Int)+1),((a:Nat):Int)⟩:Cel))=(aP (ag l) (⟨((b:Nat):Int),(((a:Nat):Int)+1)⟩:Cel))))&&(decide ((aP (ag l) (⟨((b:Nat):Int),((a:Nat):Int)⟩:Cel))≠(aP (ag l) (⟨(((b:Nat):Int)+1),((a:Nat):Int)⟩:Cel))))))) (fun c16=> ?_) (fun c16=> ?_)
    ·skip
     obtain⟨c17,c18⟩:=fw c16
     have c17P:=of_decide_eq_true c17
     obtain⟨c19,c20⟩:=fw c18
     have c19P:=of_decide_eq_true c19
     have c20P:=of_decide_eq_true c20
     refine sq (rg (zk (nl (aq ?_))))
     exact VRes.tmp _ _ _ (by exact rfl) (cc (congrArg Value.bool (by exact(IH (Eb (x:=b) (y:=a) (by omega) (by omega) ((tq_j _ _ _).symm.trans (by assumption)))).symm)))
    ·skip
     have c21:=lM c16
     refine sk (rg ?_)
     refine z ?_ (h:=fun Z=>ab Z vt vc (rA (by omega) (by omega)))
     refine zm (nl ?_)
     exact ar ((b+1)) (by exact⟨by omega,Bo (by assumption) ((tq_j _ _ _).symm.trans (by assumption))⟩) (by show 7-(b+1)<7-b;omega) (wkf id (wS<|wS<|wS<|wE (e:=(aO (by rfl)))<|by(iterate 9 refine wF ?_);exact wN))
   ·skip
    have c13P:=of_decide_eq_false c13
    refine aJ (rg ?_)
    refine z ?_ (h:=fun Z=>ab Z vt vc (rA (by omega) (by omega)))
    refine zm (nl ?_)
    exact ar ((a+1)) (by(have e:b=7:=by omega);subst e;exact⟨by omega,Bp (by assumption) (by assumption)⟩) (by show 7-(a+1)<7-a;omega) (wkf id (wS<|wE (e:=(aO (by rfl)))<|by(iterate 9 refine wF ?_);exact wN))
  ·skip
   have c11P:=of_decide_eq_false c11
   refine aJ (sq (rg (zk (nl (aq ?_)))))
   exact VRes.tmp _ _ _ (by exact rfl) (cc (congrArg Value.bool (by((have e:a=7:=by omega);subst e;exact(II (by assumption) (by assumption) (by assumption) (En (by assumption))).symm))))
theorem qo (l:List Int) (ho:aU l=true):Fn Tryz.prog 84 [.agg [(.slv l.length 1 (isl l):A)]] [.val (.bool (rz (ag l)))]:=by
 refine aN (N:=56) Tryz.func84 rfl (by kernel_rfl) rfl (Nat.le_of_ble_eq_true rfl) [1,23,29,35,42] (dB rfl) (fun W=> ?_)
 show Wp _ _ _ [kV 0 (V.b (.agg [(.slv l.length 1 (isl l):A)])),kF 1,kF 23,kF 29,kF 35,kF 42]
 refine sq (rg ?_)
 refine z ?_ (h:=fun Z=>aM (h:=1) Z xt (by exact ob1 rfl))
 refine zk (nl (sq (sq (rg (zk (nl (bkk ?_)))))))
 refine bf (fun(a:Nat)=>a≤7∧tqT (ag l) a=false) (fun(a:Nat)=>[kP 1 1 0,kI 3 ((a:Nat):Int),kO 1 26 1 true [(.slv l.length 1 (isl l):A)],kF 23,kF 29,kF 35,kF 42]) (fun(a:Nat)=>7-a) ((0:Nat)) (by exact⟨Nat.zero_le _,rfl⟩) (wkf id (wS<|wE (e:=(aO (by rfl)))<|wX<|wF<|wF<|wF<|wF<|wN)) ?_
 rintro a inv1
 replace inv1:a≤7∧tqT (ag l) a=false:=inv1
 obtain⟨inv1_0,inv1_1⟩:=inv1
 refine sq (sq (rg (zm ?_)))
 refine z ?_ (h:=fun Z=>ab Z vt vc (rA (by omega) (by omega)))
 refine z ?_ (h:=fun Z=>ab Z vt vc (bP rfl))
 refine nl ?_
 refine wi (fun c2=> ?_) (fun c2=> ?_)
 ·skip
  have c2P:=of_decide_eq_true c2
  refine sk (sq (bkk (sq (rg (zk (nl (bkk ?_)))))))
  refine bf (fun(b:Nat)=>b≤7∧tqR (ag l) b a=false) (fun(b:Nat)=>[kP 1 1 0,kI 3 ((a:Nat):Int),kI 4 ((b:Nat):Int),kO 1 26 1 true [(.slv l.length 1 (isl l):A)],kF 23,kF 29,kF 35,kF 42]) (fun(b:Nat)=>7-b) ((0:Nat)) (by exact⟨Nat.zero_le _,rfl⟩) (wkf id (wS<|wS<|wE (e:=(aO (by rfl)))<|wX<|wF<|wF<|wF<|wF<|wN)) ?_
  rintro b inv3
  replace inv3:b≤7∧tqR (ag l) b a=false:=inv3
  obtain⟨inv3_0,inv3_1⟩:=inv3
  refine sq (sq (rg (zm ?_)))
  refine z ?_ (h:=fun Z=>ab Z vt vc (rA (by omega) (by omega)))
  refine z ?_ (h:=fun Z=>ab Z vt vc (bP rfl))
  refine nl ?_
  refine wi (fun c4=> ?_) (fun c4=> ?_)
  ·skip
   have c4P:=of_decide_eq_true c4
   refine sk (sq (bkk (sq (rg ?_))))
   refine z ?_ (h:=fun Z=>aa (xs:=[(.slv l.length 1 (isl l):A)]) Z cr rfl (by decide) rfl)
   refine zm (zm ?_)
   refine z ?_ (h:=fun Z=>bC Z gi vt vt)
   refine z ?_ (h:=fun Z=>ah Z (bZ l (⟨((b:Nat):Int),((a:Nat):Int)⟩:Cel) (by omega) (by exact bz.2 (by simp only;omega))) (ac (ArgV.regv _ _ 1 _) (ac (ArgV.va va) an)) rv)
   refine za (nl (sq (rg ?_)))
   refine z ?_ (h:=fun Z=>aa (xs:=[(.slv l.length 1 (isl l):A)]) Z cr rfl (by decide) rfl)
   refine zm ?_
   refine z ?_ (h:=fun Z=>ab Z vt vc (rA (by omega) (by omega)))
   refine zm ?_
   refine z ?_ (h:=fun Z=>bC Z gi vt vt)
   refine z ?_ (h:=fun Z=>ah Z (bZ l (⟨(((b:Nat):Int)+1),((a:Nat):Int)⟩:Cel) (by omega) (by exact bz.2 (by simp only;omega))) (ac (ArgV.regv _ _ 1 _) (ac (ArgV.va va) an)) rv)
   refine za (nl (sq (rg ?_)))
   refine z ?_ (h:=fun Z=>aa (xs:=[(.slv l.length 1 (isl l):A)]) Z cr rfl (by decide) rfl)
   refine zm (zm ?_)
   refine z ?_ (h:=fun Z=>ab Z vt vc (rA (by omega) (by omega)))
   refine z ?_ (h:=fun Z=>bC Z gi vt vt)
   refine z ?_ (h:=fun Z=>ah Z (bZ l (⟨((b:Nat):Int),(((a:Nat):Int)+1)⟩:Cel) (by omega) (by exact bz.2 (by simp only;omega))) (ac (ArgV.regv _ _ 1 _) (ac (ArgV.va va) an)) rv)
   refine za (nl (sq (rg ?_)))
   refine z ?_ (h:=fun Z=>aa (xs:=[(.slv l.length 1 (isl l):A)]) Z cr rfl (by decide) rfl)
   refine zm ?_
   refine z ?_ (h:=fun Z=>ab Z vt vc (rA (by omega) (by omega)))
   refine zm ?_
   refine z ?_ (h:=fun Z=>ab Z vt vc (rA (by omega) (by omega)))
   refine z ?_ (h:=fun Z=>bC Z gi vt vt)
   refine z ?_ (h:=fun Z=>ah Z (bZ l (⟨(((b:Nat):Int)+1),(((a:Nat):Int)+1)⟩:Cel) (by omega) (by exact bz.2 (by simp only;omega))) (ac (ArgV.regv _ _ 1 _) (ac (ArgV.va va) an)) rv)
   refine za (nl (sq ?_))
   refine fj [kB 55 ((decide ((dm l (⟨((b:Nat):Int),((a:Nat):Int)⟩:Cel))=(dm l (⟨(((b:Nat):Int)+1),(((a:Nat):Int)+1)⟩:Cel))))&&((decide ((dm l (⟨(((b:Nat):Int)+1),((a:Nat):Int)⟩:Cel))=(dm l (⟨((b:Nat):Int),(((a:Nat):Int)+1)⟩:Cel))))&&(decide ((dm l (⟨((b:Nat):Int),((a:Nat):Int)⟩:Cel))≠(dm l (⟨(((b:Nat):Int)+1),((a:Nat):Int)⟩:Cel)))))),kP 1 1 0,kI 3 ((a:Nat):Int),kI 4 ((b:Nat):Int),kO 1 26 1 true [(.slv l.length 1 (isl l):A)],kF 23,kF 29,kF 35,kF 42] ?_ ?_
   ·skip
    rcases Bool.eq_false_or_eq_true (decide ((dm l (⟨((b:Nat):Int),((a:Nat):Int)⟩:Cel))=(dm l (⟨(((b:Nat):Int)+1),(((a:Nat):Int)+1)⟩:Cel))))with c5 |c5
    ·skip
     have c5P:=of_decide_eq_true c5
     rcases Bool.eq_false_or_eq_true (decide ((dm l (⟨(((b:Nat):Int)+1),((a:Nat):Int)⟩:Cel))=(dm l (⟨((b:Nat):Int),(((a:Nat):Int)+1)⟩:Cel))))with c6 |c6
     ·skip
      have c6P:=of_decide_eq_true c6
      refine rg (zm (zm ?_))
      refine z ?_ (h:=fun Z=>ab Z vt vt (ke (c:=true) eM c5))
      refine zm ?_
      refine zg ?_ (h:=fun Z=>ae rfl rfl (mt Z))
      refine zg ?_ (h:=fun Z=>ae rfl rfl (mt Z))
      refine zg ?_ (h:=fun Z=>ae rfl rfl (ab Z vt vt (ke (c:=true) eM c6)))
      refine z ?_ (h:=fun Z=>al Z vt xt)
      refine zm ?_
      refine zg ?_ (h:=fun Z=>ae rfl rfl (mt Z))
      refine zg ?_ (h:=fun Z=>ae rfl rfl (mt Z))
      refine zg ?_ (h:=fun Z=>ae rfl rfl (ab Z vt vt (Ih (c:=(decide ((dm l (⟨((b:Nat):Int),((a:Nat):Int)⟩:Cel))≠(dm l (⟨(((b:Nat):Int)+1),((a:Nat):Int)⟩:Cel))))) eM rfl)))
      refine z ?_ (h:=fun Z=>al Z vt xt)
      refine nl ?_
      exact⟨rfl,bm ⟨(by simp only[c5,c6];first |done |kernel_rfl),(by repeat(first |exact trivial |refine⟨by kernel_rfl,?_⟩))⟩⟩
     ·skip
      have c6P:=of_decide_eq_false c6
      refine rg (zm (zm ?_))
      refine z ?_ (h:=fun Z=>ab Z vt vt (ke (c:=true) eM c5))
      refine zm ?_
      refine zg ?_ (h:=fun Z=>ae rfl rfl (mt Z))
      refine zg ?_ (h:=fun Z=>ae rfl rfl (mt Z))
      refine zg ?_ (h:=fun Z=>ae rfl rfl (ab Z vt vt (ke (c:=false) eM c6)))
      refine z ?_ (h:=fun Z=>al Z vt xt)
      refine zm (zo (zo (zo ?_)))
      refine z ?_ (h:=fun Z=>ao Z vt xc)
      refine nl ?_
      exact⟨rfl,bm ⟨(by simp only[c5,c6];first |done |kernel_rfl),(by repeat(first |exact trivial |refine⟨by kernel_rfl,?_⟩))⟩⟩
    ·skip
     have c5P:=of_decide_eq_false c5
     refine rg (zm (zm ?_))
     refine z ?_ (h:=fun Z=>ab Z vt vt (ke (c:=false) eM c5))
     refine zm (zo (zo (zo ?_)))
     refine z ?_ (h:=fun Z=>ao Z vt xc)
     refine zm (zo (zo (zo ?_)))
     refine z ?_ (h:=fun Z=>ao Z vt xc)
     refine nl ?_
     exact⟨rfl,bm ⟨(by simp only[c5];first |done |kernel_rfl),(by repeat(first |exact trivial |refine⟨by kernel_rfl,?_⟩))⟩⟩
   refine wi (b:=((decide ((dm l (⟨((b:Nat):Int),((a:Nat):Int)⟩:Cel))=(dm l (⟨(((b:Nat):Int)+1),(((a:Nat):Int)+1)⟩:Cel))))&&((decide ((dm l (⟨(((b:Nat):Int)+1),((a:Nat):Int)⟩:Cel))=(dm l (⟨((b:Nat):Int),(((a:Nat):Int)+1)⟩:Cel))))&&(decide ((dm l (⟨((b:Nat):Int),((a:Nat):Int)⟩:Cel))≠(dm l (⟨(((b:Nat):Int)+1),((a:Nat):Int)⟩:Cel))))))) (fun c7=> ?_) (fun c7=> ?_)
   ·skip
    obtain⟨c8,c9⟩:=fw c7
    have c8P:=of_decide_eq_true c8
    obtain⟨c10,c11⟩:=fw c9
    have c10P:=of_decide_eq_true c10
    have c11P:=of_decide_eq_true c11
    refine sq (rg (zk (nl (aq ?_))))
    exact VRes.tmp _ _ _ (by exact rfl) (cc (congrArg Value.bool (by exact(Eb (x:=b) (y:=a) (by omega) (by omega) ((LY ho (by omega) (by omega)).symm.trans (by assumption))).symm)))
   ·skip
    have c12:=lM c7
    refine sk (rg (zm ?_))
    refine z ?_ (h:=fun Z=>ab Z vt vc (rA (by omega) (by omega)))
    refine za (nl ?_)
    exact ar ((b+1)) (by exact⟨by omega,Bo (by assumption) ((LY ho (by omega) (by omega)).symm.trans (by assumption))⟩) (by show 7-(b+1)<7-b;omega) (wkf id (wS<|wS<|wE (e:=(aO (by rfl)))<|wX<|wF<|wF<|wF<|wF<|wN))
  ·skip
   have c4P:=of_decide_eq_false c4
   refine aJ (rg (zm ?_))
   refine z ?_ (h:=fun Z=>ab Z vt vc (rA (by omega) (by omega)))
   refine za (nl ?_)
   exact ar ((a+1)) (by(have e:b=7:=by omega);subst e;exact⟨by omega,Bp (by assumption) (by assumption)⟩) (by show 7-(a+1)<7-a;omega) (wkf id (wS<|wE (e:=(aO (by rfl)))<|wX<|wF<|wF<|wF<|wF<|wN))
 ·skip
  have c2P:=of_decide_eq_false c2
  refine aJ (sq (rg (zk (nl (aq ?_)))))
  exact VRes.tmp _ _ _ (by exact rfl) (cc (congrArg Value.bool (by((have e:a=7:=by omega);subst e;exact(En (by assumption)).symm))))
theorem mp (l:List Int) (hl:l.length≤4194304):Fn Tryz.prog 49 [.agg [(.slv l.length 1 (isl l):A)]] [.val (.bool (cu l))]:=by
 refine aN (N:=20) Tryz.func49 rfl (by kernel_rfl) rfl (Nat.le_of_ble_eq_true rfl) [1,4,7,12,17] (dB rfl) (fun W=> ?_)
 show Wp _ _ _ [kV 0 (V.b (.agg [(.slv l.length 1 (isl l):A)])),kF 1,kF 4,kF 7,kF 12,kF 17]
 refine sq (rg ?_)
 refine z ?_ (h:=fun Z=>aM (h:=1) Z xt (by exact ob1 rfl))
 refine zk (nl (sq ?_))
 rcases Bool.eq_false_or_eq_true ((aU l))with c1 |c1
 ·skip
  rcases Bool.eq_false_or_eq_true (decide ((((pcN l):Nat):Int)=1))with c2 |c2
  ·skip
   have c2P:=of_decide_eq_true c2
   rcases Bool.eq_false_or_eq_true (decide ((hol l)=0))with c3 |c3
   ·skip
    have c3P:=of_decide_eq_true c3
    refine rg ?_
    refine z ?_ (h:=fun Z=>aa (xs:=[(.slv l.length 1 (isl l):A)]) Z cr rfl (by decide) rfl)
    refine z ?_ (h:=fun Z=>ah Z (cF l (by omega)) (ac (ArgV.regv _ _ 1 _) an) (aH (congrArg Value.bool c1)))
    refine zm ?_
    refine zg ?_ (h:=fun Z=>ae rfl rfl (aa (xs:=[(.slv l.length 1 (isl l):A)]) Z cr rfl (by decide) rfl))
    refine zg ?_ (h:=fun Z=>ae rfl rfl (ah Z (gQ l (by omega)) (ac (ArgV.regv _ _ 1 _) an) rv))
    refine zg ?_ (h:=fun Z=>ae rfl rfl (ab Z vt vc (cW (c:=true) c2)))
    refine z ?_ (h:=fun Z=>al Z vt xt)
    refine zm ?_
    refine zg ?_ (h:=fun Z=>ae rfl rfl (aa (xs:=[(.slv l.length 1 (isl l):A)]) Z cr rfl (by decide) rfl))
    refine zg ?_ (h:=fun Z=>ae rfl rfl (ah Z (lk l (by omega)) (ac (ArgV.regv _ _ 1 _) an) rv))
    refine zg ?_ (h:=fun Z=>ae rfl rfl (ab Z vt vc (cW (c:=true) c3)))
    refine z ?_ (h:=fun Z=>al Z vt xt)
    refine zm ?_
    refine zg ?_ (h:=fun Z=>ae rfl rfl (aa (xs:=[(.slv l.length 1 (isl l):A)]) Z cr rfl (by decide) rfl))
    refine zg ?_ (h:=fun Z=>ae rfl rfl (ah Z (qo l (by omega)) (ac (ArgV.regv _ _ 1 _) an) rv))
    refine zg ?_ (h:=fun Z=>ae rfl rfl (aK Z vt (bE rfl)))
    refine z ?_ (h:=fun Z=>al Z vt xt)
    refine za (nl (aq ?_))
    exact VRes.tmp _ _ _ (by exact rfl) (cc (congrArg Value.bool (by(rw[Nv (by assumption) (by assumption) (by assumption)];first |done |(simp_all;done)))))
   ·skip
    have c3P:=of_decide_eq_false c3
    refine rg ?_
    refine z ?_ (h:=fun Z=>aa (xs:=[(.slv l.length 1 (isl l):A)]) Z cr rfl (by decide) rfl)
    refine z ?_ (h:=fun Z=>ah Z (cF l (by omega)) (ac (ArgV.regv _ _ 1 _) an) (aH (congrArg Value.bool c1)))
    refine zm ?_
    refine zg ?_ (h:=fun Z=>ae rfl rfl (aa (xs:=[(.slv l.length 1 (isl l):A)]) Z cr rfl (by decide) rfl))
    refine zg ?_ (h:=fun Z=>ae rfl rfl (ah Z (gQ l (by omega)) (ac (ArgV.regv _ _ 1 _) an) rv))
    refine zg ?_ (h:=fun Z=>ae rfl rfl (ab Z vt vc (cW (c:=true) c2)))
    refine z ?_ (h:=fun Z=>al Z vt xt)
    refine zm ?_
    refine zg ?_ (h:=fun Z=>ae rfl rfl (aa (xs:=[(.slv l.length 1 (isl l):A)]) Z cr rfl (by decide) rfl))
    refine zg ?_ (h:=fun Z=>ae rfl rfl (ah Z (lk l (by omega)) (ac (ArgV.regv _ _ 1 _) an) rv))
    refine zg ?_ (h:=fun Z=>ae rfl rfl (ab Z vt vc (cW (c:=false) c3)))
    refine z ?_ (h:=fun Z=>al Z vt xt)
    refine zm (zo (zo (zo ?_)))
    refine z ?_ (h:=fun Z=>ao Z vt xc)
    refine za (nl (aq ?_))
    exact VRes.tmp _ _ _ (by exact rfl) (cc (congrArg Value.bool (by exact(IG (by assumption)).symm)))
  ·skip
   have c2P:=of_decide_eq_false c2
   refine rg ?_
   refine z ?_ (h:=fun Z=>aa (xs:=[(.slv l.length 1 (isl l):A)]) Z cr rfl (by decide) rfl)
   refine z ?_ (h:=fun Z=>ah Z (cF l (by omega)) (ac (ArgV.regv _ _ 1 _) an) (aH (congrArg Value.bool c1)))
   refine zm ?_
   refine zg ?_ (h:=fun Z=>ae rfl rfl (aa (xs:=[(.slv l.length 1 (isl l):A)]) Z cr rfl (by decide) rfl))
   refine zg ?_ (h:=fun Z=>ae rfl rfl (ah Z (gQ l (by omega)) (ac (ArgV.regv _ _ 1 _) an) rv))
   refine zg ?_ (h:=fun Z=>ae rfl rfl (ab Z vt vc (cW (c:=false) c2)))
   refine z ?_ (h:=fun Z=>al Z vt xt)
   refine zm (zo (zo (zo ?_)))
   refine z ?_ (h:=fun Z=>ao Z vt xc)
   refine zm (zo (zo (zo ?_)))
   refine z ?_ (h:=fun Z=>ao Z vt xc)
   refine za (nl (aq ?_))
   exact VRes.tmp _ _ _ (by exact rfl) (cc (congrArg Value.bool (by exact(IE (by assumption)).symm)))
 ·skip
  refine rg ?_
  refine z ?_ (h:=fun Z=>aa (xs:=[(.slv l.length 1 (isl l):A)]) Z cr rfl (by decide) rfl)
  refine z ?_ (h:=fun Z=>ah Z (cF l (by omega)) (ac (ArgV.regv _ _ 1 _) an) (aH (congrArg Value.bool c1)))
  refine zm (zo (zo (zo ?_)))
  refine z ?_ (h:=fun Z=>ao Z vt xc)
  refine zm (zo (zo (zo ?_)))
  refine z ?_ (h:=fun Z=>ao Z vt xc)
  refine zm (zo (zo (zo ?_)))
  refine z ?_ (h:=fun Z=>ao Z vt xc)
  refine za (nl (aq ?_))
  exact VRes.tmp _ _ _ (by exact rfl) (cc (congrArg Value.bool (by exact(zh (by assumption)).symm)))
end Cl
end Go.Proofs.YtonlghbbdcddoaaGreat
