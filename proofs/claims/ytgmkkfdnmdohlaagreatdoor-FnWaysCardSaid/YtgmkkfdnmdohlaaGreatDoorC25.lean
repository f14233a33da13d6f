/- Walks. -/
import Derived.Test.YtgmkkfdnmdohlaaGreatDoorCH
import Derived.Test.YtgmkkfdnmdohlaaGreatDoorClB
set_option linter.unusedSimpArgs false
set_option linter.unusedVariables false
set_option maxHeartbeats 4000000
set_option maxRecDepth 100000
namespace Go.Proofs.YtgmkkfdnmdohlaaGreatDoor
namespace Cl
open Go.ChangeShapes Go.WideShapes Go.ChangeAt Go.RowKit
theorem nI_at {L M:List Nat} {i:Nat} {s k t:Nat} {lst:List Nat} (h:BT s k L lst i t M):gI (nI M) i=((gN lst i:Nat):Int):=by rw[gI_nI (by have:=h.le;omega),h.ow]
theorem BT.skp {l:List Int} {k:Nat} {L lst M:List Nat} {i p q:Nat} (hg:BG (ao l) k L lst i) (hi:i<lst.length) (h:BT (ao l) k L lst i (3*p+q) M) (hp:p<3) (hq:q<3) (ho:bj l=true)
  (hc:((!(inB (((gN lst i%10:Nat):Int)+((q:Int)-1)) 0 9))||((!(inB (((gN lst i/10:Nat):Int)+((p:Int)-1)) 0 9))||(decide (gI (mkI (L++M)) ((((gN lst i/10:Nat):Int)+((p:Int)-1))*10+(((gN lst i%10:Nat):Int)+((q:Int)-1))).toNat≠0)||gA l ⟨((gN lst i%10:Nat):Int)+((q:Int)-1)-1,((gN lst i/10:Nat):Int)+((p:Int)-1)-1⟩)))=true):BT (ao l) k L lst i (3*p+(q+1)) M:=by
 rcases Bool.eq_false_or_eq_true (inB (((gN lst i%10:Nat):Int)+((q:Int)-1)) 0 9)with h1 |h1
 ·rcases Bool.eq_false_or_eq_true (inB (((gN lst i/10:Nat):Int)+((p:Int)-1)) 0 9)with h2 |h2
  ·have hx:=bP.1 h1
   have hy:=bP.1 h2
   rw[h1,h2,Bool.not_true,Bool.false_or,Bool.false_or,Bool.or_eq_true,decide_eq_true_eq]at hc
   rcases hc with hc |hc
   ·exact BT.no2 hg hi h hp hq hx hy (.inl (Classical.not_not.1 fun hn=>hc ((ii (jW hx hy).2.2).2 hn)))
   ·exact BT.no2 hg hi h hp hq hx hy (.inr (sD ho hx hy hc))
  ·exact h.no1 (hg.at hi) hq (by rw[h2];exact Bool.and_false _)
 ·exact h.no1 (hg.at hi) hq (by rw[h1];rfl)
theorem FG {l:List Int} (ho:bj l=true) {k:Nat} (hk:k<100) {L:List Nat} (h:ScanI (ao l) k L) (hc:decide (gI (mkI L) k≠0)=true∨gA l (c10 k)=true):ScanI (ao l) (k+1) L∧rt (ao l) (k+1)=rt (ao l) k:=by
 rcases hc with hc |hc
 ·exact wI h (.inr (Classical.not_not.1 fun hn=>of_decide_eq_true hc ((ii hk).2 hn)))
 ·exact wI h (.inl (uA ho hk hc))
theorem tf:∀ (a b:Int),Tryz.prog.built 70 [(0,.int .i64 a),(1,.int .i64 b)]=some ([.int .i64 a,.int .i64 b]:List Value).toArray:=fun _ _=>rfl
theorem fT:(Tryz.prog.info? 3).map (·.size)=some 1:=by kernel_rfl
theorem nX:TI Tryz.prog 29 true 1:=⟨⟨_,Tryz.underlying29,rfl⟩,by kernel_rfl⟩
theorem fU:TI Tryz.prog 3 false 1:=⟨⟨_,Tryz.underlying3,rfl⟩,by kernel_rfl⟩
theorem tg:TI Tryz.prog 70 true 2:=⟨⟨_,Tryz.underlying70,rfl⟩,by kernel_rfl⟩
theorem cM:Tryz.prog.underlying 22=some (.slice 3):=Tryz.underlying22
theorem mX:ZI Tryz.prog 3 (.int .i64 0) 1 8:=by unfold ZI;kernel_rfl
theorem zy:ZI Tryz.prog 70 (.agg #[.int .i64 0,.int .i64 0]) 2 16:=by unfold ZI;kernel_rfl
theorem jB (l:List Int) (hl:l.length≤4194304):Fn Tryz.prog 55 [.agg [(.slv l.length 1 (isl l):A)]] [.val (.int .i64 (hol l))]:=by
 refine bm (N:=131) Tryz.func55 rfl (by kernel_rfl) rfl (Nat.le_of_ble_eq_true rfl) [1,7,15,20,23,44,52,55,86,92,113,128,129] (dN rfl) (fun W=> ?_)
 show Wp _ _ _ [kV 0 (V.b (.agg [(.slv l.length 1 (isl l):A)])),kF 1,kF 7,kF 15,kF 20,kF 23,kF 44,kF 52,kF 55,kF 86,kF 92,kF 113,kF 128,kF 129]
 refine sq (rg ?_)
 refine z ?_ (h:=fun Z=>bo (h:=1) Z xt (by exact ob1 rfl))
 refine zk (nl (sq (sq (rg ?_))))
 refine z ?_ (h:=fun Z=>ab (xs:=[(.slv l.length 1 (isl l):A)]) Z nX rfl (by decide) rfl)
 refine z ?_ (h:=fun Z=>ag Z (bH l (by omega)) (ac (ArgV.regv _ _ 1 _) an) rv)
 refine z ?_ (h:=fun Z=>bn Z vt (bS rfl))
 refine nl ?_
 refine wi (b:=(!(bj l))) (fun c1=> ?_) (fun c1=> ?_)
 ·skip
  have c2:(bj l)=false:=by first |(rw[←Bool.not_eq_true'];exact c1) |simpa using c1
  refine sq (rg (zk (nl (aC ?_))))
  exact VRes.tmp _ _ _ (by exact rfl) (ce (congrArg (Value.int .i64) (by exact(JT (by simp_all)).symm)))
 ·skip
  have c3:(bj l)=true:=by first |(rw[←Bool.not_eq_false'];exact c1) |simpa using c1
  have hro:=c3
  refine sk (sq (rg (zk (nl (sq (rg (zm (zm ?_))))))))
  refine z ?_ (h:=fun Z=>aa Z vt vt (AO (c:=100) (by exact w64 (by omega) (by omega))))
  refine z ?_ (h:=fun Z=>fJ (h:=20) (n:=100) (xs:=isl (List.replicate 100 0)) Z cM mX vt vt rfl rfl (by decide) (by omega) (jo 100))
  refine za (nl (sq (rg (zk (nl (sq (sq (rg (zk (nl (bkk ?_)))))))))))
  refine bg (fun((k,L):Nat × (List Nat))=>k≤100∧ScanI (ao l) k L) (fun((k,L):Nat × (List Nat))=>[kP 1 1 0,kI 3 10,kS 4 20 0 100,kI 5 (((rt (ao l) k:Nat):Int)-1),kI 6 ((k:Nat):Int),kO 1 29 1 true [(.slv l.length 1 (isl l):A)],kO 20 3 1 true (pl (isl (mkI L))),kF 7,kF 15,kF 23,kF 44,kF 52,kF 55,kF 86,kF 92,kF 113,kF 128,kF 129]) (fun((k,L):Nat × (List Nat))=>100-k) ((0:Nat),([]:List Nat)) (by exact⟨by omega,ScanI.zero _⟩) (wkf id (wS<|wS<|wS<|wE (e:=(be (by rfl)))<|wE (e:=(be (by rfl)))<|wX<|wO (e:=aJ (fun h=>h) (congrArg isl (by rfl)))<|by(iterate 11 refine wF ?_);exact wN)) ?_
  rintro⟨k,L⟩ inv4
  replace inv4:k≤100∧ScanI (ao l) k L:=inv4
  obtain⟨inv4_0,inv4_1⟩:=inv4
  have hS:ScanI (ao l) k L:=by assumption
  have hrl:=rt_le (ao l) k
  have hmil:=oW L
  refine sq (sq (rg (zm (zm ?_))))
  refine z ?_ (h:=fun Z=>lnS (iv:=100) Z cM)
  refine z ?_ (h:=fun Z=>aa Z vt vt (bA rfl))
  refine nl ?_
  refine wi (fun c5=> ?_) (fun c5=> ?_)
  ·skip
   have c5P:=of_decide_eq_true c5
   refine sk (sq (bkk (sq (ch (zdm (zdm ?_))))))
   refine zd ?_ (h:=fun Z=>aa Z vt vt (tw (c:=(((k%10):Nat):Int)) (by decide) (remN (a:=((k:Nat):Int)) (b:=k) (c:=10) rfl)))
   refine zd ?_ (h:=fun Z=>aa Z vt vc (rS (by omega) (by omega)))
   refine zdm (zdm ?_)
   refine zd ?_ (h:=fun Z=>aa Z vt vt (AP (c:=(((k/10):Nat):Int)) (by decide) (quoN (a:=((k:Nat):Int)) (b:=k) (c:=10) rfl (by decide) (by omega))))
   refine zd ?_ (h:=fun Z=>aa Z vt vc (rS (by omega) (by omega)))
   refine zd ?_ (h:=fun Z=>bC Z tf vt vt)
   refine zd ?_ (h:=fun Z=>aL (h:=7) (cap:=1) (s:=2) (cells:=[aI 0,aI 0]) Z zy rfl rfl (by decide))
   refine zd ?_ (h:=fun _=>aE (cells:=[aI ((((k%10):Nat):Int)-1),aI ((((k/10):Nat):Int)-1)]) tg xt (by exact rfl) (by decide) (by exact ob1 rfl) (by exact Nat.le_of_ble_eq_true rfl) (by exact rfl))
   refine bG (sq (sq ?_))
   refine rZ [kB 45 ((decide ((gI (mkI L) k)≠0))||(gA l (⟨((((k%10):Nat):Int)-1),((((k/10):Nat):Int)-1)⟩:Cel))),kP 1 1 0,kI 3 10,kS 4 20 0 100,kI 5 (((rt (ao l) k:Nat):Int)-1),kI 6 ((k:Nat):Int),kO 1 29 1 true [(.slv l.length 1 (isl l):A)],kO 7 70 2 true [aI ((((k%10):Nat):Int)-1),aI ((((k/10):Nat):Int)-1)],kO 20 3 1 true (pl (isl (mkI L))),kF 15,kF 23,kF 44,kF 52,kF 55,kF 86,kF 92,kF 113,kF 128,kF 129] ?_ ?_
   ·skip
    rcases Bool.eq_false_or_eq_true (decide ((gI (mkI L) k)≠0))with c6 |c6
    ·skip
     have c6P:=of_decide_eq_true c6
     have hkm:k∈L:=Classical.not_not.1 fun hn=>of_decide_eq_true c6 ((ii (by omega)).2 hn)
     obtain⟨hs1,hs2⟩:=wI hS (.inr hkm)
     refine rg (zm (zm ?_))
     refine z ?_ (h:=fun Z=>ix0 Z cM fT vt (hlt:=(by omega)))
     refine z ?_ (h:=fun Z=>lI Z fU (by omega))
     refine z ?_ (h:=fun Z=>aa Z vt vc (fv (c:=true) c6))
     refine zm (zo (zo (zo ?_)))
     refine z ?_ (h:=fun Z=>au Z vt xc)
     refine nl ?_
     exact⟨rfl,dM ⟨(by simp only[c6];first |done |kernel_rfl),(by repeat(first |exact trivial |refine⟨by kernel_rfl,?_⟩))⟩⟩
    ·skip
     have c6P:=of_decide_eq_false c6
     have hkn:k∉L:=(ii (by omega)).1 (Decidable.not_not.1 (of_decide_eq_false c6))
     refine rg (zm (zm ?_))
     refine z ?_ (h:=fun Z=>ix0 Z cM fT vt (hlt:=(by omega)))
     refine z ?_ (h:=fun Z=>lI Z fU (by omega))
     refine z ?_ (h:=fun Z=>aa Z vt vc (fv (c:=false) c6))
     refine zm ?_
     refine zg ?_ (h:=fun Z=>ae rfl rfl (ab (xs:=[(.slv l.length 1 (isl l):A)]) Z nX rfl (by decide) rfl))
     refine zg ?_ (h:=fun Z=>ae rfl rfl (ab (xs:=[vI ((((k%10):Nat):Int)-1),vI ((((k/10):Nat):Int)-1)].map A.val) Z tg rfl (by decide) rfl))
     refine zg ?_ (h:=fun Z=>ae rfl rfl (ag Z (eC l (⟨((((k%10):Nat):Int)-1),((((k/10):Nat):Int)-1)⟩:Cel) (by omega)) (ac (ArgV.regv _ _ 1 _) (ac (ArgV.va va) an)) rv))
     refine z ?_ (h:=fun Z=>ar Z vt xt)
     refine nl ?_
     exact⟨rfl,dM ⟨(by simp only[c6];first |done |kernel_rfl),(by repeat(first |exact trivial |refine⟨by kernel_rfl,?_⟩))⟩⟩
   refine wi (b:=((decide ((gI (mkI L) k)≠0))||(gA l (⟨((((k%10):Nat):Int)-1),((((k/10):Nat):Int)-1)⟩:Cel)))) (fun c7=> ?_) (fun c7=> ?_)
   ·skip
    have c8:=Jb c7
    obtain⟨hs1,hs2⟩:=FG hro (by omega) hS c8
    refine aU (rg (zm ?_))
    refine z ?_ (h:=fun Z=>aa Z vt vc (rA (by omega) (by omega)))
    refine za (nl ?_)
    exact aA ((k+1),L) (by exact⟨by omega,hs1⟩) (by show 100-(k+1)<100-k;omega) (wkf id (wS<|wS<|wS<|wE (e:=(be (by omega)))<|wE (e:=(be (by rfl)))<|wX<|wP<|by(iterate 11 refine wF ?_);exact wN))
   ·skip
    obtain⟨c9,c10⟩:=AH c7
    have c9P:=of_decide_eq_false c9
    have hkn:k∉L:=(ii (by omega)).1 (Decidable.not_not.1 (of_decide_eq_false c9))
    have hfk:bq (ao l) k=true:=uA hro (by omega) c10
    refine sk (sq (rg (zm ?_)))
    refine z ?_ (h:=fun Z=>aa Z vt vc (rA (by omega) (by omega)))
    refine za (nl (sq (rg (zm (zm ?_)))))
    refine z ?_ (h:=fun Z=>ix0 Z cM fT vt (hlt:=(by omega)))
    refine z ?_ (h:=fun _=>sI fU xc (by omega))
    refine nl (sq (rg (zm ?_)))
    refine z ?_ (h:=fun Z=>aP (h:=52) (xs:=isl ([((k:Nat):Int)]:List Int)) Z cM mX (.cons vt OpVs.nil) (by decide) (by decide) (by kernel_rfl) rfl)
    refine za (nl (sq (rg (zk (nl (bkk ?_))))))
    refine bg (fun((i,lst):Nat × (List Nat))=>BG (ao l) k L lst i) (fun((i,lst):Nat × (List Nat))=>[kP 1 1 0,kI 3 10,kS 4 20 0 100,kI 5 ((((rt (ao l) k:Nat):Int)-1)+1),kI 6 ((k:Nat):Int),kS 8 52 0 ((nI lst).length),kI 9 ((i:Nat):Int),kO 1 29 1 true [(.slv l.length 1 (isl l):A)],kO 20 3 1 true (pl (isl (mkI (L++lst)))),kO 52 3 1 true (pl (isl (nI lst))),kF 7,kF 15,kF 23,kF 44,kF 55,kF 86,kF 92,kF 113,kF 128,kF 129]) (fun((i,lst):Nat × (List Nat))=>100-i) ((0:Nat),([k]:List Nat)) (by exact BG.zero hS hfk hkn) (wkf id (wS<|wS<|wS<|wS<|wS<|wE (e:=(vsl (by rfl) rfl))<|wE (e:=(be (by rfl)))<|wX<|wO (e:=aJ (fun h=>h) (congrArg isl (by exact(wn _ _).symm)))<|wO (e:=aJ (fun h=>h) (congrArg isl (by rfl)))<|by(iterate 10 refine wF ?_);exact wN)) ?_
    rintro⟨i,lst⟩ inv11
    replace inv11:BG (ao l) k L lst i:=inv11
    have hB:=inv11
    have hbl:=hB.len
    have hnl:=sP lst
    refine sq (sq (rg (zm (zm ?_))))
    refine z ?_ (h:=fun Z=>lnS Z cM)
    refine z ?_ (h:=fun Z=>aa Z vt vt (bA rfl))
    refine nl ?_
    refine wi (fun c12=> ?_) (fun c12=> ?_)
    ·skip
     have c12P:=of_decide_eq_true c12
     have hown0:=hB.at (by omega)
     refine sk (sq (bkk (sq (rg (zk (nl (bkk ?_)))))))
     refine bg (fun((p,M):Nat × (List Nat))=>p≤3∧BT (ao l) k L lst i (3*p) M) (fun((p,M):Nat × (List Nat))=>[kP 1 1 0,kI 3 10,kS 4 20 0 100,kI 5 ((((rt (ao l) k:Nat):Int)-1)+1),kI 6 ((k:Nat):Int),kS 8 52 0 ((nI M).length),kI 9 ((i:Nat):Int),kI 10 (((p:Nat):Int)-1),kO 1 29 1 true [(.slv l.length 1 (isl l):A)],kO 20 3 1 true (pl (isl (mkI (L++M)))),kO 52 3 1 true (pl (isl (nI M))),kF 7,kF 15,kF 23,kF 44,kF 55,kF 86,kF 92,kF 113,kF 128,kF 129]) (fun((p,M):Nat × (List Nat))=>3-p) ((0:Nat),(lst:List Nat)) (by exact⟨by omega,BT.zero hB (by omega)⟩) (wkf id (wS<|wS<|wS<|wS<|wS<|wS<|wS<|wE (e:=(be (by rfl)))<|wX<|wP<|wP<|by(iterate 10 refine wF ?_);exact wN)) ?_
     rintro⟨p,M⟩ inv13
     replace inv13:p≤3∧BT (ao l) k L lst i (3*p) M:=inv13
     obtain⟨inv13_0,inv13_1⟩:=inv13
     have hT:BT (ao l) k L lst i (3*p) M:=by assumption
     have hTl:=hT.len
     have hnl3:=sP M
     refine sq (sq (rg (zm ?_)))
     refine z ?_ (h:=fun Z=>aa Z vt vc (qZ rfl))
     refine nl ?_
     refine wi (fun c14=> ?_) (fun c14=> ?_)
     ·skip
      have c14P:=of_decide_eq_true c14
      refine sk (sq (bkk (sq (rg (zk (nl (bkk ?_)))))))
      refine bg (fun((q,M2):Nat × (List Nat))=>q≤3∧BT (ao l) k L lst i (3*p+q) M2) (fun((q,M2):Nat × (List Nat))=>[kP 1 1 0,kI 3 10,kS 4 20 0 100,kI 5 ((((rt (ao l) k:Nat):Int)-1)+1),kI 6 ((k:Nat):Int),kS 8 52 0 ((nI M2).length),kI 9 ((i:Nat):Int),kI 10 (((p:Nat):Int)-1),kI 11 (((q:Nat):Int)-1),kO 1 29 1 true [(.slv l.length 1 (isl l):A)],kO 20 3 1 true (pl (isl (mkI (L++M2)))),kO 52 3 1 true (pl (isl (nI M2))),kF 7,kF 15,kF 23,kF 44,kF 55,kF 86,kF 92,kF 113,kF 128,kF 129]) (fun((q,M2):Nat × (List Nat))=>3-q) ((0:Nat),(M:List Nat)) (by exact⟨by omega,hT⟩) (wkf id (wS<|wS<|wS<|wS<|wS<|wS<|wS<|wS<|wE (e:=(be (by rfl)))<|wX<|wP<|wP<|by(iterate 10 refine wF ?_);exact wN)) ?_
      rintro⟨q,M2⟩ inv15
      replace inv15:q≤3∧BT (ao l) k L lst i (3*p+q) M2:=inv15
      obtain⟨inv15_0,inv15_1⟩:=inv15
      have hT2:BT (ao l) k L lst i (3*p+q) M2:=by assumption
      have hTl2:=hT2.len
      have hnl4:=sP M2
      have hown:=nI_at hT2
      have hil:=hT2.le
      refine sq (sq (rg (zm ?_)))
      refine z ?_ (h:=fun Z=>aa Z vt vc (qZ rfl))
      refine nl ?_
      refine wi (fun c16=> ?_) (fun c16=> ?_)
      ·skip
       have c16P:=of_decide_eq_true c16
       refine sk (sq (bkk (sq (rg (zm (zm ?_))))))
       refine z ?_ (h:=fun Z=>ix0 Z cM fT vt (hlt:=(by omega)))
       refine z ?_ (h:=fun Z=>lI Z fU (by omega))
       refine zm ?_
       refine z ?_ (h:=fun Z=>aa Z vt vt (tw (c:=((gN lst i%10:Nat):Int)) (by omega) (remN hown)))
       refine zm ?_
       refine z ?_ (h:=fun Z=>aa Z vt vt (rA (by omega) (by omega)))
       refine za (nl (sq (rg (zm (zm ?_)))))
       refine z ?_ (h:=fun Z=>ix0 Z cM fT vt (hlt:=(by omega)))
       refine z ?_ (h:=fun Z=>lI Z fU (by omega))
       refine zm ?_
       refine z ?_ (h:=fun Z=>aa Z vt vt (AP (c:=((gN lst i/10:Nat):Int)) (by omega) (quoN hown (by decide) (by omega))))
       refine zm ?_
       refine z ?_ (h:=fun Z=>aa Z vt vt (rA (by omega) (by omega)))
       refine za (nl (sq (sq ?_)))
       refine rZ [kB 114 ((!(inB (((gN lst i%10:Nat):Int)+(((q:Nat):Int)-1)) 0 9))||((!(inB (((gN lst i/10:Nat):Int)+(((p:Nat):Int)-1)) 0 9))||((decide ((gI (mkI (L++M2)) ((((((gN lst i/10:Nat):Int)+(((p:Nat):Int)-1))*10)+(((gN lst i%10:Nat):Int)+(((q:Nat):Int)-1))).toNat))≠0))||(gA l (⟨((((gN lst i%10:Nat):Int)+(((q:Nat):Int)-1))-1),((((gN lst i/10:Nat):Int)+(((p:Nat):Int)-1))-1)⟩:Cel))))),kP 1 1 0,kI 3 10,kS 4 20 0 100,kI 5 ((((rt (ao l) k:Nat):Int)-1)+1),kI 6 ((k:Nat):Int),kS 8 52 0 ((nI M2).length),kI 9 ((i:Nat):Int),kI 10 (((p:Nat):Int)-1),kI 11 (((q:Nat):Int)-1),kI 12 (((gN lst i%10:Nat):Int)+(((q:Nat):Int)-1)),kI 13 (((gN lst i/10:Nat):Int)+(((p:Nat):Int)-1)),kO 1 29 1 true [(.slv l.length 1 (isl l):A)],kO 20 3 1 true (pl (isl (mkI (L++M2)))),kO 52 3 1 true (pl (isl (nI M2))),kF 7,kF 15,kF 23,kF 44,kF 55,kF 86,kF 92,kF 113,kF 128,kF 129] ?_ ?_
       ·skip
        rcases Bool.eq_false_or_eq_true ((inB (((gN lst i%10:Nat):Int)+(((q:Nat):Int)-1)) 0 9))with c17 |c17
        ·skip
         have hx1:=bP.1 c17
         rcases Bool.eq_false_or_eq_true ((inB (((gN lst i/10:Nat):Int)+(((p:Nat):Int)-1)) 0 9))with c18 |c18
         ·skip
          have hy1:=bP.1 c18
          rcases Bool.eq_false_or_eq_true (decide ((gI (mkI (L++M2)) ((((((gN lst i/10:Nat):Int)+(((p:Nat):Int)-1))*10)+(((gN lst i%10:Nat):Int)+(((q:Nat):Int)-1))).toNat))≠0))with c19 |c19
          ·skip
           have c19P:=of_decide_eq_true c19
           have hmk:(kxy (((gN lst i%10:Nat):Int)+(((q:Nat):Int)-1)) (((gN lst i/10:Nat):Int)+(((p:Nat):Int)-1)))∈L++M2:=Classical.not_not.1 fun hn=>of_decide_eq_true c19 ((ii (jW hx1 hy1).2.2).2 hn)
           refine rg (zm (zm ?_))
           refine z ?_ (h:=fun Z=>aa Z vt vc (nH (c:=9) rfl))
           refine z ?_ (h:=fun Z=>ag Z (cd (((gN lst i%10:Nat):Int)+(((q:Nat):Int)-1)) 0 9 ) (ac (ArgV.v vt) (ac (ArgV.v vc) (ac (ArgV.v vt) an))) (bi (congrArg Value.bool c17)))
           refine z ?_ (h:=fun Z=>bn Z vt (bS (c:=false) rfl))
           refine zm ?_
           refine zg ?_ (h:=fun Z=>ae rfl rfl (mt Z))
           refine zg ?_ (h:=fun Z=>ae rfl rfl (mt Z))
           refine zg ?_ (h:=fun Z=>ae rfl rfl (aa Z vt vc (nH (c:=9) rfl)))
           refine zg ?_ (h:=fun Z=>ae rfl rfl (ag Z (cd (((gN lst i/10:Nat):Int)+(((p:Nat):Int)-1)) 0 9 ) (ac (ArgV.v vt) (ac (ArgV.v vc) (ac (ArgV.v vt) an))) (bi (congrArg Value.bool c18))))
           refine zg ?_ (h:=fun Z=>ae rfl rfl (bn Z vt (bS (c:=false) rfl)))
           refine z ?_ (h:=fun Z=>ar Z vt xt)
           refine zm ?_
           refine zg ?_ (h:=fun Z=>ae rfl rfl (mt Z))
           refine zg ?_ (h:=fun Z=>ae rfl rfl (mt Z))
           refine zg ?_ (h:=fun Z=>ae rfl rfl (mt Z))
           refine zg ?_ (h:=fun Z=>ae rfl rfl (aa Z vt vt (rM (by omega) (by omega))))
           refine zg ?_ (h:=fun Z=>ae rfl rfl (mt Z))
           refine zg ?_ (h:=fun Z=>ae rfl rfl (aa Z vt vt (rA (by omega) (by omega))))
           refine zg ?_ (h:=fun Z=>ae rfl rfl (ix0 (k:=(((((gN lst i/10:Nat):Int)+(((p:Nat):Int)-1))*10)+(((gN lst i%10:Nat):Int)+(((q:Nat):Int)-1))).toNat) Z cM fT vt (Int.toNat_of_nonneg (by omega)).symm (by omega)))
           refine zg ?_ (h:=fun Z=>ae rfl rfl (lI Z fU (by(rw[oW];omega))))
           refine zg ?_ (h:=fun Z=>ae rfl rfl (aa Z vt vc (fv (c:=true) c19)))
           refine z ?_ (h:=fun Z=>ar Z vt xt)
           refine zm (zo (zo (zo (zo (zo (zo (zo ?_)))))))
           refine z ?_ (h:=fun Z=>au Z vt xc)
           refine nl ?_
           exact⟨rfl,dM ⟨(by simp only[c17,c18,c19];first |done |kernel_rfl),(by repeat(first |exact trivial |refine⟨by kernel_rfl,?_⟩))⟩⟩
          ·skip
           have c19P:=of_decide_eq_false c19
           have hmk:(kxy (((gN lst i%10:Nat):Int)+(((q:Nat):Int)-1)) (((gN lst i/10:Nat):Int)+(((p:Nat):Int)-1)))∉L++M2:=(ii (jW hx1 hy1).2.2).1 (Decidable.not_not.1 (of_decide_eq_false c19))
           refine rg (zm (zm ?_))
           refine z ?_ (h:=fun Z=>aa Z vt vc (nH (c:=9) rfl))
           refine z ?_ (h:=fun Z=>ag Z (cd (((gN lst i%10:Nat):Int)+(((q:Nat):Int)-1)) 0 9 ) (ac (ArgV.v vt) (ac (ArgV.v vc) (ac (ArgV.v vt) an))) (bi (congrArg Value.bool c17)))
           refine z ?_ (h:=fun Z=>bn Z vt (bS (c:=false) rfl))
           refine zm ?_
           refine zg ?_ (h:=fun Z=>ae rfl rfl (mt Z))
           refine zg ?_ (h:=fun Z=>ae rfl rfl (mt Z))
           refine zg ?_ (h:=fun Z=>ae rfl rfl (aa Z vt vc (nH (c:=9) rfl)))
           refine zg ?_ (h:=fun Z=>ae rfl rfl (ag Z (cd (((gN lst i/10:Nat):Int)+(((p:Nat):Int)-1)) 0 9 ) (ac (ArgV.v vt) (ac (ArgV.v vc) (ac (ArgV.v vt) an))) (bi (congrArg Value.bool c18))))
           refine zg ?_ (h:=fun Z=>ae rfl rfl (bn Z vt (bS (c:=false) rfl)))
           refine z ?_ (h:=fun Z=>ar Z vt xt)
           refine zm ?_
           refine zg ?_ (h:=fun Z=>ae rfl rfl (mt Z))
           refine zg ?_ (h:=fun Z=>ae rfl rfl (mt Z))
           refine zg ?_ (h:=fun Z=>ae rfl rfl (mt Z))
           refine zg ?_ (h:=fun Z=>ae rfl rfl (aa Z vt vt (rM (by omega) (by omega))))
           refine zg ?_ (h:=fun Z=>ae rfl rfl (mt Z))
           refine zg ?_ (h:=fun Z=>ae rfl rfl (aa Z vt vt (rA (by omega) (by omega))))
           refine zg ?_ (h:=fun Z=>ae rfl rfl (ix0 (k:=(((((gN lst i/10:Nat):Int)+(((p:Nat):Int)-1))*10)+(((gN lst i%10:Nat):Int)+(((q:Nat):Int)-1))).toNat) Z cM fT vt (Int.toNat_of_nonneg (by omega)).symm (by omega)))
           refine zg ?_ (h:=fun Z=>ae rfl rfl (lI Z fU (by(rw[oW];omega))))
           refine zg ?_ (h:=fun Z=>ae rfl rfl (aa Z vt vc (fv (c:=false) c19)))
           refine z ?_ (h:=fun Z=>ar Z vt xt)
           refine zm ?_
           refine zg ?_ (h:=fun Z=>ae rfl rfl (ab (xs:=[(.slv l.length 1 (isl l):A)]) Z nX rfl (by decide) rfl))
           refine zg ?_ (h:=fun Z=>ae rfl rfl (mt Z))
           refine zg ?_ (h:=fun Z=>ae rfl rfl (aa Z vt vc (rS (by omega) (by omega))))
           refine zg ?_ (h:=fun Z=>ae rfl rfl (mt Z))
           refine zg ?_ (h:=fun Z=>ae rfl rfl (aa Z vt vc (rS (by omega) (by omega))))
           refine zg ?_ (h:=fun Z=>ae rfl rfl (bC Z tf vt vt))
           refine zg ?_ (h:=fun Z=>ae rfl rfl (ag Z (eC l (⟨((((gN lst i%10:Nat):Int)+(((q:Nat):Int)-1))-1),((((gN lst i/10:Nat):Int)+(((p:Nat):Int)-1))-1)⟩:Cel) (by omega)) (ac (ArgV.regv _ _ 1 _) (ac (ArgV.va va) an)) rv))
           refine z ?_ (h:=fun Z=>ar Z vt xt)
           refine nl ?_
           exact⟨rfl,dM ⟨(by simp only[c17,c18,c19];first |done |kernel_rfl),(by repeat(first |exact trivial |refine⟨by kernel_rfl,?_⟩))⟩⟩
         ·skip
          have hno:(inB (((gN lst i%10:Nat):Int)+(((q:Nat):Int)-1)) 0 9&&inB (((gN lst i/10:Nat):Int)+(((p:Nat):Int)-1)) 0 9)=false:=by rw[c18];exact Bool.and_false _
          refine rg (zm (zm ?_))
          refine z ?_ (h:=fun Z=>aa Z vt vc (nH (c:=9) rfl))
          refine z ?_ (h:=fun Z=>ag Z (cd (((gN lst i%10:Nat):Int)+(((q:Nat):Int)-1)) 0 9 ) (ac (ArgV.v vt) (ac (ArgV.v vc) (ac (ArgV.v vt) an))) (bi (congrArg Value.bool c17)))
          refine z ?_ (h:=fun Z=>bn Z vt (bS (c:=false) rfl))
          refine zm ?_
          refine zg ?_ (h:=fun Z=>ae rfl rfl (mt Z))
          refine zg ?_ (h:=fun Z=>ae rfl rfl (mt Z))
          refine zg ?_ (h:=fun Z=>ae rfl rfl (aa Z vt vc (nH (c:=9) rfl)))
          refine zg ?_ (h:=fun Z=>ae rfl rfl (ag Z (cd (((gN lst i/10:Nat):Int)+(((p:Nat):Int)-1)) 0 9 ) (ac (ArgV.v vt) (ac (ArgV.v vc) (ac (ArgV.v vt) an))) (bi (congrArg Value.bool c18))))
          refine zg ?_ (h:=fun Z=>ae rfl rfl (bn Z vt (bS (c:=true) rfl)))
          refine z ?_ (h:=fun Z=>ar Z vt xt)
          refine zm (zo (zo (zo (zo (zo (zo (zo (zo (zo ?_)))))))))
          refine z ?_ (h:=fun Z=>au Z vt xc)
          refine zm (zo (zo (zo (zo (zo (zo (zo ?_)))))))
          refine z ?_ (h:=fun Z=>au Z vt xc)
          refine nl ?_
          exact⟨rfl,dM ⟨(by simp only[c17,c18];first |done |kernel_rfl),(by repeat(first |exact trivial |refine⟨by kernel_rfl,?_⟩))⟩⟩
        ·skip
         have hno:(inB (((gN lst i%10:Nat):Int)+(((q:Nat):Int)-1)) 0 9&&inB (((gN lst i/10:Nat):Int)+(((p:Nat):Int)-1)) 0 9)=false:=by rw[c17];rfl
         refine rg (zm (zm ?_))
         refine z ?_ (h:=fun Z=>aa Z vt vc (nH (c:=9) rfl))
         refine z ?_ (h:=fun Z=>ag Z (cd (((gN lst i%10:Nat):Int)+(((q:Nat):Int)-1)) 0 9 ) (ac (ArgV.v vt) (ac (ArgV.v vc) (ac (ArgV.v vt) an))) (bi (congrArg Value.bool c17)))
         refine z ?_ (h:=fun Z=>bn Z vt (bS (c:=true) rfl))
         refine zm (zo (zo (zo (zo (zo ?_)))))
         refine z ?_ (h:=fun Z=>au Z vt xc)
         refine zm (zo (zo (zo (zo (zo (zo (zo (zo (zo ?_)))))))))
         refine z ?_ (h:=fun Z=>au Z vt xc)
         refine zm (zo (zo (zo (zo (zo (zo (zo ?_)))))))
         refine z ?_ (h:=fun Z=>au Z vt xc)
         refine nl ?_
         exact⟨rfl,dM ⟨(by simp only[c17];first |done |kernel_rfl),(by repeat(first |exact trivial |refine⟨by kernel_rfl,?_⟩))⟩⟩
       refine wi (b:=((!(inB (((gN lst i%10:Nat):Int)+(((q:Nat):Int)-1)) 0 9))||((!(inB (((gN lst i/10:Nat):Int)+(((p:Nat):Int)-1)) 0 9))||((decide ((gI (mkI (L++M2)) ((((((gN lst i/10:Nat):Int)+(((p:Nat):Int)-1))*10)+(((gN lst i%10:Nat):Int)+(((q:Nat):Int)-1))).toNat))≠0))||(gA l (⟨((((gN lst i%10:Nat):Int)+(((q:Nat):Int)-1))-1),((((gN lst i/10:Nat):Int)+(((p:Nat):Int)-1))-1)⟩:Cel)))))) (fun c20=> ?_) (fun c20=> ?_)
       ·skip
        have hsk:=BT.skp hB (by omega) hT2 (by omega) (by omega) hro c20
        have c21:=Jb c20
        refine aU (rg (zm ?_))
        refine z ?_ (h:=fun Z=>aa Z vt vc (rA (by omega) (by omega)))
        refine za (nl ?_)
        exact aA ((q+1),M2) (by refine⟨by omega,?_⟩;first |exact hsk |exact BT.yes hB (by omega) hT2 (by omega) (by omega) hx1 hy1 hmk hfr) (by show 3-(q+1)<3-q;omega) (wkf id (wS<|wS<|wS<|wS<|wS<|wS<|wS<|wS<|wE (e:=(be (by omega)))<|wX<|wP<|wP<|by(iterate 10 refine wF ?_);exact wN))
       ·skip
        obtain⟨c22,c23⟩:=AH c20
        have c24:(inB (((gN lst i%10:Nat):Int)+(((q:Nat):Int)-1)) 0 9)=true:=by first |(rw[←Bool.not_eq_false'];exact c22) |simpa using c22
        have hx1:=bP.1 c24
        obtain⟨c25,c26⟩:=AH c23
        have c27:(inB (((gN lst i/10:Nat):Int)+(((p:Nat):Int)-1)) 0 9)=true:=by first |(rw[←Bool.not_eq_false'];exact c25) |simpa using c25
        have hy1:=bP.1 c27
        obtain⟨c28,c29⟩:=AH c26
        have c28P:=of_decide_eq_false c28
        have hmk:(kxy (((gN lst i%10:Nat):Int)+(((q:Nat):Int)-1)) (((gN lst i/10:Nat):Int)+(((p:Nat):Int)-1)))∉L++M2:=(ii (jW hx1 hy1).2.2).1 (Decidable.not_not.1 (of_decide_eq_false c28))
        have hfr:bq (ao l) (kxy (((gN lst i%10:Nat):Int)+(((q:Nat):Int)-1)) (((gN lst i/10:Nat):Int)+(((p:Nat):Int)-1)))=true:=sD hro hx1 hy1 c29
        refine sk (sq (rg (zm (zm (zm ?_)))))
        refine z ?_ (h:=fun Z=>aa Z vt vt (rM (by omega) (by omega)))
        refine zm ?_
        refine z ?_ (h:=fun Z=>aa Z vt vt (rA (by omega) (by omega)))
        refine z ?_ (h:=fun Z=>ix0 (k:=(((((gN lst i/10:Nat):Int)+(((p:Nat):Int)-1))*10)+(((gN lst i%10:Nat):Int)+(((q:Nat):Int)-1))).toNat) Z cM fT vt (Int.toNat_of_nonneg (by omega)).symm (by omega))
        refine z ?_ (h:=fun _=>sI fU xc (by(rw[oW];omega)))
        refine nl (rg (zm (zm (zm ?_))))
        refine z ?_ (h:=fun Z=>aa Z vt vt (rM (by omega) (by omega)))
        refine zm ?_
        refine z ?_ (h:=fun Z=>aa Z vt vt (rA (by omega) (by omega)))
        refine z ?_ (h:=fun Z=>aP (h:=128) (xs:=isl ([(((((gN lst i/10:Nat):Int)+(((p:Nat):Int)-1))*10)+(((gN lst i%10:Nat):Int)+(((q:Nat):Int)-1)))]:List Int)) Z cM mX (.cons vt OpVs.nil) (by decide) (by decide) (by kernel_rfl) rfl)
        refine z ?_ (h:=fun Z=>aI_ (h2:=129) (L3:=((nI M2)++[(((((gN lst i/10:Nat):Int)+(((p:Nat):Int)-1))*10)+(((gN lst i%10:Nat):Int)+(((q:Nat):Int)-1)))])) Z cM mX (by exact rfl) rfl (by exact rfl) (by(simp;omega)))
        refine za (nl (rg (zm ?_)))
        refine z ?_ (h:=fun Z=>aa Z vt vc (rA (by omega) (by omega)))
        refine za (nl ?_)
        exact aA ((q+1),(M2++[(kxy (((gN lst i%10:Nat):Int)+(((q:Nat):Int)-1)) (((gN lst i/10:Nat):Int)+(((p:Nat):Int)-1)))])) (by refine⟨by omega,?_⟩;first |exact hsk |exact BT.yes hB (by omega) hT2 (by omega) (by omega) hx1 hy1 hmk hfr) (by show 3-(q+1)<3-q;omega) (wkf (aX [(52,129)]) (wS<|wS<|wS<|wS<|wS<|wE (e:=(vsl (by(exact congrArg List.length (by first |rfl |omega |(rw[←List.append_assoc,←wn];rfl) |(rw[←Ez];unfold kxy;congr 2;omega) |(simp [sP];done)))) rfl))<|wS<|wS<|wE (e:=(be (by omega)))<|wX<|wO (e:=aJ (fun h=>h) (congrArg isl (by(rw[←List.append_assoc,←wn];rfl))))<|wO (e:=aJ (fun h=>h) (congrArg isl (by(rw[←Ez];unfold kxy;congr 2;omega))))<|by(iterate 10 refine wF ?_);exact wN))
      ·skip
       have c16P:=of_decide_eq_false c16
       refine aU (rg (zm ?_))
       refine z ?_ (h:=fun Z=>aa Z vt vc (rA (by omega) (by omega)))
       refine za (nl ?_)
       exact aA ((p+1),M2) (by refine⟨by omega,?_⟩;(have e:q=3:=by omega);subst e;exact hT2) (by show 3-(p+1)<3-p;omega) (wkf id (wS<|wS<|wS<|wS<|wS<|wS<|wS<|wE (e:=(be (by omega)))<|wX<|wP<|wP<|by(iterate 10 refine wF ?_);exact wN))
     ·skip
      have c14P:=of_decide_eq_false c14
      refine aU (rg (zm ?_))
      refine z ?_ (h:=fun Z=>aa Z vt vc (rA (by omega) (by omega)))
      refine za (nl ?_)
      exact aA ((i+1),M) (by exact hT.out hB (by omega) (by omega)) (by show 100-(i+1)<100-i;omega) (wkf id (wS<|wS<|wS<|wS<|wS<|wS<|wE (e:=(be (by rfl)))<|wX<|wP<|wP<|by(iterate 10 refine wF ?_);exact wN))
    ·skip
     have c12P:=of_decide_eq_false c12
     obtain⟨hs1,hs2⟩:=hB.end (by omega)
     refine aU (rg (zm ?_))
     refine z ?_ (h:=fun Z=>aa Z vt vc (rA (by omega) (by omega)))
     refine za (nl ?_)
     exact aA ((k+1),(L++lst)) (by exact⟨by omega,hs1⟩) (by show 100-(k+1)<100-k;omega) (wkf id (wS<|wS<|wS<|wE (e:=(be (by omega)))<|wE (e:=(be (by rfl)))<|wX<|wP<|by(iterate 11 refine wF ?_);exact wN))
  ·skip
   have c5P:=of_decide_eq_false c5
   refine aU (sq (rg (zm (za (nl (aC ?_))))))
   exact VRes.tmp _ _ _ (by exact rfl) (ce (congrArg (Value.int .i64) (by(have e:k=100:=by omega);subst e;exact(Hd hro).symm)))
end Cl
end Go.Proofs.YtgmkkfdnmdohlaaGreatDoor
