/- Walks. -/
import Derived.Test.YtonlghbbdcddoaaGreatCH
import Derived.Test.YtonlghbbdcddoaaGreatClB
set_option maxHeartbeats 4000000
set_option maxRecDepth 100000
namespace Go.Proofs.YtonlghbbdcddoaaGreat
namespace Cl
open Go.ChangeShapes Go.WideShapes Go.ChangeAt Go.RowKit
theorem nI_at {L M:List Nat} {i:Nat} {s k t:Nat} {lst:List Nat} (h:BT s k L lst i t M):gI (nI M) i=((gN lst i:Nat):Int):=by rw[GT (by have:=h.le;omega),h.ow]
theorem BT.skp {l:List Int} {k:Nat} {L lst M:List Nat} {i p q:Nat} (hg:BG (ag l) k L lst i) (hi:i<lst.length) (h:BT (ag l) k L lst i (3*p+q) M) (hp:p<3) (hq:q<3) (ho:aU l=true)
  (hc:((!(inB (((gN lst i%10:Nat):Int)+((q:Int)-1)) 0 9))||((!(inB (((gN lst i/10:Nat):Int)+((p:Int)-1)) 0 9))||(decide (gI (mkI (L++M)) ((((gN lst i/10:Nat):Int)+((p:Int)-1))*10+(((gN lst i%10:Nat):Int)+((q:Int)-1))).toNat≠0)||eJ l ⟨((gN lst i%10:Nat):Int)+((q:Int)-1)-1,((gN lst i/10:Nat):Int)+((p:Int)-1)-1⟩)))=true):BT (ag l) k L lst i (3*p+(q+1)) M:=by
 rcases Bool.eq_false_or_eq_true (inB (((gN lst i%10:Nat):Int)+((q:Int)-1)) 0 9)with h1 |h1
 ·rcases Bool.eq_false_or_eq_true (inB (((gN lst i/10:Nat):Int)+((p:Int)-1)) 0 9)with h2 |h2
  ·have hx:=bw.1 h1
   have hy:=bw.1 h2
   rw[h1,h2,Bool.not_true,Bool.false_or,Bool.false_or,Bool.or_eq_true,decide_eq_true_eq]at hc
   rcases hc with hc |hc
   ·exact BT.no2 hg hi h hp hq hx hy (.inl (Classical.not_not.1 fun hn=>hc ((jT (jh hx hy).2.2).2 hn)))
   ·exact BT.no2 hg hi h hp hq hx hy (.inr (uO ho hx hy hc))
  ·exact h.no1 (hg.at hi) hq (by rw[h2];exact Bool.and_false _)
 ·exact h.no1 (hg.at hi) hq (by rw[h1];rfl)
theorem IK {l:List Int} (ho:aU l=true) {k:Nat} (hk:k<100) {L:List Nat} (h:ScanI (ag l) k L) (hc:decide (gI (mkI L) k≠0)=true∨eJ l (c10 k)=true):ScanI (ag l) (k+1) L∧rt (ag l) (k+1)=rt (ag l) k:=by
 rcases hc with hc |hc
 ·exact zi h (.inr (Classical.not_not.1 fun hn=>of_decide_eq_true hc ((jT hk).2 hn)))
 ·exact zi h (.inl (xm ho hk hc))
theorem vu:∀ (a b:Int),Tryz.prog.built 67 [(0,.int .i64 a),(1,.int .i64 b)]=some ([.int .i64 a,.int .i64 b]:List Value).toArray:=fun _ _=>rfl
theorem iC:(Tryz.prog.info? 3).map (·.size)=some 1:=by kernel_rfl
theorem qe:TI Tryz.prog 26 true 1:=⟨⟨_,Tryz.underlying26,rfl⟩,by kernel_rfl⟩
theorem iE:TI Tryz.prog 3 false 1:=⟨⟨_,Tryz.underlying3,rfl⟩,by kernel_rfl⟩
theorem vv:TI Tryz.prog 67 true 2:=⟨⟨_,Tryz.underlying67,rfl⟩,by kernel_rfl⟩
theorem dH:Tryz.prog.underlying 24=some (.slice 3):=Tryz.underlying24
theorem oZ:ZI Tryz.prog 3 (.int .i64 0) 1 8:=by unfold ZI;kernel_rfl
theorem Cq:ZI Tryz.prog 67 (.agg #[.int .i64 0,.int .i64 0]) 2 16:=by unfold ZI;kernel_rfl
theorem lk (l:List Int) (hl:l.length≤4194304):Fn Tryz.prog 83 [.agg [(.slv l.length 1 (isl l):A)]] [.val (.int .i64 (hol l))]:=by
 refine aN (N:=131) Tryz.func83 rfl (by kernel_rfl) rfl (Nat.le_of_ble_eq_true rfl) [1,7,15,20,23,44,52,55,86,92,113,128,129] (dB rfl) (fun W=> ?_)
 show Wp _ _ _ [kV 0 (V.b (.agg [(.slv l.length 1 (isl l):A)])),kF 1,kF 7,kF 15,kF 20,kF 23,kF 44,kF 52,kF 55,kF 86,kF 92,kF 113,kF 128,kF 129]
 refine sq (rg ?_)
 refine z ?_ (h:=fun Z=>aM (h:=1) Z xt (by exact ob1 rfl))
 refine zk (nl (sq (sq (rg ?_))))
 refine z ?_ (h:=fun Z=>aa (xs:=[(.slv l.length 1 (isl l):A)]) Z qe rfl (by decide) rfl)
 refine z ?_ (h:=fun Z=>ah Z (cF l (by omega)) (ac (ArgV.regv _ _ 1 _) an) rv)
 refine z ?_ (h:=fun Z=>aK Z vt (bE rfl))
 refine nl ?_
 refine wi (b:=(!(aU l))) (fun c1=> ?_) (fun c1=> ?_)
 ·skip
  have c2:(aU l)=false:=by first |(rw[←Bool.not_eq_true'];exact c1) |simpa using c1
  refine sq (rg (zk (nl (aq ?_))))
  exact VRes.tmp _ _ _ (by exact rfl) (cc (congrArg (Value.int .i64) (by exact(Hc (by simp_all)).symm)))
 ·skip
  have c3:(aU l)=true:=by first |(rw[←Bool.not_eq_false'];exact c1) |simpa using c1
  have hro:=c3
  refine sk (sq (rg (zk (nl (sq (rg (zm (zm ?_))))))))
  refine z ?_ (h:=fun Z=>ab Z vt vt (DI (c:=100) (by exact w64 (by omega) (by omega))))
  refine z ?_ (h:=fun Z=>fW (h:=20) (n:=100) (xs:=isl (List.replicate 100 0)) Z dH oZ vt vt rfl rfl (by decide) (by omega) (ji 100))
  refine za (nl (sq (rg (zk (nl (sq (sq (rg (zk (nl (bkk ?_)))))))))))
  refine bf (fun((k,L):Nat × (List Nat))=>k≤100∧ScanI (ag l) k L) (fun((k,L):Nat × (List Nat))=>[kP 1 1 0,kI 3 10,kS 4 20 0 100,kI 5 (((rt (ag l) k:Nat):Int)-1),kI 6 ((k:Nat):Int),kO 1 26 1 true [(.slv l.length 1 (isl l):A)],kO 20 3 1 true (pl (isl (mkI L))),kF 7,kF 15,kF 23,kF 44,kF 52,kF 55,kF 86,kF 92,kF 113,kF 128,kF 129]) (fun((k,L):Nat × (List Nat))=>100-k) ((0:Nat),([]:List Nat)) (by exact⟨by omega,ScanI.zero _⟩) (wkf id (wS<|wS<|wS<|wE (e:=(aO (by rfl)))<|wE (e:=(aO (by rfl)))<|wX<|wO (e:=aG (fun h=>h) (congrArg isl (by rfl)))<|by(iterate 11 refine wF ?_);exact wN)) ?_
  rintro⟨k,L⟩ inv4
  replace inv4:k≤100∧ScanI (ag l) k L:=inv4
  obtain⟨inv4_0,inv4_1⟩:=inv4
  have hS:ScanI (ag l) k L:=by assumption
  have hrl:=Iv (ag l) k
  have hmil:=qW L
  refine sq (sq (rg (zm (zm ?_))))
  refine z ?_ (h:=fun Z=>lnS (iv:=100) Z dH)
  refine z ?_ (h:=fun Z=>ab Z vt vt (bP rfl))
  refine nl ?_
  refine wi (fun c5=> ?_) (fun c5=> ?_)
  ·skip
   have c5P:=of_decide_eq_true c5
   refine sk (sq (bkk (sq (cg (zdm (zdm ?_))))))
   refine zd ?_ (h:=fun Z=>ab Z vt vt (rh (c:=(((k%10):Nat):Int)) (by decide) (remN (a:=((k:Nat):Int)) (b:=k) (c:=10) rfl)))
   refine zd ?_ (h:=fun Z=>ab Z vt vc (rS (by omega) (by omega)))
   refine zdm (zdm ?_)
   refine zd ?_ (h:=fun Z=>ab Z vt vt (vK (c:=(((k/10):Nat):Int)) (by decide) (quoN (a:=((k:Nat):Int)) (b:=k) (c:=10) rfl (by decide) (by omega))))
   refine zd ?_ (h:=fun Z=>ab Z vt vc (rS (by omega) (by omega)))
   refine zd ?_ (h:=fun Z=>bC Z vu vt vt)
   refine zd ?_ (h:=fun Z=>aF (h:=7) (cap:=1) (s:=2) (cells:=[aI 0,aI 0]) Z Cq rfl rfl (by decide))
   refine zd ?_ (h:=fun _=>aw (cells:=[aI ((((k%10):Nat):Int)-1),aI ((((k/10):Nat):Int)-1)]) vv xt (by exact rfl) (by decide) (by exact ob1 rfl) (by exact Nat.le_of_ble_eq_true rfl) (by exact rfl))
   refine bJ (sq (sq ?_))
   refine fj [kB 45 ((decide ((gI (mkI L) k)≠0))||(eJ l (⟨((((k%10):Nat):Int)-1),((((k/10):Nat):Int)-1)⟩:Cel))),kP 1 1 0,kI 3 10,kS 4 20 0 100,kI 5 (((rt (ag l) k:Nat):Int)-1),kI 6 ((k:Nat):Int),kO 1 26 1 true [(.slv l.length 1 (isl l):A)],kO 7 67 2 true [aI ((((k%10):Nat):Int)-1),aI ((((k/10):Nat):Int)-1)],kO 20 3 1 true (pl (isl (mkI L))),kF 15,kF 23,kF 44,kF 52,kF 55,kF 86,kF 92,kF 113,kF 128,kF 129] ?_ ?_
   ·skip
    rcases Bool.eq_false_or_eq_true (decide ((gI (mkI L) k)≠0))with c6 |c6
    ·skip
     have c6P:=of_decide_eq_true c6
     have hkm:k∈L:=Classical.not_not.1 fun hn=>of_decide_eq_true c6 ((jT (by omega)).2 hn)
     obtain⟨hs1,hs2⟩:=zi hS (.inr hkm)
     refine rg (zm (zm ?_))
     refine z ?_ (h:=fun Z=>ix0 Z dH iC vt (hlt:=(by omega)))
     refine z ?_ (h:=fun Z=>lI Z iE (by omega))
     refine z ?_ (h:=fun Z=>ab Z vt vc (iZ (c:=true) c6))
     refine zm (zo (zo (zo ?_)))
     refine z ?_ (h:=fun Z=>al Z vt xc)
     refine nl ?_
     exact⟨rfl,bm ⟨(by simp only[c6];first |done |kernel_rfl),(by repeat(first |exact trivial |refine⟨by kernel_rfl,?_⟩))⟩⟩
    ·skip
     have c6P:=of_decide_eq_false c6
     have hkn:k∉L:=(jT (by omega)).1 (Decidable.not_not.1 (of_decide_eq_false c6))
     refine rg (zm (zm ?_))
     refine z ?_ (h:=fun Z=>ix0 Z dH iC vt (hlt:=(by omega)))
     refine z ?_ (h:=fun Z=>lI Z iE (by omega))
     refine z ?_ (h:=fun Z=>ab Z vt vc (iZ (c:=false) c6))
     refine zm ?_
     refine zg ?_ (h:=fun Z=>ae rfl rfl (aa (xs:=[(.slv l.length 1 (isl l):A)]) Z qe rfl (by decide) rfl))
     refine zg ?_ (h:=fun Z=>ae rfl rfl (aa (xs:=[vI ((((k%10):Nat):Int)-1),vI ((((k/10):Nat):Int)-1)].map A.val) Z vv rfl (by decide) rfl))
     refine zg ?_ (h:=fun Z=>ae rfl rfl (ah Z (cB l (⟨((((k%10):Nat):Int)-1),((((k/10):Nat):Int)-1)⟩:Cel) (by omega)) (ac (ArgV.regv _ _ 1 _) (ac (ArgV.va va) an)) rv))
     refine z ?_ (h:=fun Z=>ao Z vt xt)
     refine nl ?_
     exact⟨rfl,bm ⟨(by simp only[c6];first |done |kernel_rfl),(by repeat(first |exact trivial |refine⟨by kernel_rfl,?_⟩))⟩⟩
   refine wi (b:=((decide ((gI (mkI L) k)≠0))||(eJ l (⟨((((k%10):Nat):Int)-1),((((k/10):Nat):Int)-1)⟩:Cel)))) (fun c7=> ?_) (fun c7=> ?_)
   ·skip
    have c8:=tj c7
    obtain⟨hs1,hs2⟩:=IK hro (by omega) hS c8
    refine aJ (rg (zm ?_))
    refine z ?_ (h:=fun Z=>ab Z vt vc (rA (by omega) (by omega)))
    refine za (nl ?_)
    exact ar ((k+1),L) (by exact⟨by omega,hs1⟩) (by show 100-(k+1)<100-k;omega) (wkf id (wS<|wS<|wS<|wE (e:=(aO (by omega)))<|wE (e:=(aO (by rfl)))<|wX<|wP<|by(iterate 11 refine wF ?_);exact wN))
   ·skip
    obtain⟨c9,c10⟩:=ly c7
    have c9P:=of_decide_eq_false c9
    have hkn:k∉L:=(jT (by omega)).1 (Decidable.not_not.1 (of_decide_eq_false c9))
    have hfk:bk (ag l) k=true:=xm hro (by omega) c10
    refine sk (sq (rg (zm ?_)))
    refine z ?_ (h:=fun Z=>ab Z vt vc (rA (by omega) (by omega)))
    refine za (nl (sq (rg (zm (zm ?_)))))
    refine z ?_ (h:=fun Z=>ix0 Z dH iC vt (hlt:=(by omega)))
    refine z ?_ (h:=fun _=>sI iE xc (by omega))
    refine nl (sq (rg (zm ?_)))
    refine z ?_ (h:=fun Z=>aR (h:=52) (xs:=isl ([((k:Nat):Int)]:List Int)) Z dH oZ (.cons vt OpVs.nil) (by decide) (by decide) (by kernel_rfl) rfl)
    refine za (nl (sq (rg (zk (nl (bkk ?_))))))
    refine bf (fun((i,lst):Nat × (List Nat))=>BG (ag l) k L lst i) (fun((i,lst):Nat × (List Nat))=>[kP 1 1 0,kI 3 10,kS 4 20 0 100,kI 5 ((((rt (ag l) k:Nat):Int)-1)+1),kI 6 ((k:Nat):Int),kS 8 52 0 ((nI lst).length),kI 9 ((i:Nat):Int),kO 1 26 1 true [(.slv l.length 1 (isl l):A)],kO 20 3 1 true (pl (isl (mkI (L++lst)))),kO 52 3 1 true (pl (isl (nI lst))),kF 7,kF 15,kF 23,kF 44,kF 55,kF 86,kF 92,kF 113,kF 128,kF 129]) (fun((i,lst):Nat × (List Nat))=>100-i) ((0:Nat),([k]:List Nat)) (by exact BG.zero hS hfk hkn) (wkf id (wS<|wS<|wS<|wS<|wS<|wE (e:=(vsl (by rfl) rfl))<|wE (e:=(aO (by rfl)))<|wX<|wO (e:=aG (fun h=>h) (congrArg isl (by exact(yG _ _).symm)))<|wO (e:=aG (fun h=>h) (congrArg isl (by rfl)))<|by(iterate 10 refine wF ?_);exact wN)) ?_
    rintro⟨i,lst⟩ inv11
    replace inv11:BG (ag l) k L lst i:=inv11
    have hB:=inv11
    have hbl:=hB.len
    have hnl:=mR lst
    refine sq (sq (rg (zm (zm ?_))))
    refine z ?_ (h:=fun Z=>lnS Z dH)
    refine z ?_ (h:=fun Z=>ab Z vt vt (bP rfl))
    refine nl ?_
    refine wi (fun c12=> ?_) (fun c12=> ?_)
    ·skip
     have c12P:=of_decide_eq_true c12
     have hown0:=hB.at (by omega)
     refine sk (sq (bkk (sq (rg (zk (nl (bkk ?_)))))))
     refine bf (fun((p,M):Nat × (List Nat))=>p≤3∧BT (ag l) k L lst i (3*p) M) (fun((p,M):Nat × (List Nat))=>[kP 1 1 0,kI 3 10,kS 4 20 0 100,kI 5 ((((rt (ag l) k:Nat):Int)-1)+1),kI 6 ((k:Nat):Int),kS 8 52 0 ((nI M).length),kI 9 ((i:Nat):Int),kI 10 (((p:Nat):Int)-1),kO 1 26 1 true [(.slv l.length 1 (isl l):A)],kO 20 3 1 true (pl (isl (mkI (L++M)))),kO 52 3 1 true (pl (isl (nI M))),kF 7,kF 15,kF 23,kF 44,kF 55,kF 86,kF 92,kF 113,kF 128,kF 129]) (fun((p,M):Nat × (List Nat))=>3-p) ((0:Nat),(lst:List Nat)) (by exact⟨by omega,BT.zero hB (by omega)⟩) (wkf id (wS<|wS<|wS<|wS<|wS<|wS<|wS<|wE (e:=(aO (by rfl)))<|wX<|wP<|wP<|by(iterate 10 refine wF ?_);exact wN)) ?_
     rintro⟨p,M⟩ inv13
     replace inv13:p≤3∧BT (ag l) k L lst i (3*p) M:=inv13
     obtain⟨inv13_0,inv13_1⟩:=inv13
     have hT:BT (ag l) k L lst i (3*p) M:=by assumption
     have hTl:=hT.len
     have hnl3:=mR M
     refine sq (sq (rg (zm ?_)))
     refine z ?_ (h:=fun Z=>ab Z vt vc (pM rfl))
     refine nl ?_
     refine wi (fun c14=> ?_) (fun c14=> ?_)
     ·skip
      have c14P:=of_decide_eq_true c14
      refine sk (sq (bkk (sq (rg (zk (nl (bkk ?_)))))))
      refine bf (fun((q,M2):Nat × (List Nat))=>q≤3∧BT (ag l) k L lst i (3*p+q) M2) (fun((q,M2):Nat × (List Nat))=>[kP 1 1 0,kI 3 10,kS 4 20 0 100,kI 5 ((((rt (ag l) k:Nat):Int)-1)+1),kI 6 ((k:Nat):Int),kS 8 52 0 ((nI M2).length),kI 9 ((i:Nat):Int),kI 10 (((p:Nat):Int)-1),kI 11 (((q:Nat):Int)-1),kO 1 26 1 true [(.slv l.length 1 (isl l):A)],kO 20 3 1 true (pl (isl (mkI (L++M2)))),kO 52 3 1 true (pl (isl (nI M2))),kF 7,kF 15,kF 23,kF 44,kF 55,kF 86,kF 92,kF 113,kF 128,kF 129]) (fun((q,M2):Nat × (List Nat))=>3-q) ((0:Nat),(M:List Nat)) (by exact⟨by omega,hT⟩) (wkf id (wS<|wS<|wS<|wS<|wS<|wS<|wS<|wS<|wE (e:=(aO (by rfl)))<|wX<|wP<|wP<|by(iterate 10 refine wF ?_);exact wN)) ?_
      rintro⟨q,M2⟩ inv15
      replace inv15:q≤3∧BT (ag l) k L lst i (3*p+q) M2:=inv15
      obtain⟨inv15_0,inv15_1⟩:=inv15
      have hT2:BT (ag l) k L lst i (3*p+q) M2:=by assumption
      have hTl2:=hT2.len
      have hnl4:=mR M2
      have hown:=nI_at hT2
      have hil:=hT2.le
      refine sq (sq (rg (zm ?_)))
      refine z ?_ (h:=fun Z=>ab Z vt vc (pM rfl))
      refine nl ?_
      refine wi (fun c16=> ?_) (fun c16=> ?_)
      ·skip
       have c16P:=of_decide_eq_true c16
       refine sk (sq (bkk (sq (rg (zm (zm ?_))))))
       refine z ?_ (h:=fun Z=>ix0 Z dH iC vt (hlt:=(by omega)))
       refine z ?_ (h:=fun Z=>lI Z iE (by omega))
       refine zm ?_
       refine z ?_ (h:=fun Z=>ab Z vt vt (rh (c:=((gN lst i%10:Nat):Int)) (by omega) (remN hown)))
       refine zm ?_
       refine z ?_ (h:=fun Z=>ab Z vt vt (rA (by omega) (by omega)))
       refine za (nl (sq (rg (zm (zm ?_)))))
       refine z ?_ (h:=fun Z=>ix0 Z dH iC vt (hlt:=(by omega)))
       refine z ?_ (h:=fun Z=>lI Z iE (by omega))
       refine zm ?_
       refine z ?_ (h:=fun Z=>ab Z vt vt (vK (c:=((gN lst i/10:Nat):Int)) (by omega) (quoN hown (by decide) (by omega))))
       refine zm ?_
       refine z ?_ (h:=fun Z=>ab Z vt vt (rA (by omega) (by omega)))
       refine za (nl (sq (sq ?_)))
       refine fj [kB 114 ((!(inB (((gN lst i%10:Nat):Int)+(((q:Nat):Int)-1)) 0 9))||((!(inB (((gN lst i/10:Nat):Int)+(((p:Nat):Int)-1)) 0 9))||((decide ((gI (mkI (L++M2)) ((((((gN lst i/10:Nat):Int)+(((p:Nat):Int)-1))*10)+(((gN lst i%10:Nat):Int)+(((q:Nat):Int)-1))).toNat))≠0))||(eJ l (⟨((((gN lst i%10:Nat):Int)+(((q:Nat):Int)-1))-1),((((gN lst i/10:Nat):Int)+(((p:Nat):Int)-1))-1)⟩:Cel))))),kP 1 1 0,kI 3 10,kS 4 20 0 100,kI 5 ((((rt (ag l) k:Nat):Int)-1)+1),kI 6 ((k:Nat):Int),kS 8 52 0 ((nI M2).length),kI 9 ((i:Nat):Int),kI 10 (((p:Nat):Int)-1),kI 11 (((q:Nat):Int)-1),kI 12 (((gN lst i%10:Nat):Int)+(((q:Nat):Int)-1)),kI 13 (((gN lst i/10:Nat):Int)+(((p:Nat):Int)-1)),kO 1 26 1 true [(.slv l.length 1 (isl l):A)],kO 20 3 1 true (pl (isl (mkI (L++M2)))),kO 52 3 1 true (pl (isl (nI M2))),kF 7,kF 15,kF 23,kF 44,kF 55,kF 86,kF 92,kF 113,kF 128,kF 129] ?_ ?_
       ·skip
        rcases Bool.eq_false_or_eq_true ((inB (((gN lst i%10:Nat):Int)+(((q:Nat):Int)-1)) 0 9))with c17 |c17
        ·skip
         have hx1:=bw.1 c17
         rcases Bool.eq_false_or_eq_true ((inB (((gN lst i/10:Nat):Int)+(((p:Nat):Int)-1)) 0 9))with c18 |c18
         ·skip
          have hy1:=bw.1 c18
          rcases Bool.eq_false_or_eq_true (decide ((gI (mkI (L++M2)) ((((((gN lst i/10:Nat):Int)+(((p:Nat):Int)-1))*10)+(((gN lst i%10:Nat):Int)+(((q:Nat):Int)-1))).toNat))≠0))with c19 |c19
          ·skip
           have c19P:=of_decide_eq_true c19
           have hmk:(kxy (((gN lst i%10:Nat):Int)+(((q:Nat):Int)-1)) (((gN lst i/10:Nat):Int)+(((p:Nat):Int)-1)))∈L++M2:=Classical.not_not.1 fun hn=>of_decide_eq_true c19 ((jT (jh hx1 hy1).2.2).2 hn)
           refine rg (zm (zm ?_))
           refine z ?_ (h:=fun Z=>ab Z vt vc (ns (c:=9) rfl))
           refine z ?_ (h:=fun Z=>ah Z (cP (((gN lst i%10:Nat):Int)+(((q:Nat):Int)-1)) 0 9 ) (ac (ArgV.v vt) (ac (ArgV.v vc) (ac (ArgV.v vt) an))) (aH (congrArg Value.bool c17)))
           refine z ?_ (h:=fun Z=>aK Z vt (bE (c:=false) rfl))
           refine zm ?_
           refine zg ?_ (h:=fun Z=>ae rfl rfl (mt Z))
           refine zg ?_ (h:=fun Z=>ae rfl rfl (mt Z))
           refine zg ?_ (h:=fun Z=>ae rfl rfl (ab Z vt vc (ns (c:=9) rfl)))
           refine zg ?_ (h:=fun Z=>ae rfl rfl (ah Z (cP (((gN lst i/10:Nat):Int)+(((p:Nat):Int)-1)) 0 9 ) (ac (ArgV.v vt) (ac (ArgV.v vc) (ac (ArgV.v vt) an))) (aH (congrArg Value.bool c18))))
           refine zg ?_ (h:=fun Z=>ae rfl rfl (aK Z vt (bE (c:=false) rfl)))
           refine z ?_ (h:=fun Z=>ao Z vt xt)
           refine zm ?_
           refine zg ?_ (h:=fun Z=>ae rfl rfl (mt Z))
           refine zg ?_ (h:=fun Z=>ae rfl rfl (mt Z))
           refine zg ?_ (h:=fun Z=>ae rfl rfl (mt Z))
           refine zg ?_ (h:=fun Z=>ae rfl rfl (ab Z vt vt (rM (by omega) (by omega))))
           refine zg ?_ (h:=fun Z=>ae rfl rfl (mt Z))
           refine zg ?_ (h:=fun Z=>ae rfl rfl (ab Z vt vt (rA (by omega) (by omega))))
           refine zg ?_ (h:=fun Z=>ae rfl rfl (ix0 (k:=(((((gN lst i/10:Nat):Int)+(((p:Nat):Int)-1))*10)+(((gN lst i%10:Nat):Int)+(((q:Nat):Int)-1))).toNat) Z dH iC vt (Int.toNat_of_nonneg (by omega)).symm (by omega)))
           refine zg ?_ (h:=fun Z=>ae rfl rfl (lI Z iE (by(rw[qW];omega))))
           refine zg ?_ (h:=fun Z=>ae rfl rfl (ab Z vt vc (iZ (c:=true) c19)))
           refine z ?_ (h:=fun Z=>ao Z vt xt)
           refine zm (zo (zo (zo (zo (zo (zo (zo ?_)))))))
           refine z ?_ (h:=fun Z=>al Z vt xc)
           refine nl ?_
           exact⟨rfl,bm ⟨(by simp only[c17,c18,c19];first |done |kernel_rfl),(by repeat(first |exact trivial |refine⟨by kernel_rfl,?_⟩))⟩⟩
          ·skip
           have c19P:=of_decide_eq_false c19
           have hmk:(kxy (((gN lst i%10:Nat):Int)+(((q:Nat):Int)-1)) (((gN lst i/10:Nat):Int)+(((p:Nat):Int)-1)))∉L++M2:=(jT (jh hx1 hy1).2.2).1 (Decidable.not_not.1 (of_decide_eq_false c19))
           refine rg (zm (zm ?_))
           refine z ?_ (h:=fun Z=>ab Z vt vc (ns (c:=9) rfl))
           refine z ?_ (h:=fun Z=>ah Z (cP (((gN lst i%10:Nat):Int)+(((q:Nat):Int)-1)) 0 9 ) (ac (ArgV.v vt) (ac (ArgV.v vc) (ac (ArgV.v vt) an))) (aH (congrArg Value.bool c17)))
           refine z ?_ (h:=fun Z=>aK Z vt (bE (c:=false) rfl))
           refine zm ?_
           refine zg ?_ (h:=fun Z=>ae rfl rfl (mt Z))
           refine zg ?_ (h:=fun Z=>ae rfl rfl (mt Z))
           refine zg ?_ (h:=fun Z=>ae rfl rfl (ab Z vt vc (ns (c:=9) rfl)))
           refine zg ?_ (h:=fun Z=>ae rfl rfl (ah Z (cP (((gN lst i/10:Nat):Int)+(((p:Nat):Int)-1)) 0 9 ) (ac (ArgV.v vt) (ac (ArgV.v vc) (ac (ArgV.v vt) an))) (aH (congrArg Value.bool c18))))
           refine zg ?_ (h:=fun Z=>ae rfl rfl (aK Z vt (bE (c:=false) rfl)))
           refine z ?_ (h:=fun Z=>ao Z vt xt)
           refine zm ?_
           refine zg ?_ (h:=fun Z=>ae rfl rfl (mt Z))
           refine zg ?_ (h:=fun Z=>ae rfl rfl (mt Z))
           refine zg ?_ (h:=fun Z=>ae rfl rfl (mt Z))
           refine zg ?_ (h:=fun Z=>ae rfl rfl (ab Z vt vt (rM (by omega) (by omega))))
           refine zg ?_ (h:=fun Z=>ae rfl rfl (mt Z))
           refine zg ?_ (h:=fun Z=>ae rfl rfl (ab Z vt vt (rA (by omega) (by omega))))
           refine zg ?_ (h:=fun Z=>ae rfl rfl (ix0 (k:=(((((gN lst i/10:Nat):Int)+(((p:Nat):Int)-1))*10)+(((gN lst i%10:Nat):Int)+(((q:Nat):Int)-1))).toNat) Z dH iC vt (Int.toNat_of_nonneg (by omega)).symm (by omega)))
           refine zg ?_ (h:=fun Z=>ae rfl rfl (lI Z iE (by(rw[qW];omega))))
           refine zg ?_ (h:=fun Z=>ae rfl rfl (ab Z vt vc (iZ (c:=false) c19)))
           refine z ?_ (h:=fun Z=>ao Z vt xt)
           refine zm ?_
           refine zg ?_ (h:=fun Z=>ae rfl rfl (aa (xs:=[(.slv l.length 1 (isl l):A)]) Z qe rfl (by decide) rfl))
           refine zg ?_ (h:=fun Z=>ae rfl rfl (mt Z))
           refine zg ?_ (h:=fun Z=>ae rfl rfl (ab Z vt vc (rS (by omega) (by omega))))
           refine zg ?_ (h:=fun Z=>ae rfl rfl (mt Z))
           refine zg ?_ (h:=fun Z=>ae rfl rfl (ab Z vt vc (rS (by omega) (by omega))))
           refine zg ?_ (h:=fun Z=>ae rfl rfl (bC Z vu vt vt))
           refine zg ?_ (h:=fun Z=>ae rfl rfl (ah Z (cB l (⟨((((gN lst i%10:Nat):Int)+(((q:Nat):Int)-1))-1),((((gN lst i/10:Nat):Int)+(((p:Nat):Int)-1))-1)⟩:Cel) (by omega)) (ac (ArgV.regv _ _ 1 _) (ac (ArgV.va va) an)) rv))
           refine z ?_ (h:=fun Z=>ao Z vt xt)
           refine nl ?_
           exact⟨rfl,bm ⟨(by simp only[c17,c18,c19];first |done |kernel_rfl),(by repeat(first |exact trivial |refine⟨by kernel_rfl,?_⟩))⟩⟩
         ·skip
          have hno:(inB (((gN lst i%10:Nat):Int)+(((q:Nat):Int)-1)) 0 9&&inB (((gN lst i/10:Nat):Int)+(((p:Nat):Int)-1)) 0 9)=false:=by rw[c18];exact Bool.and_false _
          refine rg (zm (zm ?_))
          refine z ?_ (h:=fun Z=>ab Z vt vc (ns (c:=9) rfl))
          refine z ?_ (h:=fun Z=>ah Z (cP (((gN lst i%10:Nat):Int)+(((q:Nat):Int)-1)) 0 9 ) (ac (ArgV.v vt) (ac (ArgV.v vc) (ac (ArgV.v vt) an))) (aH (congrArg Value.bool c17)))
          refine z ?_ (h:=fun Z=>aK Z vt (bE (c:=false) rfl))
          refine zm ?_
          refine zg ?_ (h:=fun Z=>ae rfl rfl (mt Z))
          refine zg ?_ (h:=fun Z=>ae rfl rfl (mt Z))
          refine zg ?_ (h:=fun Z=>ae rfl rfl (ab Z vt vc (ns (c:=9) rfl)))
          refine zg ?_ (h:=fun Z=>ae rfl rfl (ah Z (cP (((gN lst i/10:Nat):Int)+(((p:Nat):Int)-1)) 0 9 ) (ac (ArgV.v vt) (ac (ArgV.v vc) (ac (ArgV.v vt) an))) (aH (congrArg Value.bool c18))))
          refine zg ?_ (h:=fun Z=>ae rfl rfl (aK Z vt (bE (c:=true) rfl)))
          refine z ?_ (h:=fun Z=>ao Z vt xt)
          refine zm (zo (zo (zo (zo (zo (zo (zo (zo (zo ?_)))))))))
          refine z ?_ (h:=fun Z=>al Z vt xc)
          refine zm (zo (zo (zo (zo (zo (zo (zo ?_)))))))
          refine z ?_ (h:=fun Z=>al Z vt xc)
          refine nl ?_
          exact⟨rfl,bm ⟨(by simp only[c17,c18];first |done |kernel_rfl),(by repeat(first |exact trivial |refine⟨by kernel_rfl,?_⟩))⟩⟩
        ·skip
         have hno:(inB (((gN lst i%10:Nat):Int)+(((q:Nat):Int)-1)) 0 9&&inB (((gN lst i/10:Nat):Int)+(((p:Nat):Int)-1)) 0 9)=false:=by rw[c17];rfl
         refine rg (zm (zm ?_))
         refine z ?_ (h:=fun Z=>ab Z vt vc (ns (c:=9) rfl))
         refine z ?_ (h:=fun Z=>ah Z (cP (((gN lst i%10:Nat):Int)+(((q:Nat):Int)-1)) 0 9 ) (ac (ArgV.v vt) (ac (ArgV.v vc) (ac (ArgV.v vt) an))) (aH (congrArg Value.bool c17)))
         refine z ?_ (h:=fun Z=>aK Z vt (bE (c:=true) rfl))
         refine zm (zo (zo (zo (zo (zo ?_)))))
         refine z ?_ (h:=fun Z=>al Z vt xc)
         refine zm (zo (zo (zo (zo (zo (zo (zo (zo (zo ?_)))))))))
         refine z ?_ (h:=fun Z=>al Z vt xc)
         refine zm (zo (zo (zo (zo (zo (zo (zo ?_)))))))
         refine z ?_ (h:=fun Z=>al Z vt xc)
         refine nl ?_
         exact⟨rfl,bm ⟨(by simp only[c17];first |done |kernel_rfl),(by repeat(first |exact trivial |refine⟨by kernel_rfl,?_⟩))⟩⟩
       refine wi (b:=((!(inB (((gN lst i%10:Nat):Int)+(((q:Nat):Int)-1)) 0 9))||((!(inB (((gN lst i/10:Nat):Int)+(((p:Nat):Int)-1)) 0 9))||((decide ((gI (mkI (L++M2)) ((((((gN lst i/10:Nat):Int)+(((p:Nat):Int)-1))*10)+(((gN lst i%10:Nat):Int)+(((q:Nat):Int)-1))).toNat))≠0))||(eJ l (⟨((((gN lst i%10:Nat):Int)+(((q:Nat):Int)-1))-1),((((gN lst i/10:Nat):Int)+(((p:Nat):Int)-1))-1)⟩:Cel)))))) (fun c20=> ?_) (fun c20=> ?_)
       ·skip
        have hsk:=BT.skp hB (by omega) hT2 (by omega) (by omega) hro c20
        have c21:=tj c20
        refine aJ (rg (zm ?_))
        refine z ?_ (h:=fun Z=>ab Z vt vc (rA (by omega) (by omega)))
        refine za (nl ?_)
        exact ar ((q+1),M2) (by refine⟨by omega,?_⟩;first |exact hsk |exact BT.yes hB (by omega) hT2 (by omega) (by omega) hx1 hy1 hmk hfr) (by show 3-(q+1)<3-q;omega) (wkf id (wS<|wS<|wS<|wS<|wS<|wS<|wS<|wS<|wE (e:=(aO (by omega)))<|wX<|wP<|wP<|by(iterate 10 refine wF ?_);exact wN))
       ·skip
        obtain⟨c22,c23⟩:=ly c20
        have c24:(inB (((gN lst i%10:Nat):Int)+(((q:Nat):Int)-1)) 0 9)=true:=by first |(rw[←Bool.not_eq_false'];exact c22) |simpa using c22
        have hx1:=bw.1 c24
        obtain⟨c25,c26⟩:=ly c23
        have c27:(inB (((gN lst i/10:Nat):Int)+(((p:Nat):Int)-1)) 0 9)=true:=by first |(rw[←Bool.not_eq_false'];exact c25) |simpa using c25
        have hy1:=bw.1 c27
        obtain⟨c28,c29⟩:=ly c26
        have c28P:=of_decide_eq_false c28
        have hmk:(kxy (((gN lst i%10:Nat):Int)+(((q:Nat):Int)-1)) (((gN lst i/10:Nat):Int)+(((p:Nat):Int)-1)))∉L++M2:=(jT (jh hx1 hy1).2.2).1 (Decidable.not_not.1 (of_decide_eq_false c28))
        have hfr:bk (ag l) (kxy (((gN lst i%10:Nat):Int)+(((q:Nat):Int)-1)) (((gN lst i/10:Nat):Int)+(((p:Nat):Int)-1)))=true:=uO hro hx1 hy1 c29
        refine sk (sq (rg (zm (zm (zm ?_)))))
        refine z ?_ (h:=fun Z=>ab Z vt vt (rM (by omega) (by omega)))
        refine zm ?_
        refine z ?_ (h:=fun Z=>ab Z vt vt (rA (by omega) (by omega)))
        refine z ?_ (h:=fun Z=>ix0 (k:=(((((gN lst i/10:Nat):Int)+(((p:Nat):Int)-1))*10)+(((gN lst i%10:Nat):Int)+(((q:Nat):Int)-1))).toNat) Z dH iC vt (Int.toNat_of_nonneg (by omega)).symm (by omega))
        refine z ?_ (h:=fun _=>sI iE xc (by(rw[qW];omega)))
        refine nl (rg (zm (zm (zm ?_))))
        refine z ?_ (h:=fun Z=>ab Z vt vt (rM (by omega) (by omega)))
        refine zm ?_
        refine z ?_ (h:=fun Z=>ab Z vt vt (rA (by omega) (by omega)))
        refine z ?_ (h:=fun Z=>aR (h:=128) (xs:=isl ([(((((gN lst i/10:Nat):Int)+(((p:Nat):Int)-1))*10)+(((gN lst i%10:Nat):Int)+(((q:Nat):Int)-1)))]:List Int)) Z dH oZ (.cons vt OpVs.nil) (by decide) (by decide) (by kernel_rfl) rfl)
        refine z ?_ (h:=fun Z=>aI_ (h2:=129) (L3:=((nI M2)++[(((((gN lst i/10:Nat):Int)+(((p:Nat):Int)-1))*10)+(((gN lst i%10:Nat):Int)+(((q:Nat):Int)-1)))])) Z dH oZ (by exact rfl) rfl (by exact rfl) (by(simp;omega)))
        refine za (nl (rg (zm ?_)))
        refine z ?_ (h:=fun Z=>ab Z vt vc (rA (by omega) (by omega)))
        refine za (nl ?_)
        exact ar ((q+1),(M2++[(kxy (((gN lst i%10:Nat):Int)+(((q:Nat):Int)-1)) (((gN lst i/10:Nat):Int)+(((p:Nat):Int)-1)))])) (by refine⟨by omega,?_⟩;first |exact hsk |exact BT.yes hB (by omega) hT2 (by omega) (by omega) hx1 hy1 hmk hfr) (by show 3-(q+1)<3-q;omega) (wkf (bn [(52,129)]) (wS<|wS<|wS<|wS<|wS<|wE (e:=(vsl (by(exact congrArg List.length (by first |rfl |omega |(rw[←List.append_assoc,←yG];rfl) |(rw[←BX];unfold kxy;congr 2;omega) |(simp [mR];done)))) rfl))<|wS<|wS<|wE (e:=(aO (by omega)))<|wX<|wO (e:=aG (fun h=>h) (congrArg isl (by(rw[←List.append_assoc,←yG];rfl))))<|wO (e:=aG (fun h=>h) (congrArg isl (by(rw[←BX];unfold kxy;congr 2;omega))))<|by(iterate 10 refine wF ?_);exact wN))
      ·skip
       have c16P:=of_decide_eq_false c16
       refine aJ (rg (zm ?_))
       refine z ?_ (h:=fun Z=>ab Z vt vc (rA (by omega) (by omega)))
       refine za (nl ?_)
       exact ar ((p+1),M2) (by refine⟨by omega,?_⟩;(have e:q=3:=by omega);subst e;exact hT2) (by show 3-(p+1)<3-p;omega) (wkf id (wS<|wS<|wS<|wS<|wS<|wS<|wS<|wE (e:=(aO (by omega)))<|wX<|wP<|wP<|by(iterate 10 refine wF ?_);exact wN))
     ·skip
      have c14P:=of_decide_eq_false c14
      refine aJ (rg (zm ?_))
      refine z ?_ (h:=fun Z=>ab Z vt vc (rA (by omega) (by omega)))
      refine za (nl ?_)
      exact ar ((i+1),M) (by exact hT.out hB (by omega) (by omega)) (by show 100-(i+1)<100-i;omega) (wkf id (wS<|wS<|wS<|wS<|wS<|wS<|wE (e:=(aO (by rfl)))<|wX<|wP<|wP<|by(iterate 10 refine wF ?_);exact wN))
    ·skip
     have c12P:=of_decide_eq_false c12
     obtain⟨hs1,hs2⟩:=hB.end (by omega)
     refine aJ (rg (zm ?_))
     refine z ?_ (h:=fun Z=>ab Z vt vc (rA (by omega) (by omega)))
     refine za (nl ?_)
     exact ar ((k+1),(L++lst)) (by exact⟨by omega,hs1⟩) (by show 100-(k+1)<100-k;omega) (wkf id (wS<|wS<|wS<|wE (e:=(aO (by omega)))<|wE (e:=(aO (by rfl)))<|wX<|wP<|by(iterate 11 refine wF ?_);exact wN))
  ·skip
   have c5P:=of_decide_eq_false c5
   refine aJ (sq (rg (zm (za (nl (aq ?_))))))
   exact VRes.tmp _ _ _ (by exact rfl) (cc (congrArg (Value.int .i64) (by(have e:k=100:=by omega);subst e;exact(Dn hro).symm)))
end Cl
end Go.Proofs.YtonlghbbdcddoaaGreat
