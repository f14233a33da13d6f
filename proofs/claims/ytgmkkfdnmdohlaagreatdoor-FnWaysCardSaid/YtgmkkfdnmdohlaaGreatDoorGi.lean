/- Walks. -/
import Derived.Test.YtgmkkfdnmdohlaaGreatDoorGA
import Derived.Test.YtgmkkfdnmdohlaaGreatDoorEA
import Derived.Test.YtgmkkfdnmdohlaaGreatDoorC1
import Derived.Test.YtgmkkfdnmdohlaaGreatDoorC12
import Derived.Test.YtgmkkfdnmdohlaaGreatDoorClB
set_option linter.unusedSimpArgs false
set_option linter.unusedVariables false
set_option maxHeartbeats 4000000
set_option maxRecDepth 100000
namespace Go.Proofs.YtgmkkfdnmdohlaaGreatDoor
namespace Cl
open Go.ChangeShapes Go.WideShapes Go.ChangeAt Go.RowKit
theorem vo:(Tryz.prog.info? 31).map (·.size)=some 1:=by kernel_rfl
theorem bU:TI Tryz.prog 29 true 1:=⟨⟨_,Tryz.underlying29,rfl⟩,by kernel_rfl⟩
theorem vp:TI Tryz.prog 31 false 1:=⟨⟨_,Tryz.underlying31,rfl⟩,by kernel_rfl⟩
theorem pk:Tryz.prog.underlying 3=some (.int .i64):=Tryz.underlying3
theorem Cr:Tryz.prog.underlying 43=some (.slice 5):=Tryz.underlying43
theorem pn:Tryz.prog.underlying 5=some (.int .u8):=Tryz.underlying5
theorem nh:Tryz.prog.underlying 58=some (.slice 31):=Tryz.underlying58
theorem jg:ZI Tryz.prog 29 (.agg #[.slice none 0 0]) 1 24:=by unfold ZI;kernel_rfl
theorem Fg:ZI Tryz.prog 5 (.int .u8 0) 1 1:=by unfold ZI;kernel_rfl
theorem pH (b:List Nat) (c:Cu) (hb:b.length≤1048576) (hy:∀ x∈b,x<256) (hi:c.i≤b.length):FnO Tryz.prog 75 [.a (.ptr 1 0)] [(.o 1,some (.o ⟨100,3,true,[(.slv b.length 1 (ysl b):A),aI ((c.i:Nat):Int),aI c.h]⟩))] (V.b (.agg [(.sl 900 0 ((r12 b 6 c).1.length):A)])) [(.o 1,some (.o ⟨100,3,true,[(.slv b.length 1 (ysl b):A),aI ((((r12 b 6 c).2).i:Nat):Int),aI (((r12 b 6 c).2).h)]⟩)),(.o 900,some (.o ⟨3,1,true,pl (isl ((r12 b 6 c).1))⟩))] [1]:=by
 refine bW (N:=36) Tryz.func75 rfl (by kernel_rfl) rfl (Nat.le_of_ble_eq_true rfl) rfl rfl (by kernel_rfl) (by kernel_rfl) ⟨ocs (by kernel_rfl),trivial⟩ [2,4,10,12,14,17,20,23,25,26,28,31,32,35,36,37,38,39] (ip rfl) (fun W own kp im0=> ?_)
 show Wp _ _ _ [kP 0 1 0,kO 1 100 3 true [(.slv b.length 1 (ysl b):A),aI ((c.i:Nat):Int),aI c.h],kF 2,kF 4,kF 10,kF 12,kF 14,kF 17,kF 20,kF 23,kF 25,kF 26,kF 28,kF 31,kF 32,kF 35,kF 36,kF 37,kF 38,kF 39]
 refine sq (rg ?_)
 refine z ?_ (h:=fun Z=>aL (h:=2) (cap:=1) (s:=1) (cells:=[(.val (.slice none 0 0):A)]) Z jg rfl rfl (by decide))
 refine nl (sq (sq (rg (zk (nl (bkk ?_))))))
 refine bg (fun((k,cz):Nat × Cu)=>k≤6∧cz.i≤b.length∧r12 b (6-k) cz=(r12 b 6 c)) (fun((k,cz):Nat × Cu)=>[kP 0 1 0,kP 2 2 0,kI 3 ((k:Nat):Int),kO 1 100 3 true [(.slv b.length 1 (ysl b):A),aI ((cz.i:Nat):Int),aI cz.h],kO 2 29 1 true [(.val (.slice none 0 0):A)],kF 4,kF 10,kF 12,kF 14,kF 17,kF 20,kF 23,kF 25,kF 26,kF 28,kF 31,kF 32,kF 35,kF 36,kF 37,kF 38,kF 39]) (fun((k,cz):Nat × Cu)=>6-k) ((0:Nat),(c:Cu)) (by exact⟨Nat.zero_le _,hi,rfl⟩) (wkf id (wS<|wS<|wE (e:=(be (by rfl)))<|wX<|wX<|by(iterate 17 refine wF ?_);exact wN)) ?_
 rintro⟨k,cz⟩ inv1
 replace inv1:k≤6∧cz.i≤b.length∧r12 b (6-k) cz=(r12 b 6 c):=inv1
 obtain⟨hk6,hi0,hr12⟩:=inv1
 refine sq (sq (rg (zm ?_)))
 refine z ?_ (h:=fun Z=>aa Z vt vc (bA rfl))
 refine nl ?_
 refine wi (fun c2=> ?_) (fun c2=> ?_)
 ·skip
  have c2P:=of_decide_eq_true c2
  have hi4:=r3_i (b:=b) hi0
  have hl8:=zE b cz
  have hia:=cg (n:=4) hi4
  have hib:=cg (n:=256) hia
  have hic:=cg (n:=256) hib
  have hid:=cg (n:=256) hic
  have hie:=cg (n:=256) hid
  refine sk (sq (bkk (sq (rg (zm ?_)))))
  refine z ?_ (h:=fun Z=>aK (d:=10) (f:=98) (os:=[(.o 1,some (.o ⟨100,3,true,[(.slv b.length 1 (ysl b):A),aI ((cz.i:Nat):Int),aI cz.h]⟩))]) (os':=[(.o 1,some (.o ⟨100,3,true,[(.slv b.length 1 (ysl b):A),aI ((((r3 b cz).2).i:Nat):Int),aI (((r3 b cz).2).h)]⟩)),(.o 4,some (.o ⟨3,1,true,pl (isl ((r3 b cz).1))⟩))]) (r:=V.b (.agg [(.sl 4 0 ((r3 b cz).1.length):A)])) (bs:=[.a (.ptr 1 0)]) (keep:=[1]) (new:=[4]) (dead:=[]) Z (FnO.ren' (jQ b cz (by omega) (by omega) (by omega)) (aX [(900,4)]) rfl rfl (by kernel_rfl) (by kernel_rfl) ⟨ocs (by kernel_rfl),bh (fun _=>rfl),trivial⟩ (by kernel_rfl) rfl (by simp only[bv,Ob.ren,aY,ak,am,aj,aO,aN];first |done |rfl) (by simp only[bv,Ob.ren,aY,ak,am,aj,aO,aN];first |done |rfl) rfl rfl) (by kernel_rfl) ⟨ocs (by kernel_rfl),bh (fun _=>rfl),trivial⟩ (by kernel_rfl) (ArgOs.cons (ArgO.slot 9 (.a (.ptr 1 0))) (ArgOs.nil)))
  refine z ?_ (h:=fun Z=>aL (h:=10) (cap:=1) (s:=1) (cells:=[(.val (.slice none 0 0):A)]) Z jg rfl rfl (by decide))
  refine z ?_ (h:=fun _=>aE (cells:=[(.sl 4 0 ((r3 b cz).1.length):A)]) bU xt (by exact rfl) (by decide) (by exact ob1 rfl) (by exact Nat.le_of_ble_eq_true rfl) (by exact rfl))
  refine nl (sq (sq (rg (zm ?_))))
  refine z ?_ (h:=fun Z=>aK (d:=12) (f:=99) (os:=[(.o 1,some (.o ⟨100,3,true,[(.slv b.length 1 (ysl b):A),aI ((((r3 b cz).2).i:Nat):Int),aI (((r3 b cz).2).h)]⟩))]) (os':=[(.o 1,some (.o ⟨100,3,true,[(.slv b.length 1 (ysl b):A),aI (((cuN b ((r3 b cz).2) 4).i:Nat):Int),aI ((cuN b ((r3 b cz).2) 4).h)]⟩))]) (r:=V.v (.bool (decide (cuX b ((r3 b cz).2) 4=0)))) (bs:=[.a (.ptr 1 0),.a (.val (.int .i64 4))]) (keep:=[1]) (new:=[]) (dead:=[]) Z ((iA b ((r3 b cz).2) 4 (by omega) (by omega) (by omega) (by omega) (by omega))) (by kernel_rfl) ⟨ocs (by kernel_rfl),trivial⟩ (by kernel_rfl) (ArgOs.cons (ArgO.slot 11 (.a (.ptr 1 0))) (ArgOs.cons ((ArgO.v vc)) (ArgOs.nil))))
  refine nl ?_
  refine wi (b:=(decide (cuX b ((r3 b cz).2) 4=0))) (fun c3=> ?_) (fun c3=> ?_)
  ·skip
   have hs12:=Kn (of_decide_eq_true c3)
   have hdl:=Gy (f4 b (cuN b (r3 b cz).2 4))
   have hq1:cuX b (cuN b (r3 b cz).2 4) 256<256:=du (by decide)
   have hq2:cuX b (cuN b (cuN b (r3 b cz).2 4) 256) 256<256:=du (by decide)
   have hq3:cuX b (cuN b (cuN b (cuN b (r3 b cz).2 4) 256) 256) 256<256:=du (by decide)
   have hq4:cuX b (cuN b (cuN b (cuN b (cuN b (r3 b cz).2 4) 256) 256) 256) 256<256:=du (by decide)
   have hdl2:(dch [(cuX b (cuN b (r3 b cz).2 4) 256),(cuX b (cuN b (cuN b (r3 b cz).2 4) 256) 256),(cuX b (cuN b (cuN b (cuN b (r3 b cz).2 4) 256) 256) 256),(cuX b (cuN b (cuN b (cuN b (cuN b (r3 b cz).2 4) 256) 256) 256) 256)]).length≤9:=hdl
   refine rg (zm ?_)
   refine z ?_ (h:=fun Z=>aK (d:=14) (f:=76) (os:=[(.o 1,some (.o ⟨100,3,true,[(.slv b.length 1 (ysl b):A),aI (((cuN b ((r3 b cz).2) 4).i:Nat):Int),aI ((cuN b ((r3 b cz).2) 4).h)]⟩))]) (os':=[(.o 1,some (.o ⟨100,3,true,[(.slv b.length 1 (ysl b):A),aI (((cuN b (cuN b ((r3 b cz).2) 4) 256).i:Nat):Int),aI ((cuN b (cuN b ((r3 b cz).2) 4) 256).h)]⟩))]) (r:=V.v (.int .i64 (((cuX b (cuN b ((r3 b cz).2) 4) 256):Nat):Int))) (bs:=[.a (.ptr 1 0),.a (.val (.int .i64 256))]) (keep:=[1]) (new:=[]) (dead:=[]) Z ((bl b (cuN b ((r3 b cz).2) 4) 256 (by omega) (by omega) (by omega) (by omega) (by omega))) (by kernel_rfl) ⟨ocs (by kernel_rfl),trivial⟩ (by kernel_rfl) (ArgOs.cons (ArgO.slot 13 (.a (.ptr 1 0))) (ArgOs.cons ((ArgO.v vc)) (ArgOs.nil))))
   refine z ?_ (h:=fun Z=>gH Z vt (oh (c:=(((cuX b (cuN b ((r3 b cz).2) 4) 256):Nat):Int)) pk pn (w_u8 (by omega) (by omega))))
   refine zm ?_
   refine z ?_ (h:=fun Z=>aK (d:=17) (f:=76) (os:=[(.o 1,some (.o ⟨100,3,true,[(.slv b.length 1 (ysl b):A),aI (((cuN b (cuN b ((r3 b cz).2) 4) 256).i:Nat):Int),aI ((cuN b (cuN b ((r3 b cz).2) 4) 256).h)]⟩))]) (os':=[(.o 1,some (.o ⟨100,3,true,[(.slv b.length 1 (ysl b):A),aI (((cuN b (cuN b (cuN b ((r3 b cz).2) 4) 256) 256).i:Nat):Int),aI ((cuN b (cuN b (cuN b ((r3 b cz).2) 4) 256) 256).h)]⟩))]) (r:=V.v (.int .i64 (((cuX b (cuN b (cuN b ((r3 b cz).2) 4) 256) 256):Nat):Int))) (bs:=[.a (.ptr 1 0),.a (.val (.int .i64 256))]) (keep:=[1]) (new:=[]) (dead:=[]) Z ((bl b (cuN b (cuN b ((r3 b cz).2) 4) 256) 256 (by omega) (by omega) (by omega) (by omega) (by omega))) (by kernel_rfl) ⟨ocs (by kernel_rfl),trivial⟩ (by kernel_rfl) (ArgOs.cons (ArgO.slot 16 (.a (.ptr 1 0))) (ArgOs.cons ((ArgO.v vc)) (ArgOs.nil))))
   refine z ?_ (h:=fun Z=>gH Z vt (oh (c:=(((cuX b (cuN b (cuN b ((r3 b cz).2) 4) 256) 256):Nat):Int)) pk pn (w_u8 (by omega) (by omega))))
   refine zm ?_
   refine z ?_ (h:=fun Z=>aK (d:=20) (f:=76) (os:=[(.o 1,some (.o ⟨100,3,true,[(.slv b.length 1 (ysl b):A),aI (((cuN b (cuN b (cuN b ((r3 b cz).2) 4) 256) 256).i:Nat):Int),aI ((cuN b (cuN b (cuN b ((r3 b cz).2) 4) 256) 256).h)]⟩))]) (os':=[(.o 1,some (.o ⟨100,3,true,[(.slv b.length 1 (ysl b):A),aI (((cuN b (cuN b (cuN b (cuN b ((r3 b cz).2) 4) 256) 256) 256).i:Nat):Int),aI ((cuN b (cuN b (cuN b (cuN b ((r3 b cz).2) 4) 256) 256) 256).h)]⟩))]) (r:=V.v (.int .i64 (((cuX b (cuN b (cuN b (cuN b ((r3 b cz).2) 4) 256) 256) 256):Nat):Int))) (bs:=[.a (.ptr 1 0),.a (.val (.int .i64 256))]) (keep:=[1]) (new:=[]) (dead:=[]) Z ((bl b (cuN b (cuN b (cuN b ((r3 b cz).2) 4) 256) 256) 256 (by omega) (by omega) (by omega) (by omega) (by omega))) (by kernel_rfl) ⟨ocs (by kernel_rfl),trivial⟩ (by kernel_rfl) (ArgOs.cons (ArgO.slot 19 (.a (.ptr 1 0))) (ArgOs.cons ((ArgO.v vc)) (ArgOs.nil))))
   refine z ?_ (h:=fun Z=>gH Z vt (oh (c:=(((cuX b (cuN b (cuN b (cuN b ((r3 b cz).2) 4) 256) 256) 256):Nat):Int)) pk pn (w_u8 (by omega) (by omega))))
   refine zm ?_
   refine z ?_ (h:=fun Z=>aK (d:=23) (f:=76) (os:=[(.o 1,some (.o ⟨100,3,true,[(.slv b.length 1 (ysl b):A),aI (((cuN b (cuN b (cuN b (cuN b ((r3 b cz).2) 4) 256) 256) 256).i:Nat):Int),aI ((cuN b (cuN b (cuN b (cuN b ((r3 b cz).2) 4) 256) 256) 256).h)]⟩))]) (os':=[(.o 1,some (.o ⟨100,3,true,[(.slv b.length 1 (ysl b):A),aI (((cuN b (cuN b (cuN b (cuN b (cuN b ((r3 b cz).2) 4) 256) 256) 256) 256).i:Nat):Int),aI ((cuN b (cuN b (cuN b (cuN b (cuN b ((r3 b cz).2) 4) 256) 256) 256) 256).h)]⟩))]) (r:=V.v (.int .i64 (((cuX b (cuN b (cuN b (cuN b (cuN b ((r3 b cz).2) 4) 256) 256) 256) 256):Nat):Int))) (bs:=[.a (.ptr 1 0),.a (.val (.int .i64 256))]) (keep:=[1]) (new:=[]) (dead:=[]) Z ((bl b (cuN b (cuN b (cuN b (cuN b ((r3 b cz).2) 4) 256) 256) 256) 256 (by omega) (by omega) (by omega) (by omega) (by omega))) (by kernel_rfl) ⟨ocs (by kernel_rfl),trivial⟩ (by kernel_rfl) (ArgOs.cons (ArgO.slot 22 (.a (.ptr 1 0))) (ArgOs.cons ((ArgO.v vc)) (ArgOs.nil))))
   refine z ?_ (h:=fun Z=>gH Z vt (oh (c:=(((cuX b (cuN b (cuN b (cuN b (cuN b ((r3 b cz).2) 4) 256) 256) 256) 256):Nat):Int)) pk pn (w_u8 (by omega) (by omega))))
   refine z ?_ (h:=fun Z=>aP (h:=25) (xs:=ysl ([(cuX b (cuN b ((r3 b cz).2) 4) 256),(cuX b (cuN b (cuN b ((r3 b cz).2) 4) 256) 256),(cuX b (cuN b (cuN b (cuN b ((r3 b cz).2) 4) 256) 256) 256),(cuX b (cuN b (cuN b (cuN b (cuN b ((r3 b cz).2) 4) 256) 256) 256) 256)]:List Nat)) Z Cr Fg (.cons vt (.cons vt (.cons vt (.cons vt OpVs.nil)))) (by decide) (by decide) (by kernel_rfl) rfl)
   refine yI (tV (k:=25) (h:=25) (T:=5) (s:=1) (ex:=true) (off:=0) (n:=4) (xs:=ysl [(cuX b (cuN b ((r3 b cz).2) 4) 256),(cuX b (cuN b (cuN b ((r3 b cz).2) 4) 256) 256),(cuX b (cuN b (cuN b (cuN b ((r3 b cz).2) 4) 256) 256) 256),(cuX b (cuN b (cuN b (cuN b (cuN b ((r3 b cz).2) 4) 256) 256) 256) 256)]) (ys:=ysl [(cuX b (cuN b ((r3 b cz).2) 4) 256),(cuX b (cuN b (cuN b ((r3 b cz).2) 4) 256) 256),(cuX b (cuN b (cuN b (cuN b ((r3 b cz).2) 4) 256) 256) 256),(cuX b (cuN b (cuN b (cuN b (cuN b ((r3 b cz).2) 4) 256) 256) 256) 256)]) (by kernel_rfl) (by kernel_rfl) (by simp only[wU];first |omega |(simp;done) |(first |omega |assumption |exact hro |(simp;done) |exact Ak hq1 hq2 hq3 hq4)) (by decide) ((by simp only[Nat.zero_mul,List.drop_zero];exact List.take_of_length_le (by rw[wU];simp)))) ?_
   refine z ?_ (h:=fun Z=>aK (d:=26) (f:=100) (os:=[]) (os':=[(.o 12,some (.o ⟨3,1,true,pl (isl (dch [(cuX b (cuN b ((r3 b cz).2) 4) 256),(cuX b (cuN b (cuN b ((r3 b cz).2) 4) 256) 256),(cuX b (cuN b (cuN b (cuN b ((r3 b cz).2) 4) 256) 256) 256),(cuX b (cuN b (cuN b (cuN b (cuN b ((r3 b cz).2) 4) 256) 256) 256) 256)]))⟩))]) (r:=V.b (.agg [(.sl 12 0 ((dch [(cuX b (cuN b ((r3 b cz).2) 4) 256),(cuX b (cuN b (cuN b ((r3 b cz).2) 4) 256) 256),(cuX b (cuN b (cuN b (cuN b ((r3 b cz).2) 4) 256) 256) 256),(cuX b (cuN b (cuN b (cuN b (cuN b ((r3 b cz).2) 4) 256) 256) 256) 256)]).length):A)])) (bs:=[.a (.slv 4 1 (ysl [(cuX b (cuN b ((r3 b cz).2) 4) 256),(cuX b (cuN b (cuN b ((r3 b cz).2) 4) 256) 256),(cuX b (cuN b (cuN b (cuN b ((r3 b cz).2) 4) 256) 256) 256),(cuX b (cuN b (cuN b (cuN b (cuN b ((r3 b cz).2) 4) 256) 256) 256) 256)]))]) (keep:=[]) (new:=[12]) (dead:=[]) Z (FnO.ren' (lx [(cuX b (cuN b ((r3 b cz).2) 4) 256),(cuX b (cuN b (cuN b ((r3 b cz).2) 4) 256) 256),(cuX b (cuN b (cuN b (cuN b ((r3 b cz).2) 4) 256) 256) 256),(cuX b (cuN b (cuN b (cuN b (cuN b ((r3 b cz).2) 4) 256) 256) 256) 256)] (by(simp;done)) (by exact Ak hq1 hq2 hq3 hq4)) (aX [(900,12)]) rfl rfl (by kernel_rfl) (by kernel_rfl) ⟨bh (fun _=>rfl),trivial⟩ (by kernel_rfl) rfl (by simp only[bv,Ob.ren,aY,ak,am,aj,aO,aN];first |done |rfl) (by simp only[bv,Ob.ren,aY,ak,am,aj,aO,aN];first |done |rfl) rfl rfl) (by kernel_rfl) ⟨bh (fun _=>rfl),trivial⟩ (by kernel_rfl) (ArgOs.cons (ArgO.slot 25 (.a (.slv 4 1 (ysl [(cuX b (cuN b ((r3 b cz).2) 4) 256),(cuX b (cuN b (cuN b ((r3 b cz).2) 4) 256) 256),(cuX b (cuN b (cuN b (cuN b ((r3 b cz).2) 4) 256) 256) 256),(cuX b (cuN b (cuN b (cuN b (cuN b ((r3 b cz).2) 4) 256) 256) 256) 256)])))) (ArgOs.nil)))
   refine z ?_ (h:=fun _=>aE (cells:=[(.sl 12 0 ((dch [(cuX b (cuN b ((r3 b cz).2) 4) 256),(cuX b (cuN b (cuN b ((r3 b cz).2) 4) 256) 256),(cuX b (cuN b (cuN b (cuN b ((r3 b cz).2) 4) 256) 256) 256),(cuX b (cuN b (cuN b (cuN b (cuN b ((r3 b cz).2) 4) 256) 256) 256) 256)]).length):A)]) bU xt (by exact rfl) (by decide) (by exact ob1 rfl) (by exact Nat.le_of_ble_eq_true rfl) (by exact rfl))
   refine nl (sq ?_)
   rcases Bool.eq_false_or_eq_true ((bj (dch [(cuX b (cuN b ((r3 b cz).2) 4) 256),(cuX b (cuN b (cuN b ((r3 b cz).2) 4) 256) 256),(cuX b (cuN b (cuN b (cuN b ((r3 b cz).2) 4) 256) 256) 256),(cuX b (cuN b (cuN b (cuN b (cuN b ((r3 b cz).2) 4) 256) 256) 256) 256)])))with c4 |c4
   ·skip
    have hro:=c4
    have hcb:=Dq (dr hro)
    refine rg ?_
    refine z ?_ (h:=fun Z=>ab (xs:=[(.sl 12 0 ((dch [(cuX b (cuN b ((r3 b cz).2) 4) 256),(cuX b (cuN b (cuN b ((r3 b cz).2) 4) 256) 256),(cuX b (cuN b (cuN b (cuN b ((r3 b cz).2) 4) 256) 256) 256),(cuX b (cuN b (cuN b (cuN b (cuN b ((r3 b cz).2) 4) 256) 256) 256) 256)]).length):A)]) Z bU rfl (by decide) rfl)
    refine z ?_ (h:=fun Z=>ag Z (bH (dch [(cuX b (cuN b ((r3 b cz).2) 4) 256),(cuX b (cuN b (cuN b ((r3 b cz).2) 4) 256) 256),(cuX b (cuN b (cuN b (cuN b ((r3 b cz).2) 4) 256) 256) 256),(cuX b (cuN b (cuN b (cuN b (cuN b ((r3 b cz).2) 4) 256) 256) 256) 256)]) (by omega)) (ac (ArgV.reg _ _ _ (s:=1) (by simp [isl]) (by exact List.take_of_length_le (by simp [isl]))) an) (bi (congrArg Value.bool c4)))
    refine zm ?_
    refine zg ?_ (h:=fun Z=>ae rfl rfl (ab (xs:=[(.sl 12 0 ((dch [(cuX b (cuN b ((r3 b cz).2) 4) 256),(cuX b (cuN b (cuN b ((r3 b cz).2) 4) 256) 256),(cuX b (cuN b (cuN b (cuN b ((r3 b cz).2) 4) 256) 256) 256),(cuX b (cuN b (cuN b (cuN b (cuN b ((r3 b cz).2) 4) 256) 256) 256) 256)]).length):A)]) Z bU rfl (by decide) rfl))
    refine zg ?_ (h:=fun Z=>ae rfl rfl (ag Z (hG (dch [(cuX b (cuN b ((r3 b cz).2) 4) 256),(cuX b (cuN b (cuN b ((r3 b cz).2) 4) 256) 256),(cuX b (cuN b (cuN b (cuN b ((r3 b cz).2) 4) 256) 256) 256),(cuX b (cuN b (cuN b (cuN b (cuN b ((r3 b cz).2) 4) 256) 256) 256) 256)]) (by omega)) (ac (ArgV.reg _ _ _ (s:=1) (by simp [isl]) (by exact List.take_of_length_le (by simp [isl]))) an) rv))
    refine zg ?_ (h:=fun Z=>ae rfl rfl (ag Z (cd (((cnt (ao (dch [(cuX b (cuN b ((r3 b cz).2) 4) 256),(cuX b (cuN b (cuN b ((r3 b cz).2) 4) 256) 256),(cuX b (cuN b (cuN b (cuN b ((r3 b cz).2) 4) 256) 256) 256),(cuX b (cuN b (cuN b (cuN b (cuN b ((r3 b cz).2) 4) 256) 256) 256) 256)]))):Nat):Int) 1 60 ) (ac (ArgV.v vt) (ac (ArgV.v vc) (ac (ArgV.v vc) an))) rv))
    refine z ?_ (h:=fun Z=>au Z vt xt)
    refine nl ?_
    refine wi (b:=(inB (((cnt (ao (dch [(cuX b (cuN b ((r3 b cz).2) 4) 256),(cuX b (cuN b (cuN b ((r3 b cz).2) 4) 256) 256),(cuX b (cuN b (cuN b (cuN b ((r3 b cz).2) 4) 256) 256) 256),(cuX b (cuN b (cuN b (cuN b (cuN b ((r3 b cz).2) 4) 256) 256) 256) 256)]))):Nat):Int) 1 60)) (fun c5=> ?_) (fun c5=> ?_)
    ·skip
     have hfin:=hr12.symm.trans (AN (k:=6-k) (by omega) hs12 hro c5)
     refine sq (rg ?_)
     refine z ?_ (h:=fun Z=>ab (xs:=[(.sl 12 0 ((dch [(cuX b (cuN b ((r3 b cz).2) 4) 256),(cuX b (cuN b (cuN b ((r3 b cz).2) 4) 256) 256),(cuX b (cuN b (cuN b (cuN b ((r3 b cz).2) 4) 256) 256) 256),(cuX b (cuN b (cuN b (cuN b (cuN b ((r3 b cz).2) 4) 256) 256) 256) 256)]).length):A)]) Z bU rfl (by decide) rfl)
     refine z ?_ (h:=fun _=>aE (cells:=[(.sl 12 0 ((dch [(cuX b (cuN b ((r3 b cz).2) 4) 256),(cuX b (cuN b (cuN b ((r3 b cz).2) 4) 256) 256),(cuX b (cuN b (cuN b (cuN b ((r3 b cz).2) 4) 256) 256) 256),(cuX b (cuN b (cuN b (cuN b (cuN b ((r3 b cz).2) 4) 256) 256) 256) 256)]).length):A)]) bU xt (by exact rfl) (by decide) (by exact ob1 rfl) (by exact Nat.le_of_ble_eq_true rfl) (by exact rfl))
     refine nl (aC ?_)
     exact⟨[kP 2 2 0,kO 1 100 3 true [(.slv b.length 1 (ysl b):A),aI (((cuN b (cuN b (cuN b (cuN b (cuN b ((r3 b cz).2) 4) 256) 256) 256) 256).i:Nat):Int),aI ((cuN b (cuN b (cuN b (cuN b (cuN b ((r3 b cz).2) 4) 256) 256) 256) 256).h)],kO 2 29 1 true [(.sl 900 0 ((dch [(cuX b (cuN b ((r3 b cz).2) 4) 256),(cuX b (cuN b (cuN b ((r3 b cz).2) 4) 256) 256),(cuX b (cuN b (cuN b (cuN b ((r3 b cz).2) 4) 256) 256) 256),(cuX b (cuN b (cuN b (cuN b (cuN b ((r3 b cz).2) 4) 256) 256) 256) 256)]).length):A)],kO 900 3 1 true (pl (isl (dch [(cuX b (cuN b ((r3 b cz).2) 4) 256),(cuX b (cuN b (cuN b ((r3 b cz).2) 4) 256) 256),(cuX b (cuN b (cuN b (cuN b ((r3 b cz).2) 4) 256) 256) 256),(cuX b (cuN b (cuN b (cuN b (cuN b ((r3 b cz).2) 4) 256) 256) 256) 256)]))),kF 4,kF 10,kF 12,kF 14,kF 17,kF 20,kF 23,kF 26,kF 28,kF 31,kF 32,kF 35,kF 36,kF 37,kF 38,kF 39],wkf (aX [(900,12)]) (wS<|wX<|wX<|wP<|by(iterate 16 refine wF ?_);exact wN),⟨bT (c:=[(.slv b.length 1 (ysl b):A),aI (((cuN b (cuN b (cuN b (cuN b (cuN b ((r3 b cz).2) 4) 256) 256) 256) 256).i:Nat):Int),aI ((cuN b (cuN b (cuN b (cuN b (cuN b ((r3 b cz).2) 4) 256) 256) 256) 256).h)]) (by kernel_rfl) (by exact eB (congrArg Prod.snd hfin).symm _ _),bT (c:=pl (isl (dch [(cuX b (cuN b ((r3 b cz).2) 4) 256),(cuX b (cuN b (cuN b ((r3 b cz).2) 4) 256) 256),(cuX b (cuN b (cuN b (cuN b ((r3 b cz).2) 4) 256) 256) 256),(cuX b (cuN b (cuN b (cuN b (cuN b ((r3 b cz).2) 4) 256) 256) 256) 256)]))) (by kernel_rfl) (congrArg (fun z=>pl (isl z)) (by exact(congrArg Prod.fst hfin).symm)),trivial⟩,dV (h:=2) ⟨29,1,true,[(.sl 900 0 ((dch [(cuX b (cuN b ((r3 b cz).2) 4) 256),(cuX b (cuN b (cuN b ((r3 b cz).2) 4) 256) 256),(cuX b (cuN b (cuN b (cuN b ((r3 b cz).2) 4) 256) 256) 256),(cuX b (cuN b (cuN b (cuN b (cuN b ((r3 b cz).2) 4) 256) 256) 256) 256)]).length):A)]⟩ (by kernel_rfl) (by kernel_rfl) bU (Nat.le_of_ble_eq_true rfl) (by(exact congrArg (fun z:Nat=>[A.sl 900 0 z]) (by first |exact congrArg (fun z=>z.1.length) hfin.symm |exact congrArg (fun z=>z.1.length) hfin)))⟩
    ·skip
     have hnx:=wB (k:=6-k) (by omega) hs12 (.inr c5)
     refine sk (rg (zm ?_))
     refine z ?_ (h:=fun Z=>aa Z vt vc (rA (by omega) (by omega)))
     refine za (nl ?_)
     exact aA ((k+1),(cuN b (cuN b (cuN b (cuN b (cuN b ((r3 b cz).2) 4) 256) 256) 256) 256)) (by refine⟨by omega,by first |exact hie |exact hia,?_⟩;rw[show 6-(k+1)=6-k-1 by omega];exact hnx.symm.trans hr12) (by show 6-(k+1)<6-k;omega) (wkf id (wS<|wS<|wE (e:=(be (by rfl)))<|wX<|wX<|by(iterate 17 refine wF ?_);exact wN))
   ·skip
    have hnx:=wB (k:=6-k) (by omega) hs12 (.inl c4)
    refine rg ?_
    refine z ?_ (h:=fun Z=>ab (xs:=[(.sl 12 0 ((dch [(cuX b (cuN b ((r3 b cz).2) 4) 256),(cuX b (cuN b (cuN b ((r3 b cz).2) 4) 256) 256),(cuX b (cuN b (cuN b (cuN b ((r3 b cz).2) 4) 256) 256) 256),(cuX b (cuN b (cuN b (cuN b (cuN b ((r3 b cz).2) 4) 256) 256) 256) 256)]).length):A)]) Z bU rfl (by decide) rfl)
    refine z ?_ (h:=fun Z=>ag Z (bH (dch [(cuX b (cuN b ((r3 b cz).2) 4) 256),(cuX b (cuN b (cuN b ((r3 b cz).2) 4) 256) 256),(cuX b (cuN b (cuN b (cuN b ((r3 b cz).2) 4) 256) 256) 256),(cuX b (cuN b (cuN b (cuN b (cuN b ((r3 b cz).2) 4) 256) 256) 256) 256)]) (by omega)) (ac (ArgV.reg _ _ _ (s:=1) (by simp [isl]) (by exact List.take_of_length_le (by simp [isl]))) an) (bi (congrArg Value.bool c4)))
    refine zm (zo (zo (zo ?_)))
    refine z ?_ (h:=fun Z=>ar Z vt xc)
    refine nl (wf (sk (rg (zm ?_))))
    refine z ?_ (h:=fun Z=>aa Z vt vc (rA (by omega) (by omega)))
    refine za (nl ?_)
    exact aA ((k+1),(cuN b (cuN b (cuN b (cuN b (cuN b ((r3 b cz).2) 4) 256) 256) 256) 256)) (by refine⟨by omega,by first |exact hie |exact hia,?_⟩;rw[show 6-(k+1)=6-k-1 by omega];exact hnx.symm.trans hr12) (by show 6-(k+1)<6-k;omega) (wkf id (wS<|wS<|wE (e:=(be (by rfl)))<|wX<|wX<|by(iterate 17 refine wF ?_);exact wN))
  ·skip
   have hs12:=Ko (of_decide_eq_false c3)
   refine sk (sq ?_)
   rcases Bool.eq_false_or_eq_true ((bj ((r3 b cz).1)))with c6 |c6
   ·skip
    have hro:=c6
    have hcb:=Dq (dr hro)
    refine rg ?_
    refine z ?_ (h:=fun Z=>ab (xs:=[(.sl 4 0 ((r3 b cz).1.length):A)]) Z bU rfl (by decide) rfl)
    refine z ?_ (h:=fun Z=>ag Z (bH ((r3 b cz).1) (by omega)) (ac (ArgV.reg _ _ _ (s:=1) (by simp [isl]) (by exact List.take_of_length_le (by simp [isl]))) an) (bi (congrArg Value.bool c6)))
    refine zm ?_
    refine zg ?_ (h:=fun Z=>ae rfl rfl (ab (xs:=[(.sl 4 0 ((r3 b cz).1.length):A)]) Z bU rfl (by decide) rfl))
    refine zg ?_ (h:=fun Z=>ae rfl rfl (ag Z (hG ((r3 b cz).1) (by omega)) (ac (ArgV.reg _ _ _ (s:=1) (by simp [isl]) (by exact List.take_of_length_le (by simp [isl]))) an) rv))
    refine zg ?_ (h:=fun Z=>ae rfl rfl (ag Z (cd (((cnt (ao ((r3 b cz).1))):Nat):Int) 1 60 ) (ac (ArgV.v vt) (ac (ArgV.v vc) (ac (ArgV.v vc) an))) rv))
    refine z ?_ (h:=fun Z=>au Z vt xt)
    refine nl ?_
    refine wi (b:=(inB (((cnt (ao ((r3 b cz).1))):Nat):Int) 1 60)) (fun c7=> ?_) (fun c7=> ?_)
    ·skip
     have hfin:=hr12.symm.trans (AN (k:=6-k) (by omega) hs12 hro c7)
     refine sq (rg ?_)
     refine z ?_ (h:=fun Z=>ab (xs:=[(.sl 4 0 ((r3 b cz).1.length):A)]) Z bU rfl (by decide) rfl)
     refine z ?_ (h:=fun _=>aE (cells:=[(.sl 4 0 ((r3 b cz).1.length):A)]) bU xt (by exact rfl) (by decide) (by exact ob1 rfl) (by exact Nat.le_of_ble_eq_true rfl) (by exact rfl))
     refine nl (aC ?_)
     exact⟨[kP 2 2 0,kO 1 100 3 true [(.slv b.length 1 (ysl b):A),aI (((cuN b ((r3 b cz).2) 4).i:Nat):Int),aI ((cuN b ((r3 b cz).2) 4).h)],kO 2 29 1 true [(.sl 900 0 ((r3 b cz).1.length):A)],kO 900 3 1 true (pl (isl ((r3 b cz).1))),kF 4,kF 10,kF 12,kF 14,kF 17,kF 20,kF 23,kF 25,kF 26,kF 28,kF 31,kF 32,kF 35,kF 36,kF 37,kF 38,kF 39],wkf (aX [(900,4)]) (wS<|wX<|wX<|wP<|by(iterate 17 refine wF ?_);exact wN),⟨bT (c:=[(.slv b.length 1 (ysl b):A),aI (((cuN b ((r3 b cz).2) 4).i:Nat):Int),aI ((cuN b ((r3 b cz).2) 4).h)]) (by kernel_rfl) (by exact eB (congrArg Prod.snd hfin).symm _ _),bT (c:=pl (isl ((r3 b cz).1))) (by kernel_rfl) (congrArg (fun z=>pl (isl z)) (by exact(congrArg Prod.fst hfin).symm)),trivial⟩,dV (h:=2) ⟨29,1,true,[(.sl 900 0 ((r3 b cz).1.length):A)]⟩ (by kernel_rfl) (by kernel_rfl) bU (Nat.le_of_ble_eq_true rfl) (by(exact congrArg (fun z:Nat=>[A.sl 900 0 z]) (by first |exact congrArg (fun z=>z.1.length) hfin.symm |exact congrArg (fun z=>z.1.length) hfin)))⟩
    ·skip
     have hnx:=wB (k:=6-k) (by omega) hs12 (.inr c7)
     refine sk (rg (zm ?_))
     refine z ?_ (h:=fun Z=>aa Z vt vc (rA (by omega) (by omega)))
     refine za (nl ?_)
     exact aA ((k+1),(cuN b ((r3 b cz).2) 4)) (by refine⟨by omega,by first |exact hie |exact hia,?_⟩;rw[show 6-(k+1)=6-k-1 by omega];exact hnx.symm.trans hr12) (by show 6-(k+1)<6-k;omega) (wkf id (wS<|wS<|wE (e:=(be (by rfl)))<|wX<|wX<|by(iterate 17 refine wF ?_);exact wN))
   ·skip
    have hnx:=wB (k:=6-k) (by omega) hs12 (.inl c6)
    refine rg ?_
    refine z ?_ (h:=fun Z=>ab (xs:=[(.sl 4 0 ((r3 b cz).1.length):A)]) Z bU rfl (by decide) rfl)
    refine z ?_ (h:=fun Z=>ag Z (bH ((r3 b cz).1) (by omega)) (ac (ArgV.reg _ _ _ (s:=1) (by simp [isl]) (by exact List.take_of_length_le (by simp [isl]))) an) (bi (congrArg Value.bool c6)))
    refine zm (zo (zo (zo ?_)))
    refine z ?_ (h:=fun Z=>ar Z vt xc)
    refine nl (wf (sk (rg (zm ?_))))
    refine z ?_ (h:=fun Z=>aa Z vt vc (rA (by omega) (by omega)))
    refine za (nl ?_)
    exact aA ((k+1),(cuN b ((r3 b cz).2) 4)) (by refine⟨by omega,by first |exact hie |exact hia,?_⟩;rw[show 6-(k+1)=6-k-1 by omega];exact hnx.symm.trans hr12) (by show 6-(k+1)<6-k;omega) (wkf id (wS<|wS<|wE (e:=(be (by rfl)))<|wX<|wX<|by(iterate 17 refine wF ?_);exact wN))
 ·skip
  have c2P:=of_decide_eq_false c2
  have hend:=HJ (b:=b) (k:=6-k) (c:=cz) (by omega)
  have hfin:=hr12.symm.trans hend
  refine aU (sq (rg ?_))
  refine z ?_ (h:=fun Z=>ag Z (gz 4 3 (by omega) (by omega)) (ac (ArgV.v vc) (ac (ArgV.v vc) an)) (ResV.reg _ _ _ _ 35))
  refine z ?_ (h:=fun _=>aE (cells:=[(.sl 35 0 ((bF 4 3).length):A)]) bU xt (by exact rfl) (by decide) (by exact ob1 rfl) (by exact Nat.le_of_ble_eq_true rfl) (by exact rfl))
  refine nl (aC ?_)
  exact⟨[kP 2 2 0,kO 1 100 3 true [(.slv b.length 1 (ysl b):A),aI ((cz.i:Nat):Int),aI cz.h],kO 2 29 1 true [(.sl 900 0 ((bF 4 3).length):A)],kO 900 3 1 true (pl (isl (bF 4 3))),kF 4,kF 10,kF 12,kF 14,kF 17,kF 20,kF 23,kF 25,kF 26,kF 28,kF 31,kF 32,kF 35,kF 36,kF 37,kF 38,kF 39],wkf (aX [(900,35)]) (wS<|wX<|wX<|wP<|by(iterate 17 refine wF ?_);exact wN),⟨bT (c:=[(.slv b.length 1 (ysl b):A),aI ((cz.i:Nat):Int),aI cz.h]) (by kernel_rfl) (by exact eB (congrArg Prod.snd hfin).symm _ _),bT (c:=pl (isl (bF 4 3))) (by kernel_rfl) (congrArg (fun z=>pl (isl z)) (by exact(congrArg Prod.fst hfin).symm)),trivial⟩,dV (h:=2) ⟨29,1,true,[(.sl 900 0 ((bF 4 3).length):A)]⟩ (by kernel_rfl) (by kernel_rfl) bU (Nat.le_of_ble_eq_true rfl) (by(exact congrArg (fun z:Nat=>[A.sl 900 0 z]) (by first |exact congrArg (fun z=>z.1.length) hfin.symm |exact congrArg (fun z=>z.1.length) hfin)))⟩
theorem xL (b:List Nat) (c:Cu) (R:List Int) (c0:Cu) (hb:b.length≤1048576) (hy:∀ x∈b,x<256) (hi:c.i≤b.length) (h3:(r12 b 6 c).1=R) (h4:(r12 b 6 c).2=c0):FnO Tryz.prog 75 [.a (.ptr 1 0)] [(.o 1,some (.o ⟨100,3,true,[(.slv b.length 1 (ysl b):A),aI ((c.i:Nat):Int),aI c.h]⟩))] (V.b (.agg [(.sl 900 0 R.length:A)])) [(.o 1,some (.o ⟨100,3,true,[(.slv b.length 1 (ysl b):A),aI ((c0.i:Nat):Int),aI c0.h]⟩)),(.o 900,some (.o ⟨3,1,true,pl (isl R)⟩))] [1]:=by
 subst h3 h4
 exact pH b c hb hy hi
theorem tN (b:List Nat) (c:Cu) (R:List Int) (c0:Cu) (hb:b.length≤1048576) (hy:∀ x∈b,x<256) (hi:c.i≤b.length) (h3:(r12 b 6 c).1=R) (h4:(r12 b 6 c).2=c0):FnO Tryz.prog 49 [.a (.ptr 1 0)] [(.o 1,some (.o ⟨100,3,true,[(.slv b.length 1 (ysl b):A),aI ((c.i:Nat):Int),aI c.h]⟩))] (V.tup [.agg [(.sl 900 0 R.length:A)],.a (.slv ((gLd (ltR R) (cuX b c0 (ltR R).length)).length) 3 (dsl (gLd (ltR R) (cuX b c0 (ltR R).length)))),.a (.slv ((gLd (ltR R) (cuX b (cuN b c0 (ltR R).length) (ltR R).length)).length) 3 (dsl (gLd (ltR R) (cuX b (cuN b c0 (ltR R).length) (ltR R).length))))]) [(.o 1,some (.o ⟨100,3,true,[(.slv b.length 1 (ysl b):A),aI (((cuN b (cuN b c0 (ltR R).length) (ltR R).length).i:Nat):Int),aI ((cuN b (cuN b c0 (ltR R).length) (ltR R).length).h)]⟩)),(.o 900,some (.o ⟨3,1,true,pl (isl R)⟩))] [1]:=by
 obtain⟨hT,h60⟩:=Fi h3
 have h8:=(ez hT.ok).1
 have hlen:=hT.len
 have hpos:=hT.pos
 have hi0:c0.i≤b.length:=by rw[←h4];exact r12_i b 6 c hi
 have hia:(cuX b c0 (ltR R).length)<(ltR R).length:=du (by omega)
 have hib:(cuX b (cuN b c0 (ltR R).length) (ltR R).length)<(ltR R).length:=du (by omega)
 have hi1:=cg (n:=(ltR R).length) hi0
 have hi2:=cg (n:=(ltR R).length) hi1
 refine bW (N:=28) Tryz.func49 rfl (by kernel_rfl) rfl (Nat.le_of_ble_eq_true rfl) rfl rfl (by kernel_rfl) (by kernel_rfl) ⟨ocs (by kernel_rfl),trivial⟩ [2,5,9,11,15,16,24,25,28,29,30,31] (Jf rfl) (fun W own kp im0=> ?_)
 show Wp _ _ _ [kP 0 1 0,kO 1 100 3 true [(.slv b.length 1 (ysl b):A),aI ((c.i:Nat):Int),aI c.h],kF 2,kF 5,kF 9,kF 11,kF 15,kF 16,kF 24,kF 25,kF 28,kF 29,kF 30,kF 31]
 refine sq (rg ?_)
 refine z ?_ (h:=fun Z=>aL (h:=2) (cap:=1) (s:=1) (cells:=[(.val (.slice none 0 0):A)]) Z jg rfl rfl (by decide))
 refine zk (zk (nl (sq (rg (zm ?_)))))
 refine z ?_ (h:=fun Z=>aK (d:=9) (f:=75) (os:=[(.o 1,some (.o ⟨100,3,true,[(.slv b.length 1 (ysl b):A),aI ((c.i:Nat):Int),aI c.h]⟩))]) (os':=[(.o 1,some (.o ⟨100,3,true,[(.slv b.length 1 (ysl b):A),aI ((c0.i:Nat):Int),aI c0.h]⟩)),(.o 5,some (.o ⟨3,1,true,pl (isl R)⟩))]) (r:=V.b (.agg [(.sl 5 0 R.length:A)])) (bs:=[.a (.ptr 1 0)]) (keep:=[1]) (new:=[5]) (dead:=[]) Z (FnO.ren' (xL b c R c0 (by with_reducible assumption) (by with_reducible assumption) (by with_reducible assumption) (by with_reducible assumption) (by with_reducible assumption)) (aX [(900,5)]) rfl rfl (by kernel_rfl) (by kernel_rfl) ⟨ocs (by kernel_rfl),bh (fun _=>rfl),trivial⟩ (by kernel_rfl) rfl (by simp only[bv,Ob.ren,aY,ak,am,aj,aO,aN];first |done |rfl) (by simp only[bv,Ob.ren,aY,ak,am,aj,aO,aN];first |done |rfl) rfl rfl) (by kernel_rfl) ⟨ocs (by kernel_rfl),bh (fun _=>rfl),trivial⟩ (by kernel_rfl) (ArgOs.cons (ArgO.slot 8 (.a (.ptr 1 0))) (ArgOs.nil)))
 refine z ?_ (h:=fun Z=>aL (h:=9) (cap:=1) (s:=1) (cells:=[(.val (.slice none 0 0):A)]) Z jg rfl rfl (by decide))
 refine z ?_ (h:=fun _=>aE (cells:=[(.sl 5 0 R.length:A)]) bU xt (by exact rfl) (by decide) (by exact ob1 rfl) (by exact Nat.le_of_ble_eq_true rfl) (by exact rfl))
 refine nl (sq (rg ?_))
 refine z ?_ (h:=fun Z=>ab (xs:=[(.sl 5 0 R.length:A)]) Z bU rfl (by decide) rfl)
 refine z ?_ (h:=fun Z=>aK (d:=11) (f:=34) (os:=[(.o 5,some (.o ⟨3,1,true,pl (isl R)⟩))]) (os':=[(.o 5,some (.o ⟨3,1,true,pl (isl R)⟩))]) (r:=V.b (.a (.slvv 3 (vwD (ltR R))))) (bs:=[.agg [(.sl 5 0 R.length:A)]]) (keep:=[5]) (new:=[]) (dead:=[]) Z (FnO.ren' (iC R (by omega)) (aX [(800,5)]) rfl rfl (by kernel_rfl) (by kernel_rfl) ⟨bh (fun _=>rfl),trivial⟩ (by kernel_rfl) rfl (by simp only[bv,Ob.ren,aY,ak,am,aj,aO,aN];first |done |rfl) (by simp only[bv,Ob.ren,aY,ak,am,aj,aO,aN];first |done |rfl) rfl rfl) (by kernel_rfl) ⟨bh (fun _=>rfl),trivial⟩ (by kernel_rfl) (ArgOs.cons (ArgO.slot 10 (.agg [(.sl 5 0 R.length:A)])) (ArgOs.nil)))
 refine za (nl (sq (rg (zm (zm (zm ?_))))))
 refine z ?_ (h:=fun Z=>lnD Z nh)
 refine z ?_ (h:=fun Z=>aK (d:=16) (f:=76) (os:=[(.o 1,some (.o ⟨100,3,true,[(.slv b.length 1 (ysl b):A),aI ((c0.i:Nat):Int),aI c0.h]⟩))]) (os':=[(.o 1,some (.o ⟨100,3,true,[(.slv b.length 1 (ysl b):A),aI (((cuN b c0 ((ltR R).length)).i:Nat):Int),aI ((cuN b c0 ((ltR R).length)).h)]⟩))]) (r:=V.v (.int .i64 (((cuX b c0 ((ltR R).length)):Nat):Int))) (bs:=[.a (.ptr 1 0),.a (.val (.int .i64 (((ltR R).length:Nat):Int)))]) (keep:=[1]) (new:=[]) (dead:=[]) Z ((bl b c0 ((ltR R).length) (by omega) (by omega) (by omega) (by omega) (by omega))) (by kernel_rfl) ⟨ocs (by kernel_rfl),trivial⟩ (by kernel_rfl) (ArgOs.cons (ArgO.slot 13 (.a (.ptr 1 0))) (ArgOs.cons ((ArgO.v vt)) (ArgOs.nil))))
 refine z ?_ (h:=fun Z=>xvv Z nh vo vt (hlt:=(by simp only[ic,fu];first |omega |assumption)))
 refine z ?_ (h:=fun Z=>lvD Z vp (by omega))
 refine za (nl (sq (ch ?_)))
 refine zd ?_ (h:=fun Z=>ab (xs:=[(.sl 5 0 R.length:A)]) Z bU rfl (by decide) rfl)
 refine zdm (zdm (zdm (zdm ?_)))
 refine zd ?_ (h:=fun Z=>lnD Z nh)
 refine zd ?_ (h:=fun Z=>aK (d:=25) (f:=76) (os:=[(.o 1,some (.o ⟨100,3,true,[(.slv b.length 1 (ysl b):A),aI (((cuN b c0 ((ltR R).length)).i:Nat):Int),aI ((cuN b c0 ((ltR R).length)).h)]⟩))]) (os':=[(.o 1,some (.o ⟨100,3,true,[(.slv b.length 1 (ysl b):A),aI (((cuN b (cuN b c0 ((ltR R).length)) ((ltR R).length)).i:Nat):Int),aI ((cuN b (cuN b c0 ((ltR R).length)) ((ltR R).length)).h)]⟩))]) (r:=V.v (.int .i64 (((cuX b (cuN b c0 ((ltR R).length)) ((ltR R).length)):Nat):Int))) (bs:=[.a (.ptr 1 0),.a (.val (.int .i64 (((ltR R).length:Nat):Int)))]) (keep:=[1]) (new:=[]) (dead:=[]) Z ((bl b (cuN b c0 ((ltR R).length)) ((ltR R).length) (by omega) (by omega) (by omega) (by omega) (by omega))) (by kernel_rfl) ⟨ocs (by kernel_rfl),trivial⟩ (by kernel_rfl) (ArgOs.cons (ArgO.slot 22 (.a (.ptr 1 0))) (ArgOs.cons ((ArgO.v vt)) (ArgOs.nil))))
 refine zd ?_ (h:=fun Z=>xvv Z nh vo vt (hlt:=(by simp only[ic,fu];first |omega |assumption)))
 refine zd ?_ (h:=fun Z=>lvD Z vp (by omega))
 refine zd ?_ (h:=fun _=>aE (cells:=[(.sl 5 0 R.length:A)]) bU xt (by exact rfl) (by decide) (by exact ob1 rfl) (by exact Nat.le_of_ble_eq_true rfl) (by exact rfl))
 refine zd ?_ (h:=fun Z=>gt Z)
 refine zd ?_ (h:=fun Z=>gt Z)
 refine bG (aC ?_)
 exact⟨[kP 2 2 0,kV 3 (V.b (.a (.slv ((gLd (ltR R) (cuX b c0 ((ltR R).length))).length) 3 (dsl (gLd (ltR R) (cuX b c0 ((ltR R).length))))))),kV 4 (V.b (.a (.slv ((gLd (ltR R) (cuX b (cuN b c0 ((ltR R).length)) ((ltR R).length))).length) 3 (dsl (gLd (ltR R) (cuX b (cuN b c0 ((ltR R).length)) ((ltR R).length))))))),kO 1 100 3 true [(.slv b.length 1 (ysl b):A),aI (((cuN b (cuN b c0 ((ltR R).length)) ((ltR R).length)).i:Nat):Int),aI ((cuN b (cuN b c0 ((ltR R).length)) ((ltR R).length)).h)],kO 2 29 1 true [(.sl 900 0 R.length:A)],kO 900 3 1 true (pl (isl R)),kF 5,kF 9,kF 11,kF 15,kF 16,kF 24,kF 25,kF 28,kF 29,kF 30,kF 31],wkf (aX [(900,5)]) (wS<|wS<|wS<|wX<|wX<|wP<|by(iterate 11 refine wF ?_);exact wN),⟨bT (c:=[(.slv b.length 1 (ysl b):A),aI (((cuN b (cuN b c0 ((ltR R).length)) ((ltR R).length)).i:Nat):Int),aI ((cuN b (cuN b c0 ((ltR R).length)) ((ltR R).length)).h)]) (by kernel_rfl) (by rfl),by kernel_rfl,trivial⟩,⟨dV (h:=2) ⟨29,1,true,[(.sl 900 0 R.length:A)]⟩ (by kernel_rfl) (by kernel_rfl) bU (Nat.le_of_ble_eq_true rfl) rfl,dC 3 (.a (.slv ((gLd (ltR R) (cuX b c0 ((ltR R).length))).length) 3 (dsl (gLd (ltR R) (cuX b c0 ((ltR R).length)))))) (.a (.slv ((gLd (ltR R) (cuX b c0 (ltR R).length)).length) 3 (dsl (gLd (ltR R) (cuX b c0 (ltR R).length))))) (by kernel_rfl) (rV (by rfl)),dC 4 (.a (.slv ((gLd (ltR R) (cuX b (cuN b c0 ((ltR R).length)) ((ltR R).length))).length) 3 (dsl (gLd (ltR R) (cuX b (cuN b c0 ((ltR R).length)) ((ltR R).length)))))) (.a (.slv ((gLd (ltR R) (cuX b (cuN b c0 (ltR R).length) (ltR R).length)).length) 3 (dsl (gLd (ltR R) (cuX b (cuN b c0 (ltR R).length) (ltR R).length))))) (by kernel_rfl) (rV (by rfl))⟩⟩
theorem ly (b:List Nat) (R:List Int) (c0:Cu) (P Q:List Dom) (hb:b.length≤1048576) (hy:∀ x∈b,x<256) (h3:(r12 b 6 (cu0 b)).1=R) (h4:(r12 b 6 (cu0 b)).2=c0) (hP:gLd (ltR R) (cuX b c0 (ltR R).length)=P) (hQ:gLd (ltR R) (cuX b (cuN b c0 (ltR R).length) (ltR R).length)=Q):FnO Tryz.prog 22 [.a (.slv b.length 1 (ysl b))] [] (V.tup [.agg [(.sl 900 0 R.length:A)],.a (.slv P.length 3 (dsl P)),.a (.slv Q.length 3 (dsl Q))]) [(.o 900,some (.o ⟨3,1,true,pl (isl R)⟩))] []:=by
 refine bW (N:=18) Tryz.func22 rfl (by kernel_rfl) rfl (Nat.le_of_ble_eq_true rfl) rfl rfl (by kernel_rfl) (by kernel_rfl) trivial [2,5,10,11,18,19,20,21] (Jf rfl) (fun W own kp im0=> ?_)
 show Wp _ _ _ [kV 0 (V.b (.a (.slv b.length 1 (ysl b)))),kF 2,kF 5,kF 10,kF 11,kF 18,kF 19,kF 20,kF 21]
 refine sq (rg ?_)
 refine z ?_ (h:=fun Z=>aL (h:=2) (cap:=1) (s:=1) (cells:=[(.val (.slice none 0 0):A)]) Z jg rfl rfl (by decide))
 refine zk (zk (nl (sq (rg (zm ?_)))))
 refine z ?_ (h:=fun Z=>aK (d:=10) (f:=50) (os:=[]) (os':=[(.o 5,some (.o ⟨100,3,true,[(.slv b.length 1 (ysl b):A),aI (((cu0 b).i:Nat):Int),aI ((cu0 b).h)]⟩))]) (r:=V.p 5 0) (bs:=[.a (.slv b.length 1 (ysl b))]) (keep:=[]) (new:=[5]) (dead:=[]) Z (FnO.ren' (mw b (by omega) (by omega)) (aX [(900,5)]) rfl rfl (by kernel_rfl) (by kernel_rfl) ⟨ocs (by kernel_rfl),trivial⟩ (by kernel_rfl) rfl (by simp only[bv,Ob.ren,aY,ak,am,aj,aO,aN];first |done |rfl) (by simp only[bv,Ob.ren,aY,ak,am,aj,aO,aN];first |done |rfl) rfl rfl) (by kernel_rfl) ⟨ocs (by kernel_rfl),trivial⟩ (by kernel_rfl) (ArgOs.cons (ArgO.slot 9 (.a (.slv b.length 1 (ysl b)))) (ArgOs.nil)))
 refine z ?_ (h:=fun Z=>aK (d:=11) (f:=49) (os:=[(.o 5,some (.o ⟨100,3,true,[(.slv b.length 1 (ysl b):A),aI (((cu0 b).i:Nat):Int),aI ((cu0 b).h)]⟩))]) (os':=[(.o 5,some (.o ⟨100,3,true,[(.slv b.length 1 (ysl b):A),aI (((cuN b (cuN b c0 (ltR R).length) (ltR R).length).i:Nat):Int),aI ((cuN b (cuN b c0 (ltR R).length) (ltR R).length).h)]⟩)),(.o 10,some (.o ⟨3,1,true,pl (isl R)⟩))]) (r:=V.tup [.agg [(.sl 10 0 R.length:A)],.a (.slv ((gLd (ltR R) (cuX b c0 (ltR R).length)).length) 3 (dsl (gLd (ltR R) (cuX b c0 (ltR R).length)))),.a (.slv ((gLd (ltR R) (cuX b (cuN b c0 (ltR R).length) (ltR R).length)).length) 3 (dsl (gLd (ltR R) (cuX b (cuN b c0 (ltR R).length) (ltR R).length))))]) (bs:=[.a (.ptr 5 0)]) (keep:=[5]) (new:=[10]) (dead:=[]) Z (FnO.ren' (tN b (cu0 b) R c0 (by with_reducible assumption) (by with_reducible assumption) (by exact(Nat.zero_le _:0≤_)) (by with_reducible assumption) (by with_reducible assumption)) (aX [(1,5),(900,10)]) rfl rfl (by kernel_rfl) (by kernel_rfl) ⟨ocs (by kernel_rfl),bh (fun _=>rfl),trivial⟩ (by kernel_rfl) rfl (by simp only[bv,Ob.ren,aY,ak,am,aj,aO,aN];first |done |rfl) (by simp only[bv,Ob.ren,aY,ak,am,aj,aO,aN];first |done |rfl) rfl rfl) (by kernel_rfl) ⟨ocs (by kernel_rfl),bh (fun _=>rfl),trivial⟩ (by kernel_rfl) (ArgOs.cons (ArgO.slot 10 (.a (.ptr 5 0))) (ArgOs.nil)))
 refine zm ?_
 refine z ?_ (h:=fun Z=>ba Z (by exact rfl))
 refine z ?_ (h:=fun Z=>ba Z (by exact rfl))
 refine z ?_ (h:=fun Z=>ba Z (by exact rfl))
 refine z ?_ (h:=fun Z=>aL (h:=11) (cap:=1) (s:=1) (cells:=[(.val (.slice none 0 0):A)]) Z jg rfl rfl (by decide))
 refine z ?_ (h:=fun _=>aE (cells:=[(.sl 10 0 R.length:A)]) bU xt (by exact rfl) (by decide) (by exact ob1 rfl) (by exact Nat.le_of_ble_eq_true rfl) (by exact rfl))
 refine za (za (nl (sq (rg ?_))))
 refine z ?_ (h:=fun Z=>ab (xs:=[(.sl 10 0 R.length:A)]) Z bU rfl (by decide) rfl)
 refine zm (zm ?_)
 refine z ?_ (h:=fun _=>aE (cells:=[(.sl 10 0 R.length:A)]) bU xt (by exact rfl) (by decide) (by exact ob1 rfl) (by exact Nat.le_of_ble_eq_true rfl) (by exact rfl))
 refine za (za (nl (aC ?_)))
 exact⟨[kP 2 2 0,kV 3 (V.b (.a (.slv ((gLd (ltR R) (cuX b c0 (ltR R).length)).length) 3 (dsl (gLd (ltR R) (cuX b c0 (ltR R).length)))))),kV 4 (V.b (.a (.slv ((gLd (ltR R) (cuX b (cuN b c0 (ltR R).length) (ltR R).length)).length) 3 (dsl (gLd (ltR R) (cuX b (cuN b c0 (ltR R).length) (ltR R).length)))))),kO 2 29 1 true [(.sl 900 0 R.length:A)],kO 900 3 1 true (pl (isl R)),kF 5,kF 10,kF 11,kF 18,kF 19,kF 20,kF 21],wkf (aX [(900,10)]) (wS<|wS<|wS<|wX<|wP<|wF<|wF<|wF<|wF<|wF<|wF<|wF<|wN),⟨by kernel_rfl,trivial⟩,⟨dV (h:=2) ⟨29,1,true,[(.sl 900 0 R.length:A)]⟩ (by kernel_rfl) (by kernel_rfl) bU (Nat.le_of_ble_eq_true rfl) rfl,dC 3 (.a (.slv ((gLd (ltR R) (cuX b c0 (ltR R).length)).length) 3 (dsl (gLd (ltR R) (cuX b c0 (ltR R).length))))) (.a (.slv P.length 3 (dsl P))) (by kernel_rfl) (rV (by with_reducible exact hP)),dC 4 (.a (.slv ((gLd (ltR R) (cuX b (cuN b c0 (ltR R).length) (ltR R).length)).length) 3 (dsl (gLd (ltR R) (cuX b (cuN b c0 (ltR R).length) (ltR R).length))))) (.a (.slv Q.length 3 (dsl Q))) (by kernel_rfl) (rV (by with_reducible exact hQ))⟩⟩
end Cl
end Go.Proofs.YtgmkkfdnmdohlaaGreatDoor
