/- Walks. -/
import Derived.Test.YtgmkkfdnmdohlaaGreatDoorC11
import Derived.Test.YtgmkkfdnmdohlaaGreatDoorC12
import Derived.Test.YtgmkkfdnmdohlaaGreatDoorC3w
import Derived.Test.YtgmkkfdnmdohlaaGreatDoorClB
set_option linter.unusedSimpArgs false
set_option linter.unusedVariables false
set_option maxHeartbeats 4000000
set_option maxRecDepth 100000
namespace Go.Proofs.YtgmkkfdnmdohlaaGreatDoor
namespace Cl
open Go.ChangeShapes Go.WideShapes Go.ChangeAt Go.RowKit
theorem lP {l:List Int} (h:bj l=true):cntR l=cnt (ao l):=by unfold cntR;rw[if_pos h]
theorem zY {l:List Int} (h:bj l=false):cntR l=0:=by unfold cntR;rw[h];rfl
theorem lm:TI Tryz.prog 29 true 1:=⟨⟨_,Tryz.underlying29,rfl⟩,by kernel_rfl⟩
theorem lU (l:List Int) (hl:l.length≤4194304):Fn Tryz.prog 62 [.agg [(.slv l.length 1 (isl l):A)]] [.val (.int .i64 (((cntR l):Nat):Int))]:=by
 refine bm (N:=9) Tryz.func62 rfl (by kernel_rfl) rfl (Nat.le_of_ble_eq_true rfl) [1,4,7,8] (dN rfl) (fun W=> ?_)
 show Wp _ _ _ [kV 0 (V.b (.agg [(.slv l.length 1 (isl l):A)])),kF 1,kF 4,kF 7,kF 8]
 refine sq (rg ?_)
 refine z ?_ (h:=fun Z=>bo (h:=1) Z xt (by exact ob1 rfl))
 refine zk (nl (sq (sq (rg ?_))))
 refine z ?_ (h:=fun Z=>ab (xs:=[(.slv l.length 1 (isl l):A)]) Z lm rfl (by decide) rfl)
 refine z ?_ (h:=fun Z=>ag Z (qk l (by omega)) (ac (ArgV.regv _ _ 1 _) an) rv)
 refine z ?_ (h:=fun Z=>bn Z vt (bS rfl))
 refine nl ?_
 refine wi (b:=(!(bj l))) (fun c1=> ?_) (fun c1=> ?_)
 ·skip
  have c2:(bj l)=false:=by first |(rw[←Bool.not_eq_true'];exact c1) |simpa using c1
  refine sq (rg (zk (nl (aC ?_))))
  exact VRes.tmp _ _ _ (by exact rfl) (ce (congrArg (Value.int .i64) (by(rw[zY (by assumption)];rfl))))
 ·skip
  have c3:(bj l)=true:=by first |(rw[←Bool.not_eq_false'];exact c1) |simpa using c1
  refine sk (sq (rg ?_))
  refine z ?_ (h:=fun Z=>ab (xs:=[(.slv l.length 1 (isl l):A)]) Z lm rfl (by decide) rfl)
  refine z ?_ (h:=fun Z=>ag Z (iB l (by omega)) (ac (ArgV.regv _ _ 1 _) an) rv)
  refine z ?_ (h:=fun Z=>ag Z (nS (ao l) (by exact dr (by assumption))) (ac (ArgV.v vt) an) rv)
  refine za (nl (aC ?_))
  exact VRes.tmp _ _ _ (by exact rfl) (ce (congrArg (Value.int .i64) (by rw[lP (by assumption)])))
theorem ir (l:List Int) (hl:l.length≤4194304):Fn Tryz.prog 25 [.agg [(.slv l.length 1 (isl l):A)]] [.val (.int .i64 (((cntR l):Nat):Int))]:=by
 refine bm (N:=8) Tryz.func25 rfl (by kernel_rfl) rfl (Nat.le_of_ble_eq_true rfl) [1,4,7] (dN rfl) (fun W=> ?_)
 show Wp _ _ _ [kV 0 (V.b (.agg [(.slv l.length 1 (isl l):A)])),kF 1,kF 4,kF 7]
 refine sq (rg ?_)
 refine z ?_ (h:=fun Z=>bo (h:=1) Z xt (by exact ob1 rfl))
 refine zk (nl (sq (sq (rg ?_))))
 refine z ?_ (h:=fun Z=>ab (xs:=[(.slv l.length 1 (isl l):A)]) Z lm rfl (by decide) rfl)
 refine z ?_ (h:=fun Z=>ag Z (bH l (by omega)) (ac (ArgV.regv _ _ 1 _) an) rv)
 refine z ?_ (h:=fun Z=>bn Z vt (bS rfl))
 refine nl ?_
 refine wi (b:=(!(bj l))) (fun c1=> ?_) (fun c1=> ?_)
 ·skip
  have c2:(bj l)=false:=by first |(rw[←Bool.not_eq_true'];exact c1) |simpa using c1
  refine sq (rg (zk (nl (aC ?_))))
  exact VRes.tmp _ _ _ (by exact rfl) (ce (congrArg (Value.int .i64) (by(rw[zY (by assumption)];rfl))))
 ·skip
  have c3:(bj l)=true:=by first |(rw[←Bool.not_eq_false'];exact c1) |simpa using c1
  refine sk (sq (rg ?_))
  refine z ?_ (h:=fun Z=>ab (xs:=[(.slv l.length 1 (isl l):A)]) Z lm rfl (by decide) rfl)
  refine z ?_ (h:=fun Z=>ag Z (hG l (by omega)) (ac (ArgV.regv _ _ 1 _) an) rv)
  refine za (nl (aC ?_))
  exact VRes.tmp _ _ _ (by exact rfl) (ce (congrArg (Value.int .i64) (by rw[lP (by assumption)])))
end Cl
end Go.Proofs.YtgmkkfdnmdohlaaGreatDoor
