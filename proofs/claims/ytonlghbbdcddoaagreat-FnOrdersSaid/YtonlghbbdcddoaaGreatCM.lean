/- Parts put together: C13, C14, C16. -/
import Derived.Test.YtonlghbbdcddoaaGreatC11
import Derived.Test.YtonlghbbdcddoaaGreatC12
import Derived.Test.YtonlghbbdcddoaaGreatC3w
import Derived.Test.YtonlghbbdcddoaaGreatClB
set_option maxHeartbeats 4000000
set_option maxRecDepth 100000
namespace Go.Proofs.YtonlghbbdcddoaaGreat
namespace Cl
open Go.ChangeShapes Go.WideShapes Go.ChangeAt Go.RowKit
theorem lR {l:List Int} (h:aU l=true):cntR l=cnt (ag l):=by unfold cntR;rw[if_pos h]
theorem ue {l:List Int} (h:aU l=false):cntR l=0:=by unfold cntR;rw[h];rfl
theorem mZ:TI Tryz.prog 26 true 1:=⟨⟨_,Tryz.underlying26,rfl⟩,by kernel_rfl⟩
theorem nU (l:List Int) (hl:l.length≤4194304):Fn Tryz.prog 59 [.agg [(.slv l.length 1 (isl l):A)]] [.val (.int .i64 (((cntR l):Nat):Int))]:=by
 refine aN (N:=9) Tryz.func59 rfl (by kernel_rfl) rfl (Nat.le_of_ble_eq_true rfl) [1,4,7,8] (dB rfl) (fun W=> ?_)
 show Wp _ _ _ [kV 0 (V.b (.agg [(.slv l.length 1 (isl l):A)])),kF 1,kF 4,kF 7,kF 8]
 refine sq (rg ?_)
 refine z ?_ (h:=fun Z=>aM (h:=1) Z xt (by exact ob1 rfl))
 refine zk (nl (sq (sq (rg ?_))))
 refine z ?_ (h:=fun Z=>aa (xs:=[(.slv l.length 1 (isl l):A)]) Z mZ rfl (by decide) rfl)
 refine z ?_ (h:=fun Z=>ah Z (df l (by first |omega |assumption |exact bb (by assumption))) (ac (ArgV.regv _ _ 1 _) an) rv)
 refine z ?_ (h:=fun Z=>aK Z vt (bE rfl))
 refine nl ?_
 refine wi (b:=(!(aU l))) (fun c1=> ?_) (fun c1=> ?_)
 ·skip
  have c2:(aU l)=false:=by first |(rw[←Bool.not_eq_true'];exact c1) |simpa using c1
  refine sq (rg (zk (nl (aq ?_))))
  exact VRes.tmp _ _ _ (by exact rfl) (cc (congrArg (Value.int .i64) (by first |(rw[ue (by assumption)];rfl) |rw[lR (by assumption)])))
 ·skip
  have c3:(aU l)=true:=by first |(rw[←Bool.not_eq_false'];exact c1) |simpa using c1
  refine sk (sq (rg ?_))
  refine z ?_ (h:=fun Z=>aa (xs:=[(.slv l.length 1 (isl l):A)]) Z mZ rfl (by decide) rfl)
  refine z ?_ (h:=fun Z=>ah Z (cA l (by first |omega |assumption |exact bb (by assumption))) (ac (ArgV.regv _ _ 1 _) an) rv)
  refine z ?_ (h:=fun Z=>ah Z (pY (ag l) (by first |omega |assumption |exact bb (by assumption))) (ac (ArgV.v vt) an) rv)
  refine za (nl (aq ?_))
  exact VRes.tmp _ _ _ (by exact rfl) (cc (congrArg (Value.int .i64) (by first |(rw[ue (by assumption)];rfl) |rw[lR (by assumption)])))
theorem ov (l:List Int) (hl:l.length≤4194304):Fn Tryz.prog 39 [.agg [(.slv l.length 1 (isl l):A)]] [.val (.int .i64 (((cntR l):Nat):Int))]:=by
 refine aN (N:=8) Tryz.func39 rfl (by kernel_rfl) rfl (Nat.le_of_ble_eq_true rfl) [1,4,7] (dB rfl) (fun W=> ?_)
 show Wp _ _ _ [kV 0 (V.b (.agg [(.slv l.length 1 (isl l):A)])),kF 1,kF 4,kF 7]
 refine sq (rg ?_)
 refine z ?_ (h:=fun Z=>aM (h:=1) Z xt (by exact ob1 rfl))
 refine zk (nl (sq (sq (rg ?_))))
 refine z ?_ (h:=fun Z=>aa (xs:=[(.slv l.length 1 (isl l):A)]) Z mZ rfl (by decide) rfl)
 refine z ?_ (h:=fun Z=>ah Z (cF l (by first |omega |assumption |exact bb (by assumption))) (ac (ArgV.regv _ _ 1 _) an) rv)
 refine z ?_ (h:=fun Z=>aK Z vt (bE rfl))
 refine nl ?_
 refine wi (b:=(!(aU l))) (fun c1=> ?_) (fun c1=> ?_)
 ·skip
  have c2:(aU l)=false:=by first |(rw[←Bool.not_eq_true'];exact c1) |simpa using c1
  refine sq (rg (zk (nl (aq ?_))))
  exact VRes.tmp _ _ _ (by exact rfl) (cc (congrArg (Value.int .i64) (by first |(rw[ue (by assumption)];rfl) |rw[lR (by assumption)])))
 ·skip
  have c3:(aU l)=true:=by first |(rw[←Bool.not_eq_false'];exact c1) |simpa using c1
  refine sk (sq (rg ?_))
  refine z ?_ (h:=fun Z=>aa (xs:=[(.slv l.length 1 (isl l):A)]) Z mZ rfl (by decide) rfl)
  refine z ?_ (h:=fun Z=>ah Z (mq l (by first |omega |assumption |exact bb (by assumption))) (ac (ArgV.regv _ _ 1 _) an) rv)
  refine za (nl (aq ?_))
  exact VRes.tmp _ _ _ (by exact rfl) (cc (congrArg (Value.int .i64) (by first |(rw[ue (by assumption)];rfl) |rw[lR (by assumption)])))
def ftR (l:List Int):List Dom:=if cntR l=0 then []else ftl 33 (ag l)
theorem Gu {l:List Int} (h:¬cntR l=0):aU l=true:=by
 unfold cntR at h
 split at h
 ·assumption
 ·exact absurd rfl h
theorem AH {s:Nat} (hs:s<18446744073709551616):(aj s).length=jj s:=by unfold aj jj;simp
theorem zR {s k:Nat} (hs:s<18446744073709551616) (h0:s≠0) (hk:k≤au s) (hb:s.testBit k=false):k+1≤au s:=by
 rcases Nat.lt_or_ge k (au s)with h |h
 ·exact h
 ·have e:k=au s:=by omega
  rw[e,(dr hs h0).2]at hb;cases hb
theorem xh {s k:Nat} (hk:k≤au s) (hb:s.testBit k=true):k=au s:=by
 rcases Nat.lt_or_ge k (au s)with h |h
 ·rw[ig h]at hb;cases hb
 ·omega
theorem KE {s:Nat} (hs:s<18446744073709551616) (h:jj s=0):s=0:=by
 rcases Nat.eq_zero_or_pos s with h0 |h0
 ·exact h0
 ·have hf:=dr hs (by omega)
  have hm:cN (au s)∈aj s:=dh.2 (by unfold aP;rw[fk hf.1,dF hf.1,hf.2];rfl)
  have:=List.length_pos_of_mem hm
  rw[AH hs]at this;omega
theorem vp:TI Tryz.prog 67 true 2:=⟨⟨_,Tryz.underlying67,rfl⟩,by kernel_rfl⟩
theorem Cj:ZI Tryz.prog 67 (.agg #[.int .i64 0,.int .i64 0]) 2 16:=by unfold ZI;kernel_rfl
theorem iQ (s:Nat) (hs:s<18446744073709551616) (h0:s≠0):Fn Tryz.prog 67 [.a (.val (.int .u64 ((s:Nat):Int)))] [.val (.agg ([.int .i64 (cN (au s)).x,.int .i64 (cN (au s)).y]:List Value).toArray)]:=by
 have hf:=(dr hs h0).1
 refine aN (N:=13) Tryz.func67 rfl (by kernel_rfl) rfl (Nat.le_of_ble_eq_true rfl) [2,12] (dB rfl) (fun W=> ?_)
 show Wp _ _ _ [kU 0 ((s:Nat):Int),kF 2,kF 12]
 refine sq (rg ?_)
 refine z ?_ (h:=fun Z=>aF (h:=2) (cap:=1) (s:=2) (cells:=[aI 0,aI 0]) Z Cj rfl rfl (by decide))
 refine nl (sq (rg (zk (nl (sq (bkk ?_))))))
 refine bf (fun(k:Nat)=>k≤au s) (fun(k:Nat)=>[kU 0 ((s:Nat):Int),kP 2 2 0,kI 3 ((k:Nat):Int),kO 2 67 2 true [aI 0,aI 0],kF 12]) (fun(k:Nat)=>64-k) ((0:Nat)) (by exact(Nat.zero_le _:0≤_)) (wkf id (wS<|wS<|wE (e:=(aO (by rfl)))<|wX<|wF<|wN)) ?_
 rintro k inv1
 replace inv1:k≤au s:=inv1
 have inv:=inv1
 refine sq (sq (rg (zm (zm ?_))))
 refine z ?_ (h:=fun Z=>ab Z vt vt (oj (c:=(((s>>>k):Nat):Int)) (by omega) (zf (m:=s) (n:=k) rfl rfl (by omega) rfl)))
 refine z ?_ (h:=fun Z=>ab Z vt vc (iK (c:=((((s>>>k)&&&1):Nat):Int)) (andU (m:=(s>>>k)) (n:=1) rfl rfl (by exact Nat.lt_of_le_of_lt (nk _ _) (by first |omega |assumption |(first |omega |assumption))) (by omega))))
 refine z ?_ (h:=fun Z=>ab Z vt vc (cW (c:=(!(s.testBit k))) (qw _ _)))
 refine nl ?_
 refine wi (b:=(!(s.testBit k))) (fun c2=> ?_) (fun c2=> ?_)
 ·skip
  have c3:(s.testBit k)=false:=by first |(rw[←Bool.not_eq_true'];exact c2) |simpa using c2
  refine sk (bkk (rg (zm ?_)))
  refine z ?_ (h:=fun Z=>ab Z vt vc (rA (by omega) (by omega)))
  refine za (nl ?_)
  exact Exists.intro ((k+1)) (And.intro (by show _≤_;first |exact zR hs h0 inv (by assumption) |exact zR hs h0 inv (by simp_all)) (And.intro (by show 64-(k+1)<64-k;omega) (wkf id (wS<|wS<|wE (e:=(aO (by rfl)))<|wX<|wF<|wN))))
 ·skip
  have c4:(s.testBit k)=true:=by first |(rw[←Bool.not_eq_false'];exact c2) |simpa using c2
  refine aJ (sq (rg (zm ?_)))
  refine z ?_ (h:=fun Z=>ah Z (kX k (by omega)) (ac (ArgV.v vt) an) (ResV.agg [vI ((cN k).x),vI ((cN k).y)]))
  refine z ?_ (h:=fun _=>aw (cells:=[aI ((cN k).x),aI ((cN k).y)]) vp xt (by exact rfl) (by decide) (by exact ob1 rfl) (by exact Nat.le_of_ble_eq_true rfl) (by exact rfl))
  refine nl (aq ?_)
  exact VRes.cells 2 67 2 ⟨67,2,true,[aI ((cN k).x),aI ((cN k).y)]⟩ _ (by kernel_rfl) (by kernel_rfl) vp (Nat.le_of_ble_eq_true rfl) (nL (vs:=[vI ((cN k).x),vI ((cN k).y)]) (by((have e:k=au s:=by first |exact xh inv (by assumption) |exact xh inv (by simp_all));subst e;rfl)))
end Cl
end Go.Proofs.YtonlghbbdcddoaaGreat
