/- Walks. -/
import Derived.Test.YtgmkkfdnmdohlaaGreatDoorC14
import Derived.Test.YtgmkkfdnmdohlaaGreatDoorClB
set_option linter.unusedSimpArgs false
set_option linter.unusedVariables false
set_option maxHeartbeats 4000000
set_option maxRecDepth 100000
namespace Go.Proofs.YtgmkkfdnmdohlaaGreatDoor
namespace Cl
open Go.ChangeShapes Go.WideShapes Go.ChangeAt Go.RowKit
def ftR (l:List Int):List Dom:=if cntR l=0 then []else ftl 33 (ao l)
theorem Dp {l:List Int} (h:¬cntR l=0):bj l=true:=by
 unfold cntR at h
 split at h
 ·assumption
 ·exact absurd rfl h
theorem xX {s:Nat} (hs:s<18446744073709551616):(bM s).length=jC s:=by unfold bM jC;simp
theorem xq {s k:Nat} (hs:s<18446744073709551616) (h0:s≠0) (hk:k≤aF s) (hb:s.testBit k=false):k+1≤aF s:=by
 rcases Nat.lt_or_ge k (aF s)with h |h
 ·exact h
 ·have e:k=aF s:=by omega
  rw[e,(ed hs h0).2]at hb;cases hb
theorem uy {s k:Nat} (hk:k≤aF s) (hb:s.testBit k=true):k=aF s:=by
 rcases Nat.lt_or_ge k (aF s)with h |h
 ·rw[kX h]at hb;cases hb
 ·omega
theorem HD {s:Nat} (hs:s<18446744073709551616) (h:jC s=0):s=0:=by
 rcases Nat.eq_zero_or_pos s with h0 |h0
 ·exact h0
 ·have hf:=ed hs (by omega)
  have hm:cN (aF s)∈bM s:=gw.2 (by unfold bO;rw[fP hf.1,eU hf.1,hf.2];rfl)
  have:=List.length_pos_of_mem hm
  rw[xX hs]at this;omega
theorem td:TI Tryz.prog 70 true 2:=⟨⟨_,Tryz.underlying70,rfl⟩,by kernel_rfl⟩
theorem zw:ZI Tryz.prog 70 (.agg #[.int .i64 0,.int .i64 0]) 2 16:=by unfold ZI;kernel_rfl
theorem la (s:Nat) (hs:s<18446744073709551616) (h0:s≠0):Fn Tryz.prog 91 [.a (.val (.int .u64 ((s:Nat):Int)))] [.val (.agg ([.int .i64 (cN (aF s)).x,.int .i64 (cN (aF s)).y]:List Value).toArray)]:=by
 have hf:=(ed hs h0).1
 refine bm (N:=13) Tryz.func91 rfl (by kernel_rfl) rfl (Nat.le_of_ble_eq_true rfl) [2,12] (dN rfl) (fun W=> ?_)
 show Wp _ _ _ [kU 0 ((s:Nat):Int),kF 2,kF 12]
 refine sq (rg ?_)
 refine z ?_ (h:=fun Z=>aL (h:=2) (cap:=1) (s:=2) (cells:=[aI 0,aI 0]) Z zw rfl rfl (by decide))
 refine nl (sq (rg (zk (nl (sq (bkk ?_))))))
 refine bg (fun(k:Nat)=>k≤aF s) (fun(k:Nat)=>[kU 0 ((s:Nat):Int),kP 2 2 0,kI 3 ((k:Nat):Int),kO 2 70 2 true [aI 0,aI 0],kF 12]) (fun(k:Nat)=>64-k) ((0:Nat)) (by exact(Nat.zero_le _:0≤_)) (wkf id (wS<|wS<|wE (e:=(be (by first |rfl |omega |(simp;done) |(simp;omega))))<|wX<|wF<|wN)) ?_
 rintro k inv1
 replace inv1:k≤aF s:=inv1
 have inv:=inv1
 refine sq (sq (rg (zm (zm ?_))))
 refine z ?_ (h:=fun Z=>aa Z vt vt (ml (c:=(((s>>>k):Nat):Int)) (by first |omega |exact Int.natCast_nonneg _) (wH (m:=s) (n:=k) rfl rfl (by first |omega |assumption |exact Nat.lt_of_le_of_lt (jA _ _) (by first |omega |assumption |(first |omega |assumption)) |(first |omega |assumption)) rfl)))
 refine z ?_ (h:=fun Z=>aa Z vt vc (io (c:=((((s>>>k)&&&1):Nat):Int)) (andU (m:=(s>>>k)) (n:=1) rfl rfl (by first |omega |assumption |exact Nat.lt_of_le_of_lt (jA _ _) (by first |omega |assumption |(first |omega |assumption)) |(first |omega |assumption)) (by first |omega |assumption |exact Nat.lt_of_le_of_lt (jA _ _) (by first |omega |assumption |(first |omega |assumption)) |(first |omega |assumption)))))
 refine z ?_ (h:=fun Z=>aa Z vt vc (ct (c:=(!(s.testBit k))) (oC _ _)))
 refine nl ?_
 refine wi (b:=(!(s.testBit k))) (fun c2=> ?_) (fun c2=> ?_)
 ·skip
  have c3:(s.testBit k)=false:=by first |(rw[←Bool.not_eq_true'];exact c2) |simpa using c2
  refine sk (bkk (rg (zm ?_)))
  refine z ?_ (h:=fun Z=>aa Z vt vc (rA (by first |omega |assumption) (by first |omega |assumption)))
  refine za (nl ?_)
  exact Exists.intro ((k+1)) (And.intro (by show _≤_;first |exact xq hs h0 inv (by assumption) |exact xq hs h0 inv (by simp_all)) (And.intro (by show 64-(k+1)<64-k;omega) (wkf id (wS<|wS<|wE (e:=(be (by first |rfl |omega |(simp;done) |(simp;omega))))<|wX<|wF<|wN))))
 ·skip
  have c4:(s.testBit k)=true:=by first |(rw[←Bool.not_eq_false'];exact c2) |simpa using c2
  refine aU (sq (rg (zm ?_)))
  refine z ?_ (h:=fun Z=>ag Z (lX k (by first |omega |assumption)) (ac (ArgV.v vt) an) (ResV.agg [vI ((cN k).x),vI ((cN k).y)]))
  refine z ?_ (h:=fun _=>aE (cells:=[aI ((cN k).x),aI ((cN k).y)]) td xt (by exact rfl) (by decide) (by exact ob1 rfl) (by exact Nat.le_of_ble_eq_true rfl) (by exact rfl))
  refine nl (aC ?_)
  exact VRes.cells 2 70 2 ⟨70,2,true,[aI ((cN k).x),aI ((cN k).y)]⟩ _ (by kernel_rfl) (by kernel_rfl) td (Nat.le_of_ble_eq_true rfl) (pQ (vs:=[vI ((cN k).x),vI ((cN k).y)]) (by((have e:k=aF s:=by first |exact uy inv (by assumption) |exact uy inv (by simp_all));subst e;rfl)))
end Cl
end Go.Proofs.YtgmkkfdnmdohlaaGreatDoor
