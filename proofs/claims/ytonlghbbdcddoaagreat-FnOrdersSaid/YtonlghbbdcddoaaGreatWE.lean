/- Parts put together: W1, W3, W8, E4. -/
import Derived.Test.YtonlghbbdcddoaaGreatC0
import Derived.Test.YtonlghbbdcddoaaGreatClB
import Derived.Test.YtonlghbbdcddoaaGreatC1
import Derived.Test.YtonlghbbdcddoaaGreatDoms
import Derived.Test.YtonlghbbdcddoaaGreatCels
import Derived.Test.YtonlghbbdcddoaaGreatEA
set_option maxHeartbeats 4000000
set_option maxRecDepth 100000
namespace Go.Proofs.YtonlghbbdcddoaaGreat
namespace Cl
open Go.ChangeShapes Go.WideShapes Go.ChangeAt Go.RowKit
theorem MD {α:Type} [DecidableEq α] {a b:List α} (h:a.length≠b.length):decide (a=b)=false:=decide_eq_false fun e=>h (by rw[e])
theorem MC {a b:List Dom} {k:Nat} (h:gD a k≠gD b k):decide (a=b)=false:=decide_eq_false fun e=>h (by rw[e])
theorem JD {a b:List Dom} {k:Nat} (h:∀ i,i<k→gD a i=gD b i) (hk:¬k<a.length) (hl:a.length=b.length):decide (a=b)=true:=decide_eq_true (List.ext_getElem hl fun i h1 h2=>by rw[←jP h1,←jP h2];exact h i (by omega))
theorem eqD_s {a b:List Dom} {k:Nat} (h:∀ i,i<k→gD a i=gD b i) (h2:gD a k=gD b k):∀ i,i<k+1→gD a i=gD b i:=by
 intro i hi
 rcases Nat.lt_or_ge i k with h3 |h3
 ·exact h i h3
 ·rw[show i=k by omega];exact h2
theorem FG:Tryz.prog.eqGuardType Tryz.prog.depth 54=false:=by kernel_rfl
theorem xO:(Tryz.prog.info? 54).map (·.size)=some 3:=by kernel_rfl
theorem xP:TI Tryz.prog 54 true 3:=⟨⟨_,Tryz.underlying54,rfl⟩,by kernel_rfl⟩
theorem mj:Tryz.prog.underlying 27=some (.slice 54):=Tryz.underlying27
theorem eZ (a b:List Dom) (ha:a.length≤4194304) (hb:b.length≤4194304):Fn Tryz.prog 14 [.a (.slv a.length 3 (dsl a)),.a (.slv b.length 3 (dsl b))] [.val (.bool (decide (a=b)))]:=by
 refine aN (N:=26) Tryz.func14 rfl (by kernel_rfl) rfl (Nat.le_of_ble_eq_true rfl) [7,9,13] (dB rfl) (fun W=> ?_)
 show Wp _ _ _ [kV 0 (V.b (.a (.slv a.length 3 (dsl a)))),kV 1 (V.b (.a (.slv b.length 3 (dsl b)))),kF 7,kF 9,kF 13]
 refine sq (rg (zk (nl (sq (sq (rg (zm ?_)))))))
 refine z ?_ (h:=fun Z=>lnV Z mj)
 refine zm ?_
 refine z ?_ (h:=fun Z=>lnV Z mj)
 refine z ?_ (h:=fun Z=>ab Z vt vt (iZ rfl))
 refine nl ?_
 refine wi (fun c1=> ?_) (fun c1=> ?_)
 ·skip
  have c1P:=of_decide_eq_true c1
  refine sq (rg (zk (nl (aq ?_))))
  exact VRes.tmp _ _ _ (by exact rfl) (cc (congrArg Value.bool (by exact(MD (by omega)).symm)))
 ·skip
  have c1P:=of_decide_eq_false c1
  refine sk (sq (sq (rg (zk (nl (bkk ?_))))))
  refine bf (fun(k:Nat)=>k≤a.length∧∀ i,i<k→gD a i=gD b i) (fun(k:Nat)=>[kV 0 (V.b (.a (.slv a.length 3 (dsl a)))),kV 1 (V.b (.a (.slv b.length 3 (dsl b)))),kI 5 ((k:Nat):Int),kF 7,kF 9,kF 13]) (fun(k:Nat)=>a.length-k) ((0:Nat)) (by exact⟨Nat.zero_le _,fun i hi=>absurd hi (Nat.not_lt_zero i)⟩) (wkf id (wS<|wS<|wE (e:=(aO (by first |rfl |omega |(simp;done) |(simp;omega))))<|wF<|wF<|wF<|wN)) ?_
  rintro k inv2
  replace inv2:k≤a.length∧∀ i,i<k→gD a i=gD b i:=inv2
  obtain⟨inv2_0,inv2_1⟩:=inv2
  refine sq (sq (rg (zm (zm ?_))))
  refine z ?_ (h:=fun Z=>lnV Z mj)
  refine z ?_ (h:=fun Z=>ab Z vt vt (bP rfl))
  refine nl ?_
  refine wi (fun c3=> ?_) (fun c3=> ?_)
  ·skip
   have c3P:=of_decide_eq_true c3
   refine sk (sq (bkk (sq (cg (zdm (zdm ?_))))))
   refine zd ?_ (h:=fun Z=>ixv Z mj xO vt)
   refine zd ?_ (h:=fun Z=>uD Z xP)
   refine zdm (zdm ?_)
   refine zd ?_ (h:=fun Z=>ixv Z mj xO vt)
   refine zd ?_ (h:=fun Z=>uD Z xP)
   refine zd ?_ (h:=fun Z=>ab Z va va (uo FG (fun w=>(lG ((gD a k).x) ((gD a k).y) ((gD a k).d) ((gD b k).x) ((gD b k).y) ((gD b k).d) w).trans (congrArg (fun z=>Result.ok (Value.bool z) w) (rfl:(!(dEq ((gD a k).x) ((gD a k).y) ((gD a k).d) ((gD b k).x) ((gD b k).y) ((gD b k).d)))=(!(dEq ((gD a k).x) ((gD a k).y) ((gD a k).d) ((gD b k).x) ((gD b k).y) ((gD b k).d))))))))
   refine bJ ?_
   refine wi (b:=(!(dEq ((gD a k).x) ((gD a k).y) ((gD a k).d) ((gD b k).x) ((gD b k).y) ((gD b k).d)))) (fun c4=> ?_) (fun c4=> ?_)
   ·skip
    have c5:(dEq ((gD a k).x) ((gD a k).y) ((gD a k).d) ((gD b k).x) ((gD b k).y) ((gD b k).d))=false:=by first |(rw[←Bool.not_eq_true'];exact c4) |simpa using c4
    rw[jE,decide_eq_false_iff_not]at c5
    refine sq (rg (zk (nl (aq ?_))))
    exact VRes.tmp _ _ _ (by exact rfl) (cc (congrArg Value.bool (by exact(MC (k:=k) (by first |assumption |simp_all [jE])).symm)))
   ·skip
    have c6:(dEq ((gD a k).x) ((gD a k).y) ((gD a k).d) ((gD b k).x) ((gD b k).y) ((gD b k).d))=true:=by first |(rw[←Bool.not_eq_false'];exact c4) |simpa using c4
    rw[jE,decide_eq_true_eq]at c6
    refine sk (rg (zm ?_))
    refine z ?_ (h:=fun Z=>ab Z vt vc rA)
    refine za (nl ?_)
    exact ar ((k+1)) (by exact⟨by omega,eqD_s (by assumption) (by first |assumption |simp_all [jE])⟩) (by show a.length-(k+1)<a.length-k;omega) (wkf id (wS<|wS<|wE (e:=(aO (by first |rfl |omega |(simp;done) |(simp;omega))))<|wF<|wF<|wF<|wN))
  ·skip
   have c3P:=of_decide_eq_false c3
   refine aJ (sq (rg (zk (nl (aq ?_)))))
   exact VRes.tmp _ _ _ (by exact rfl) (cc (congrArg Value.bool (by exact(JD (k:=k) (by assumption) (by omega) (by omega)).symm)))
def ixT (a:List (List Dom)) (q:List Dom):Int:=if a.any (fun x=>decide (x=q))then((a.findIdx (fun x=>decide (x=q)):Nat):Int)else -1
theorem Ds {a:List (List Dom)} {q:List Dom} {k:Nat} (hk:k<a.length) (h:∀ i,i<k→gLd a i≠q) (he:gLd a k=q):(k:Int)=ixT a q:=by
 unfold ixT
 have h1:a.any (fun x=>decide (x=q))=true:=List.any_eq_true.2 ⟨a[k],List.getElem_mem hk,by rw[←ee hk];exact decide_eq_true he⟩
 rw[if_pos h1]
 have:a.findIdx (fun x=>decide (x=q))=k:=by
  rw[List.findIdx_eq hk]
  refine⟨by rw[←ee hk];exact decide_eq_true he,fun j hj=> ?_⟩
  have:=h j hj
  rw[ee (by omega)]at this
  exact decide_eq_false this
 rw[this]
theorem MX {a:List (List Dom)} {q:List Dom} {k:Nat} (hk:¬k<a.length) (h:∀ i,i<k→gLd a i≠q):(-1:Int)=ixT a q:=by
 unfold ixT
 rw[if_neg]
 intro e
 obtain⟨x,hx,hq⟩:=List.any_eq_true.1 e
 obtain⟨j,hj,rfl⟩:=List.getElem_of_mem hx
 refine h j (by omega) ?_
 rw[ee hj];exact of_decide_eq_true hq
theorem uV {a:List (List Dom)} {q:List Dom} (h:0≤ixT a q):(ixT a q).toNat<a.length∧gLd a (ixT a q).toNat=q:=by
 unfold ixT at h⊢
 split
 ·rename_i h1
  have hlt:a.findIdx (fun x=>decide (x=q))<a.length:=List.findIdx_lt_length_of_exists (by simpa using h1)
  refine⟨by simpa using hlt,?_⟩
  rw[show(((a.findIdx (fun x=>decide (x=q)):Nat):Int)).toNat=a.findIdx (fun x=>decide (x=q)) by simp,ee hlt]
  have:=List.findIdx_getElem (w:=hlt)
  exact of_decide_eq_true this
 ·rename_i h1;rw[if_neg h1]at h;omega
theorem BR (a:List (List Dom)) (q:List Dom):ixT a q<(a.length:Int)∧ -1≤ixT a q:=by
 rcases Int.lt_or_le (ixT a q) 0 with h |h
 ·refine⟨by omega,?_⟩
  unfold ixT;split<;>omega
 ·have:=(uV h).1;omega
theorem ne_s {a:List (List Dom)} {q:List Dom} {k:Nat} (h:∀ i,i<k→gLd a i≠q) (h2:gLd a k≠q):∀ i,i<k+1→gLd a i≠q:=by
 intro i hi
 rcases Nat.lt_or_ge i k with h3 |h3
 ·exact h i h3
 ·rw[show i=k by omega];exact h2
end Cl
end Go.Proofs.YtonlghbbdcddoaaGreat
