/- Walks. -/
import Derived.Test.YtonlghbbdcddoaaGreatC31
import Derived.Test.YtonlghbbdcddoaaGreatEA
import Derived.Test.YtonlghbbdcddoaaGreatEB
import Derived.Test.YtonlghbbdcddoaaGreatHs
import Derived.Test.YtonlghbbdcddoaaGreatClB
set_option maxHeartbeats 4000000
set_option maxRecDepth 100000
namespace Go.Proofs.YtonlghbbdcddoaaGreat
namespace Cl
open Go.ChangeShapes Go.WideShapes Go.ChangeAt Go.RowKit
theorem He:∀ (L:List Int) (a:Int) (n:Nat),(∀ x∈L, -1000≤x∧x≤80)→ -(1000*(n:Int))≤a∧a≤1000*(n:Int)→n+L.length≤1000→ -1000000≤L.foldl qQ a∧L.foldl qQ a≤1000000:=by
  intro L
  induction L with
  | nil=>intro a n _ h hn;simp only[List.foldl_nil];simp at hn;omega
  | cons x L ih=>
    intro a n hx h hn
    rw[List.foldl_cons]
    have hx0:=hx x (List.mem_cons_self ..)
    rw[List.length_cons]at hn
    refine ih _ (n+1) (fun y hy=>hx y (List.mem_cons_of_mem _ hy)) ?_ (by omega)
    unfold qQ
    split
    · omega
    · rw[IntWalk.wrap64_in _ (by omega)];omega
theorem JU {L:List Int} (h:∀ v,v<L.length→ -1000≤gI L v∧gI L v≤80) (hn:L.length≤81): -1000000≤pU L∧pU L≤1000000:=by
 refine He L 0 0 (fun x hx=> ?_) (by simp) (by omega)
 obtain⟨i,hi,rfl⟩:=List.getElem_of_mem hx
 have:=h i hi
 rwa [cQ hi]at this
noncomputable def hsT (l:List Int) (k:Nat):Int:=pU (hts l (gLd (ltR l) k))
theorem BP (l:List Int) (k:Nat): -1000000≤hsT l k∧hsT l k≤1000000:=JU (fun v _=>oK v) (uh _ _)
noncomputable def bst (l:List Int) (hi:Bool):Nat→Nat × Int
 | 0=>(0,0)
 | k+1=>if k=0∨(hi=true∧(bst l hi k).2<hsT l k)∨(hi=false∧hsT l k<(bst l hi k).2)then(k,hsT l k)else bst l hi k
theorem rK {l:List Int} {hi:Bool} {k:Nat} (h:k=0∨(hi=true∧(bst l hi k).2<hsT l k)∨(hi=false∧hsT l k<(bst l hi k).2)):bst l hi (k+1)=(k,hsT l k):=by
 rw[bst,if_pos h]
theorem yi {l:List Int} {hi:Bool} {k:Nat} (h:¬(k=0∨(hi=true∧(bst l hi k).2<hsT l k)∨(hi=false∧hsT l k<(bst l hi k).2))):bst l hi (k+1)=bst l hi k:=by
 rw[bst,if_neg h]
theorem yh (l:List Int) (hi:Bool):∀ k,(0<k→(bst l hi k).1<k)∧ -1000000≤(bst l hi k).2∧(bst l hi k).2≤1000000:=by
  intro k
  induction k with
  | zero=>exact⟨fun h=>absurd h (Nat.lt_irrefl _),by simp [bst],by simp [bst]⟩
  | succ k ih=>
    have hb:=BP l k
    by_cases h:k=0∨(hi=true∧(bst l hi k).2<hsT l k)∨(hi=false∧hsT l k<(bst l hi k).2)
    · rw[rK h];exact⟨fun _=>Nat.lt_succ_self k,hb.1,hb.2⟩
    · rw[yi h];exact⟨fun _=>by have:=ih.1 (by omega);omega,ih.2.1,ih.2.2⟩
noncomputable def AB (l:List Int) (hi:Bool) (k:Nat):List Dom:=if k=0 then []else gLd (ltR l) (bst l hi k).1
noncomputable def fz (l:List Int):Bool:=cu l&& !(decide (((ltR l).length:Int)=0))
noncomputable def dc (l:List Int) (hi:Bool):List Dom:=if fz l=true then AB l hi (ltR l).length else []
theorem ls {l:List Int} {hi:Bool} (h:fz l=false):dc l hi=[]:=by unfold dc;rw[h];rfl
theorem nO {l:List Int} {hi:Bool} (h:fz l=true):dc l hi=AB l hi (ltR l).length:=by unfold dc;rw[if_pos h]
theorem zQ (l:List Int) (hi:Bool):(dc l hi).length≤33:=by
 unfold dc
 split
 ·unfold AB
  split
  ·simp
  ·exact oP ((yh l hi _).1 (by omega))
 ·simp
theorem Hz {l:List Int} {k:Nat} (hk:k<(ltR l).length):ct l (gLd (ltR l) k)=true:=by
 obtain⟨h1,h2⟩:=mQ (l:=l) (P:=gLd (ltR l) k) (by rw[ee hk];exact List.getElem_mem hk)
 exact bO h1 h2
theorem pj:(Tryz.prog.info? 27).map (·.size)=some 1:=by kernel_rfl
theorem fN:TI Tryz.prog 26 true 1:=⟨⟨_,Tryz.underlying26,rfl⟩,by kernel_rfl⟩
theorem pk:TI Tryz.prog 27 false 1:=⟨⟨_,Tryz.underlying27,rfl⟩,by kernel_rfl⟩
theorem iJ:Tryz.prog.underlying 50=some (.slice 27):=Tryz.underlying50
theorem lw (L:List Int) (hl:L.length≤4194304):Fn Tryz.prog 34 [.a (.slv L.length 1 (isl L))] [.val (.int .i64 (pU L))]:=by
  refine⟨⟨_,Tryz.func34,by kernel_rfl,by kernel_rfl⟩,fun w args h=> ?_⟩
  match args,eA.1 h with
  | [u0],⟨h0,_⟩=>
    obtain⟨A0,c0,rfl,hc0,hr0⟩:=nK h0
    refine Calls.mono (uS L A0 L.length c0 w hr0 hl) ?_
    rintro e w' ⟨rfl,hb⟩
    exact⟨_,rfl,rfl,hb⟩
theorem yU (l:List Int) (hl:l.length≤4194304):FnO Tryz.prog 20 [.agg [(.sl 800 0 l.length:A)],.a (.val (.int .i64 1))] [(.o 800,some (.o ⟨3,1,true,pl (isl l)⟩))] (V.tup [.a (.sl 900 0 ((dc l true).length)),.a (.val (.bool (fz l)))]) [(.o 800,some (.o ⟨3,1,true,pl (isl l)⟩)),(.o 900,some (.o ⟨54,3,true,pl (dsl (dc l true))⟩))] [800]:=by
 have hll:=ui l
 refine co (N:=49) Tryz.func20 rfl (by kernel_rfl) rfl (Nat.le_of_ble_eq_true rfl) rfl rfl (by kernel_rfl) (by kernel_rfl) ⟨bB (fun _=>rfl),trivial⟩ [2,13,15,19,23,32,33,49,50,51,52] (DM rfl) (fun W own kp im0=> ?_)
 show Wp _ _ _ [kV 0 (V.b (.agg [(.sl 800 0 l.length:A)])),kI 1 1,kO 800 3 1 true (pl (isl l)),kF 2,kF 13,kF 15,kF 19,kF 23,kF 32,kF 33,kF 49,kF 50,kF 51,kF 52]
 refine sq (rg ?_)
 refine z ?_ (h:=fun Z=>aM (h:=2) Z xt (by exact ob1 rfl))
 refine zk (zk (nl (sq (rg ?_))))
 refine z ?_ (h:=fun Z=>aa (xs:=[(.sl 800 0 l.length:A)]) Z fN rfl (by decide) rfl)
 refine z ?_ (h:=fun Z=>bo (d:=13) (f:=32) (os:=[(.o 800,some (.o ⟨3,1,true,pl (isl l)⟩))]) (os':=[(.o 800,some (.o ⟨3,1,true,pl (isl l)⟩)),(.o 13,some (.o ⟨27,1,true,rwD 54 (ltR l)⟩))]) (r:=V.b (.a (.sl 13 0 ((ltR l).length)))) (bs:=[.agg [(.sl 800 0 l.length:A)]]) (keep:=[800]) (new:=[13]) (dead:=[]) Z (FnO.ren' (ki l (by omega)) (bn [(900,13)]) rfl rfl (by kernel_rfl) (by kernel_rfl) ⟨bB (fun _=>rfl),ij,trivial⟩ (by kernel_rfl) rfl (by simp only[cH,Ob.ren,bM,aC,aD,aA,bt,bq];first |done |rfl) (by simp only[cH,Ob.ren,bM,aC,aD,aA,bt,bq];first |done |rfl) rfl rfl) (by kernel_rfl) ⟨bB (fun _=>rfl),ij,trivial⟩ (by kernel_rfl) (ArgOs.cons (ArgO.slot 12 (.agg [(.sl 800 0 l.length:A)])) (ArgOs.nil)))
 refine za (nl (sq (sq ?_)))
 rcases Bool.eq_false_or_eq_true ((cu l))with c1 |c1
 ·skip
  have hsi:=c1
  refine rg ?_
  refine z ?_ (h:=fun Z=>aa (xs:=[(.sl 800 0 l.length:A)]) Z fN rfl (by decide) rfl)
  refine z ?_ (h:=fun Z=>ah Z (dV l (by omega)) (ac (ArgV.reg _ _ _ (s:=1) (by simp [isl]) (by exact List.take_of_length_le (by simp [isl]))) an) (aH (congrArg Value.bool c1)))
  refine z ?_ (h:=fun Z=>aK Z vt (bE (c:=false) rfl))
  refine zm ?_
  refine zg ?_ (h:=fun Z=>ae rfl rfl (mt Z))
  refine zg ?_ (h:=fun Z=>ae rfl rfl (lnS Z iJ))
  refine zg ?_ (h:=fun Z=>ae rfl rfl (ab Z vt vc (cW rfl)))
  refine z ?_ (h:=fun Z=>ao Z vt xt)
  refine nl ?_
  refine wi (fun c2=> ?_) (fun c2=> ?_)
  ·skip
   have c2P:=of_decide_eq_true c2
   have hen:fz l=false:=by unfold fz;rw[c2];exact Bool.and_false _
   refine sq (rg (zk (zk (nl ?_))))
   refine dE (wnD (k:=4) (h:=15) (T:=54) (by kernel_rfl) (by kernel_rfl)) ?_
   refine aq ?_
   exact⟨[kS 4 900 0 0,kB 5 false,kO 800 3 1 true (pl (isl l)),kO 900 54 3 true (pl (dsl [])),kF 2,kF 13,kF 15,kF 19,kF 23,kF 32,kF 33,kF 49,kF 50,kF 51,kF 52],wkf (bn [(900,15)]) (wS<|wS<|wP<|wP<|by(iterate 11 refine wF ?_);exact wN),⟨by kernel_rfl,cw (c:=pl (dsl [])) (by kernel_rfl) (congrArg (fun z=>pl (dsl z)) (by exact(ls hen).symm)),trivial⟩,⟨da 4 (.a (.sl 900 0 0)) (.a (.sl 900 0 ((dc l true).length))) (by kernel_rfl) (congrArg (fun z:Nat=>B.a (.sl 900 0 z)) (by(rw[ls hen];rfl))),da 5 (.a (.val (.bool false))) (.a (.val (.bool (fz l)))) (by kernel_rfl) (congrArg (fun z:Bool=>B.a (.val (.bool z))) (by exact hen.symm))⟩⟩
  ·skip
   have c2P:=of_decide_eq_false c2
   have hen:fz l=true:=by unfold fz;rw[hsi,c2];rfl
   have hlp:0<(ltR l).length:=by omega
   refine sk (sq (rg (zk (zk (nl (sq (sq (rg (zm ?_)))))))))
   refine z ?_ (h:=fun Z=>lnS Z iJ)
   refine z ?_ (h:=fun Z=>mc Z)
   refine nl (bkk ?_)
   refine bf (fun(k:Nat)=>k≤(ltR l).length) (fun(k:Nat)=>[kI 1 1,kP 2 2 0,kS 6 13 0 ((ltR l).length),kI 7 (((bst l true k).1:Nat):Int),kI 8 ((bst l true k).2),kS 22 13 0 ((ltR l).length),kI 23 (((ltR l).length:Nat):Int),kI 24 ((k:Nat):Int),kO 2 26 1 true [(.sl 800 0 l.length:A)],kO 13 27 1 true (rwD 54 (ltR l)),kO 800 3 1 true (pl (isl l)),kF 15,kF 19,kF 23,kF 32,kF 33,kF 49,kF 50,kF 51,kF 52]) (fun(k:Nat)=>(ltR l).length-k) ((0:Nat)) (by exact(Nat.zero_le _:0≤_)) (wkf id (wS<|wS<|wS<|wE (e:=(aO (by rfl)))<|wE (e:=(aO (by rfl)))<|wS<|wS<|wE (e:=(aO (by rfl)))<|wX<|wQD<|wP<|by(iterate 9 refine wF ?_);exact wN)) ?_
   rintro k inv3
   replace inv3:k≤(ltR l).length:=inv3
   have invk:=inv3
   have hbb:=yh l true k
   refine sq (rg ?_)
   refine z ?_ (h:=fun Z=>ab Z vt vt (bP rfl))
   refine nl (sq ?_)
   refine wi (fun c4=> ?_) (fun c4=> ?_)
   ·skip
    have c4P:=of_decide_eq_true c4
    have hkl:k<(ltR l).length:=by omega
    have hst:(cu l&&ct l (gLd (ltR l) k))=true:=by rw[hsi,Hz hkl];rfl
    have hrow:(gLd (ltR l) k).length≤33:=oP hkl
    have hhf:=cO l (gLd (ltR l) k)
    have hhl:=uh l (gLd (ltR l) k)
    have hhb:=BP l k
    have hse:pU (cj l (gLd (ltR l) k))=hsT l k:=by unfold hsT;rw[fA hst]
    have hsd:pU (hts l (gLd (ltR l) k))=hsT l k:=rfl
    refine sk (sq (bkk (sq ?_)))
    refine dE (up1D (h:=13) (h1:=15) (T:=54) (T0:=27) (s0:=1) (ex0:=true) (L:=(ltR l)) k (by omega)) ?_
    refine rg (zm ?_)
    refine z ?_ (h:=fun Z=>ix0 Z iJ pj vt (hlt:=(by omega)))
    refine z ?_ (h:=fun Z=>lu1 (i:=k) Z pk (by simp only[iU,hZ];first |omega |assumption))
    refine za (za (nl (sq (rg (zm ?_)))))
    refine z ?_ (h:=fun Z=>aa (xs:=[(.sl 800 0 l.length:A)]) Z fN rfl (by decide) rfl)
    refine zm ?_
    refine z ?_ (h:=fun Z=>ah Z (fa l (gLd (ltR l) k) (by omega) (by omega) (by omega)) (ac (ArgV.reg _ _ _ (s:=1) (by simp [isl]) (by exact List.take_of_length_le (by simp [isl]))) (ac (bR (by exact bQ _)) an)) (ResV.row _ _ _ _ 32))
    refine z ?_ (h:=fun Z=>ah Z (lw (cj l (gLd (ltR l) k)) (by omega)) (ac (bR (by exact fi _)) an) rv)
    refine z ?_ (h:=fun Z=>ab Z vt vt (rM (by omega) (by omega)))
    refine za (nl ?_)
    refine dE (qk1D (h:=13) (T:=54) (T0:=27) (s0:=1) (ex0:=true) (h1:=15) (n:=((gLd (ltR l) k).length)) (L:=(ltR l)) (L2:=(ltR l)) (r:=(gLd (ltR l) k)) k (by(first |omega |assumption)) (by rfl) (DP (by omega))) ?_
    refine sq ?_
    rcases Bool.eq_false_or_eq_true (decide (((k:Nat):Int)=0))with c5 |c5
    ·skip
     have c5P:=of_decide_eq_true c5
     have hk0:k=0:=by omega
     have hbs:=rK (l:=l) (hi:=true) (k:=k) (.inl hk0)
     refine rg (zm ?_)
     refine z ?_ (h:=fun Z=>ab Z vt vc (cW (c:=true) c5))
     refine zm (zo (zo (zo ?_)))
     refine z ?_ (h:=fun Z=>al Z vt xc)
     refine nl (wt (rg (zm (zm (za (za (nl (rg ?_))))))))
     refine z ?_ (h:=fun Z=>ab Z vt vc (rA (by omega) (by omega)))
     refine zm (nl ?_)
     exact ar ((k+1)) (by show _≤_;omega) (by show(ltR l).length-(k+1)<(ltR l).length-k;omega) (wkf id (wS<|wS<|wS<|wE (e:=(aO (by(rw[hbs];first |done |rfl |omega |(rw[hse];omega)))))<|wE (e:=(aO (by(rw[hbs];first |done |rfl |omega |(rw[hse];omega)))))<|wS<|wS<|wE (e:=(aO (by rfl)))<|wX<|wQD<|wP<|by(iterate 9 refine wF ?_);exact wN))
    ·skip
     have c5P:=of_decide_eq_false c5
     have hkn:k≠0:=by omega
     refine rg (zm ?_)
     refine z ?_ (h:=fun Z=>ab Z vt vc (cW (c:=false) c5))
     refine zm ?_
     refine zg ?_ (h:=fun Z=>ae rfl rfl (mt Z))
     refine zg ?_ (h:=fun Z=>ae rfl rfl (mt Z))
     refine zg ?_ (h:=fun Z=>ae rfl rfl (ab Z vt vt (oi rfl)))
     refine z ?_ (h:=fun Z=>ao Z vt xt)
     refine nl ?_
     refine wi (fun c6=> ?_) (fun c6=> ?_)
     ·skip
      have c6P:=of_decide_eq_true c6
      have hbs:=rK (l:=l) (hi:=true) (k:=k) (.inr (.inl ⟨rfl,by rw[hse]at*;omega⟩))
      refine rg (zm (zm (za (za (nl (rg ?_))))))
      refine z ?_ (h:=fun Z=>ab Z vt vc (rA (by omega) (by omega)))
      refine zm (nl ?_)
      exact ar ((k+1)) (by show _≤_;omega) (by show(ltR l).length-(k+1)<(ltR l).length-k;omega) (wkf id (wS<|wS<|wS<|wE (e:=(aO (by(rw[hbs];first |done |rfl |omega |(rw[hse];omega)))))<|wE (e:=(aO (by(rw[hbs];first |done |rfl |omega |(rw[hse];omega)))))<|wS<|wS<|wE (e:=(aO (by rfl)))<|wX<|wQD<|wP<|by(iterate 9 refine wF ?_);exact wN))
     ·skip
      have c6P:=of_decide_eq_false c6
      have hbs:=yi (l:=l) (hi:=true) (k:=k) (by rw[hse]at*;simp;omega)
      refine sk (rg ?_)
      refine z ?_ (h:=fun Z=>ab Z vt vc (rA (by omega) (by omega)))
      refine zm (nl ?_)
      exact ar ((k+1)) (by show _≤_;omega) (by show(ltR l).length-(k+1)<(ltR l).length-k;omega) (wkf id (wS<|wS<|wS<|wE (e:=(aO (by(rw[hbs];first |done |rfl |omega |(rw[hse];omega)))))<|wE (e:=(aO (by(rw[hbs];first |done |rfl |omega |(rw[hse];omega)))))<|wS<|wS<|wE (e:=(aO (by rfl)))<|wX<|wQD<|wP<|by(iterate 9 refine wF ?_);exact wN))
   ·skip
    have c4P:=of_decide_eq_false c4
    have hke:k=(ltR l).length:=by omega
    have hbl:(bst l true k).1<(ltR l).length:=by have:=hbb.1 (by omega);omega
    have hfi:gLd (ltR l) (bst l true k).1=dc l true:=by rw[nO hen,←hke];unfold AB;rw[if_neg (by omega)]
    have hfo:AB l true k=dc l true:=by rw[nO hen,←hke]
    refine aJ (sq ?_)
    refine dE (up1D (h:=13) (h1:=15) (T:=54) (T0:=27) (s0:=1) (ex0:=true) (L:=(ltR l)) ((bst l true k).1) (by omega)) ?_
    refine rg (zm (zm ?_))
    refine z ?_ (h:=fun Z=>ix0 Z iJ pj vt (hlt:=(by omega)))
    refine z ?_ (h:=fun Z=>lu1 (i:=((bst l true k).1)) Z pk (by simp only[iU,hZ];first |omega |assumption))
    refine za (zk (nl (aq ?_)))
    exact⟨[kS 4 900 0 ((gLd (ltR l) ((bst l true k).1)).length),kB 5 true,kO 800 3 1 true (pl (isl l)),kO 900 54 3 true (pl (dsl (gLd (ltR l) ((bst l true k).1)))),kF 2,kF 13,kF 15,kF 19,kF 23,kF 32,kF 33,kF 49,kF 50,kF 51,kF 52],wkf (bn [(900,15)]) (wS<|wS<|wP<|wP<|by(iterate 11 refine wF ?_);exact wN),⟨by kernel_rfl,cw (c:=pl (dsl (gLd (ltR l) ((bst l true k).1)))) (by kernel_rfl) (congrArg (fun z=>pl (dsl z)) (by exact hfi)),trivial⟩,⟨da 4 (.a (.sl 900 0 ((gLd (ltR l) ((bst l true k).1)).length))) (.a (.sl 900 0 ((dc l true).length))) (by kernel_rfl) (congrArg (fun z:Nat=>B.a (.sl 900 0 z)) (by exact congrArg List.length hfi)),da 5 (.a (.val (.bool true))) (.a (.val (.bool (fz l)))) (by kernel_rfl) (congrArg (fun z:Bool=>B.a (.val (.bool z))) (by exact hen.symm))⟩⟩
 ·skip
  have hen:fz l=false:=by unfold fz;rw[c1];rfl
  refine rg ?_
  refine z ?_ (h:=fun Z=>aa (xs:=[(.sl 800 0 l.length:A)]) Z fN rfl (by decide) rfl)
  refine z ?_ (h:=fun Z=>ah Z (dV l (by omega)) (ac (ArgV.reg _ _ _ (s:=1) (by simp [isl]) (by exact List.take_of_length_le (by simp [isl]))) an) (aH (congrArg Value.bool c1)))
  refine z ?_ (h:=fun Z=>aK Z vt (bE (c:=true) rfl))
  refine zm (zo (zo (zo ?_)))
  refine z ?_ (h:=fun Z=>al Z vt xc)
  refine nl (wt (sq (rg (zk (zk (nl ?_))))))
  refine dE (wnD (k:=4) (h:=15) (T:=54) (by kernel_rfl) (by kernel_rfl)) ?_
  refine aq ?_
  exact⟨[kS 4 900 0 0,kB 5 false,kO 800 3 1 true (pl (isl l)),kO 900 54 3 true (pl (dsl [])),kF 2,kF 13,kF 15,kF 19,kF 23,kF 32,kF 33,kF 49,kF 50,kF 51,kF 52],wkf (bn [(900,15)]) (wS<|wS<|wP<|wP<|by(iterate 11 refine wF ?_);exact wN),⟨by kernel_rfl,cw (c:=pl (dsl [])) (by kernel_rfl) (congrArg (fun z=>pl (dsl z)) (by exact(ls hen).symm)),trivial⟩,⟨da 4 (.a (.sl 900 0 0)) (.a (.sl 900 0 ((dc l true).length))) (by kernel_rfl) (congrArg (fun z:Nat=>B.a (.sl 900 0 z)) (by(rw[ls hen];rfl))),da 5 (.a (.val (.bool false))) (.a (.val (.bool (fz l)))) (by kernel_rfl) (congrArg (fun z:Bool=>B.a (.val (.bool z))) (by exact hen.symm))⟩⟩
theorem yV (l:List Int) (hl:l.length≤4194304):FnO Tryz.prog 20 [.agg [(.sl 800 0 l.length:A)],.a (.val (.int .i64 (-1)))] [(.o 800,some (.o ⟨3,1,true,pl (isl l)⟩))] (V.tup [.a (.sl 900 0 ((dc l false).length)),.a (.val (.bool (fz l)))]) [(.o 800,some (.o ⟨3,1,true,pl (isl l)⟩)),(.o 900,some (.o ⟨54,3,true,pl (dsl (dc l false))⟩))] [800]:=by
 have hll:=ui l
 refine co (N:=49) Tryz.func20 rfl (by kernel_rfl) rfl (Nat.le_of_ble_eq_true rfl) rfl rfl (by kernel_rfl) (by kernel_rfl) ⟨bB (fun _=>rfl),trivial⟩ [2,13,15,19,23,32,33,49,50,51,52] (DM rfl) (fun W own kp im0=> ?_)
 show Wp _ _ _ [kV 0 (V.b (.agg [(.sl 800 0 l.length:A)])),kI 1 (-1),kO 800 3 1 true (pl (isl l)),kF 2,kF 13,kF 15,kF 19,kF 23,kF 32,kF 33,kF 49,kF 50,kF 51,kF 52]
 refine sq (rg ?_)
 refine z ?_ (h:=fun Z=>aM (h:=2) Z xt (by exact ob1 rfl))
 refine zk (zk (nl (sq (rg ?_))))
 refine z ?_ (h:=fun Z=>aa (xs:=[(.sl 800 0 l.length:A)]) Z fN rfl (by decide) rfl)
 refine z ?_ (h:=fun Z=>bo (d:=13) (f:=32) (os:=[(.o 800,some (.o ⟨3,1,true,pl (isl l)⟩))]) (os':=[(.o 800,some (.o ⟨3,1,true,pl (isl l)⟩)),(.o 13,some (.o ⟨27,1,true,rwD 54 (ltR l)⟩))]) (r:=V.b (.a (.sl 13 0 ((ltR l).length)))) (bs:=[.agg [(.sl 800 0 l.length:A)]]) (keep:=[800]) (new:=[13]) (dead:=[]) Z (FnO.ren' (ki l (by omega)) (bn [(900,13)]) rfl rfl (by kernel_rfl) (by kernel_rfl) ⟨bB (fun _=>rfl),ij,trivial⟩ (by kernel_rfl) rfl (by simp only[cH,Ob.ren,bM,aC,aD,aA,bt,bq];first |done |rfl) (by simp only[cH,Ob.ren,bM,aC,aD,aA,bt,bq];first |done |rfl) rfl rfl) (by kernel_rfl) ⟨bB (fun _=>rfl),ij,trivial⟩ (by kernel_rfl) (ArgOs.cons (ArgO.slot 12 (.agg [(.sl 800 0 l.length:A)])) (ArgOs.nil)))
 refine za (nl (sq (sq ?_)))
 rcases Bool.eq_false_or_eq_true ((cu l))with c1 |c1
 ·skip
  have hsi:=c1
  refine rg ?_
  refine z ?_ (h:=fun Z=>aa (xs:=[(.sl 800 0 l.length:A)]) Z fN rfl (by decide) rfl)
  refine z ?_ (h:=fun Z=>ah Z (dV l (by omega)) (ac (ArgV.reg _ _ _ (s:=1) (by simp [isl]) (by exact List.take_of_length_le (by simp [isl]))) an) (aH (congrArg Value.bool c1)))
  refine z ?_ (h:=fun Z=>aK Z vt (bE (c:=false) rfl))
  refine zm ?_
  refine zg ?_ (h:=fun Z=>ae rfl rfl (mt Z))
  refine zg ?_ (h:=fun Z=>ae rfl rfl (lnS Z iJ))
  refine zg ?_ (h:=fun Z=>ae rfl rfl (ab Z vt vc (cW rfl)))
  refine z ?_ (h:=fun Z=>ao Z vt xt)
  refine nl ?_
  refine wi (fun c2=> ?_) (fun c2=> ?_)
  ·skip
   have c2P:=of_decide_eq_true c2
   have hen:fz l=false:=by unfold fz;rw[c2];exact Bool.and_false _
   refine sq (rg (zk (zk (nl ?_))))
   refine dE (wnD (k:=4) (h:=15) (T:=54) (by kernel_rfl) (by kernel_rfl)) ?_
   refine aq ?_
   exact⟨[kS 4 900 0 0,kB 5 false,kO 800 3 1 true (pl (isl l)),kO 900 54 3 true (pl (dsl [])),kF 2,kF 13,kF 15,kF 19,kF 23,kF 32,kF 33,kF 49,kF 50,kF 51,kF 52],wkf (bn [(900,15)]) (wS<|wS<|wP<|wP<|by(iterate 11 refine wF ?_);exact wN),⟨by kernel_rfl,cw (c:=pl (dsl [])) (by kernel_rfl) (congrArg (fun z=>pl (dsl z)) (by exact(ls hen).symm)),trivial⟩,⟨da 4 (.a (.sl 900 0 0)) (.a (.sl 900 0 ((dc l false).length))) (by kernel_rfl) (congrArg (fun z:Nat=>B.a (.sl 900 0 z)) (by(rw[ls hen];rfl))),da 5 (.a (.val (.bool false))) (.a (.val (.bool (fz l)))) (by kernel_rfl) (congrArg (fun z:Bool=>B.a (.val (.bool z))) (by exact hen.symm))⟩⟩
  ·skip
   have c2P:=of_decide_eq_false c2
   have hen:fz l=true:=by unfold fz;rw[hsi,c2];rfl
   have hlp:0<(ltR l).length:=by omega
   refine sk (sq (rg (zk (zk (nl (sq (sq (rg (zm ?_)))))))))
   refine z ?_ (h:=fun Z=>lnS Z iJ)
   refine z ?_ (h:=fun Z=>mc Z)
   refine nl (bkk ?_)
   refine bf (fun(k:Nat)=>k≤(ltR l).length) (fun(k:Nat)=>[kI 1 (-1),kP 2 2 0,kS 6 13 0 ((ltR l).length),kI 7 (((bst l false k).1:Nat):Int),kI 8 (-(bst l false k).2),kS 22 13 0 ((ltR l).length),kI 23 (((ltR l).length:Nat):Int),kI 24 ((k:Nat):Int),kO 2 26 1 true [(.sl 800 0 l.length:A)],kO 13 27 1 true (rwD 54 (ltR l)),kO 800 3 1 true (pl (isl l)),kF 15,kF 19,kF 23,kF 32,kF 33,kF 49,kF 50,kF 51,kF 52]) (fun(k:Nat)=>(ltR l).length-k) ((0:Nat)) (by exact(Nat.zero_le _:0≤_)) (wkf id (wS<|wS<|wS<|wE (e:=(aO (by rfl)))<|wE (e:=(aO (by rfl)))<|wS<|wS<|wE (e:=(aO (by rfl)))<|wX<|wQD<|wP<|by(iterate 9 refine wF ?_);exact wN)) ?_
   rintro k inv3
   replace inv3:k≤(ltR l).length:=inv3
   have invk:=inv3
   have hbb:=yh l false k
   refine sq (rg ?_)
   refine z ?_ (h:=fun Z=>ab Z vt vt (bP rfl))
   refine nl (sq ?_)
   refine wi (fun c4=> ?_) (fun c4=> ?_)
   ·skip
    have c4P:=of_decide_eq_true c4
    have hkl:k<(ltR l).length:=by omega
    have hst:(cu l&&ct l (gLd (ltR l) k))=true:=by rw[hsi,Hz hkl];rfl
    have hrow:(gLd (ltR l) k).length≤33:=oP hkl
    have hhf:=cO l (gLd (ltR l) k)
    have hhl:=uh l (gLd (ltR l) k)
    have hhb:=BP l k
    have hse:pU (cj l (gLd (ltR l) k))=hsT l k:=by unfold hsT;rw[fA hst]
    have hsd:pU (hts l (gLd (ltR l) k))=hsT l k:=rfl
    refine sk (sq (bkk (sq ?_)))
    refine dE (up1D (h:=13) (h1:=15) (T:=54) (T0:=27) (s0:=1) (ex0:=true) (L:=(ltR l)) k (by omega)) ?_
    refine rg (zm ?_)
    refine z ?_ (h:=fun Z=>ix0 Z iJ pj vt (hlt:=(by omega)))
    refine z ?_ (h:=fun Z=>lu1 (i:=k) Z pk (by simp only[iU,hZ];first |omega |assumption))
    refine za (za (nl (sq (rg (zm ?_)))))
    refine z ?_ (h:=fun Z=>aa (xs:=[(.sl 800 0 l.length:A)]) Z fN rfl (by decide) rfl)
    refine zm ?_
    refine z ?_ (h:=fun Z=>ah Z (fa l (gLd (ltR l) k) (by omega) (by omega) (by omega)) (ac (ArgV.reg _ _ _ (s:=1) (by simp [isl]) (by exact List.take_of_length_le (by simp [isl]))) (ac (bR (by exact bQ _)) an)) (ResV.row _ _ _ _ 32))
    refine z ?_ (h:=fun Z=>ah Z (lw (cj l (gLd (ltR l) k)) (by omega)) (ac (bR (by exact fi _)) an) rv)
    refine z ?_ (h:=fun Z=>ab Z vt vt (rM (by omega) (by omega)))
    refine za (nl ?_)
    refine dE (qk1D (h:=13) (T:=54) (T0:=27) (s0:=1) (ex0:=true) (h1:=15) (n:=((gLd (ltR l) k).length)) (L:=(ltR l)) (L2:=(ltR l)) (r:=(gLd (ltR l) k)) k (by(first |omega |assumption)) (by rfl) (DP (by omega))) ?_
    refine sq ?_
    rcases Bool.eq_false_or_eq_true (decide (((k:Nat):Int)=0))with c5 |c5
    ·skip
     have c5P:=of_decide_eq_true c5
     have hk0:k=0:=by omega
     have hbs:=rK (l:=l) (hi:=false) (k:=k) (.inl hk0)
     refine rg (zm ?_)
     refine z ?_ (h:=fun Z=>ab Z vt vc (cW (c:=true) c5))
     refine zm (zo (zo (zo ?_)))
     refine z ?_ (h:=fun Z=>al Z vt xc)
     refine nl (wt (rg (zm (zm (za (za (nl (rg ?_))))))))
     refine z ?_ (h:=fun Z=>ab Z vt vc (rA (by omega) (by omega)))
     refine zm (nl ?_)
     exact ar ((k+1)) (by show _≤_;omega) (by show(ltR l).length-(k+1)<(ltR l).length-k;omega) (wkf id (wS<|wS<|wS<|wE (e:=(aO (by(rw[hbs];first |done |rfl |omega |(rw[hse];omega)))))<|wE (e:=(aO (by(rw[hbs];first |done |rfl |omega |(rw[hse];omega)))))<|wS<|wS<|wE (e:=(aO (by rfl)))<|wX<|wQD<|wP<|by(iterate 9 refine wF ?_);exact wN))
    ·skip
     have c5P:=of_decide_eq_false c5
     have hkn:k≠0:=by omega
     refine rg (zm ?_)
     refine z ?_ (h:=fun Z=>ab Z vt vc (cW (c:=false) c5))
     refine zm ?_
     refine zg ?_ (h:=fun Z=>ae rfl rfl (mt Z))
     refine zg ?_ (h:=fun Z=>ae rfl rfl (mt Z))
     refine zg ?_ (h:=fun Z=>ae rfl rfl (ab Z vt vt (oi rfl)))
     refine z ?_ (h:=fun Z=>ao Z vt xt)
     refine nl ?_
     refine wi (fun c6=> ?_) (fun c6=> ?_)
     ·skip
      have c6P:=of_decide_eq_true c6
      have hbs:=rK (l:=l) (hi:=false) (k:=k) (.inr (.inr ⟨rfl,by rw[hse]at*;omega⟩))
      refine rg (zm (zm (za (za (nl (rg ?_))))))
      refine z ?_ (h:=fun Z=>ab Z vt vc (rA (by omega) (by omega)))
      refine zm (nl ?_)
      exact ar ((k+1)) (by show _≤_;omega) (by show(ltR l).length-(k+1)<(ltR l).length-k;omega) (wkf id (wS<|wS<|wS<|wE (e:=(aO (by(rw[hbs];first |done |rfl |omega |(rw[hse];omega)))))<|wE (e:=(aO (by(rw[hbs];first |done |rfl |omega |(rw[hse];omega)))))<|wS<|wS<|wE (e:=(aO (by rfl)))<|wX<|wQD<|wP<|by(iterate 9 refine wF ?_);exact wN))
     ·skip
      have c6P:=of_decide_eq_false c6
      have hbs:=yi (l:=l) (hi:=false) (k:=k) (by rw[hse]at*;simp;omega)
      refine sk (rg ?_)
      refine z ?_ (h:=fun Z=>ab Z vt vc (rA (by omega) (by omega)))
      refine zm (nl ?_)
      exact ar ((k+1)) (by show _≤_;omega) (by show(ltR l).length-(k+1)<(ltR l).length-k;omega) (wkf id (wS<|wS<|wS<|wE (e:=(aO (by(rw[hbs];first |done |rfl |omega |(rw[hse];omega)))))<|wE (e:=(aO (by(rw[hbs];first |done |rfl |omega |(rw[hse];omega)))))<|wS<|wS<|wE (e:=(aO (by rfl)))<|wX<|wQD<|wP<|by(iterate 9 refine wF ?_);exact wN))
   ·skip
    have c4P:=of_decide_eq_false c4
    have hke:k=(ltR l).length:=by omega
    have hbl:(bst l false k).1<(ltR l).length:=by have:=hbb.1 (by omega);omega
    have hfi:gLd (ltR l) (bst l false k).1=dc l false:=by rw[nO hen,←hke];unfold AB;rw[if_neg (by omega)]
    have hfo:AB l false k=dc l false:=by rw[nO hen,←hke]
    refine aJ (sq ?_)
    refine dE (up1D (h:=13) (h1:=15) (T:=54) (T0:=27) (s0:=1) (ex0:=true) (L:=(ltR l)) ((bst l false k).1) (by omega)) ?_
    refine rg (zm (zm ?_))
    refine z ?_ (h:=fun Z=>ix0 Z iJ pj vt (hlt:=(by omega)))
    refine z ?_ (h:=fun Z=>lu1 (i:=((bst l false k).1)) Z pk (by simp only[iU,hZ];first |omega |assumption))
    refine za (zk (nl (aq ?_)))
    exact⟨[kS 4 900 0 ((gLd (ltR l) ((bst l false k).1)).length),kB 5 true,kO 800 3 1 true (pl (isl l)),kO 900 54 3 true (pl (dsl (gLd (ltR l) ((bst l false k).1)))),kF 2,kF 13,kF 15,kF 19,kF 23,kF 32,kF 33,kF 49,kF 50,kF 51,kF 52],wkf (bn [(900,15)]) (wS<|wS<|wP<|wP<|by(iterate 11 refine wF ?_);exact wN),⟨by kernel_rfl,cw (c:=pl (dsl (gLd (ltR l) ((bst l false k).1)))) (by kernel_rfl) (congrArg (fun z=>pl (dsl z)) (by exact hfi)),trivial⟩,⟨da 4 (.a (.sl 900 0 ((gLd (ltR l) ((bst l false k).1)).length))) (.a (.sl 900 0 ((dc l false).length))) (by kernel_rfl) (congrArg (fun z:Nat=>B.a (.sl 900 0 z)) (by exact congrArg List.length hfi)),da 5 (.a (.val (.bool true))) (.a (.val (.bool (fz l)))) (by kernel_rfl) (congrArg (fun z:Bool=>B.a (.val (.bool z))) (by exact hen.symm))⟩⟩
 ·skip
  have hen:fz l=false:=by unfold fz;rw[c1];rfl
  refine rg ?_
  refine z ?_ (h:=fun Z=>aa (xs:=[(.sl 800 0 l.length:A)]) Z fN rfl (by decide) rfl)
  refine z ?_ (h:=fun Z=>ah Z (dV l (by omega)) (ac (ArgV.reg _ _ _ (s:=1) (by simp [isl]) (by exact List.take_of_length_le (by simp [isl]))) an) (aH (congrArg Value.bool c1)))
  refine z ?_ (h:=fun Z=>aK Z vt (bE (c:=true) rfl))
  refine zm (zo (zo (zo ?_)))
  refine z ?_ (h:=fun Z=>al Z vt xc)
  refine nl (wt (sq (rg (zk (zk (nl ?_))))))
  refine dE (wnD (k:=4) (h:=15) (T:=54) (by kernel_rfl) (by kernel_rfl)) ?_
  refine aq ?_
  exact⟨[kS 4 900 0 0,kB 5 false,kO 800 3 1 true (pl (isl l)),kO 900 54 3 true (pl (dsl [])),kF 2,kF 13,kF 15,kF 19,kF 23,kF 32,kF 33,kF 49,kF 50,kF 51,kF 52],wkf (bn [(900,15)]) (wS<|wS<|wP<|wP<|by(iterate 11 refine wF ?_);exact wN),⟨by kernel_rfl,cw (c:=pl (dsl [])) (by kernel_rfl) (congrArg (fun z=>pl (dsl z)) (by exact(ls hen).symm)),trivial⟩,⟨da 4 (.a (.sl 900 0 0)) (.a (.sl 900 0 ((dc l false).length))) (by kernel_rfl) (congrArg (fun z:Nat=>B.a (.sl 900 0 z)) (by(rw[ls hen];rfl))),da 5 (.a (.val (.bool false))) (.a (.val (.bool (fz l)))) (by kernel_rfl) (congrArg (fun z:Bool=>B.a (.val (.bool z))) (by exact hen.symm))⟩⟩
theorem tk (l:List Int) (hi:Bool) (sg:Int) (hl:l.length≤4194304) (hsg:sg=if hi=true then 1 else -1):FnO Tryz.prog 20 [.agg [(.sl 800 0 l.length:A)],.a (.val (.int .i64 sg))] [(.o 800,some (.o ⟨3,1,true,pl (isl l)⟩))] (V.tup [.a (.sl 900 0 ((dc l hi).length)),.a (.val (.bool (fz l)))]) [(.o 800,some (.o ⟨3,1,true,pl (isl l)⟩)),(.o 900,some (.o ⟨54,3,true,pl (dsl (dc l hi))⟩))] [800]:=by
 subst hsg
 cases hi
 · exact yV l hl
 · exact yU l hl
theorem nz (l:List Int) (hl:l.length≤4194304):FnO Tryz.prog 9 [.agg [(.sl 800 0 l.length:A)]] [(.o 800,some (.o ⟨3,1,true,pl (isl l)⟩))] (V.tup [.a (.sl 900 0 ((dc l true).length)),.a (.val (.bool (fz l)))]) [(.o 800,some (.o ⟨3,1,true,pl (isl l)⟩)),(.o 900,some (.o ⟨54,3,true,pl (dsl (dc l true))⟩))] [800]:=by
 refine co (N:=8) Tryz.func9 rfl (by kernel_rfl) rfl (Nat.le_of_ble_eq_true rfl) rfl rfl (by kernel_rfl) (by kernel_rfl) ⟨bB (fun _=>rfl),trivial⟩ [1,5,8,9,10,11] (DM rfl) (fun W own kp im0=> ?_)
 show Wp _ _ _ [kV 0 (V.b (.agg [(.sl 800 0 l.length:A)])),kO 800 3 1 true (pl (isl l)),kF 1,kF 5,kF 8,kF 9,kF 10,kF 11]
 refine sq (rg ?_)
 refine z ?_ (h:=fun Z=>aM (h:=1) Z xt (by exact ob1 rfl))
 refine zk (zk (nl (sq (rg ?_))))
 refine z ?_ (h:=fun Z=>aa (xs:=[(.sl 800 0 l.length:A)]) Z fN rfl (by decide) rfl)
 refine z ?_ (h:=fun Z=>bo (d:=5) (f:=20) (os:=[(.o 800,some (.o ⟨3,1,true,pl (isl l)⟩))]) (os':=[(.o 800,some (.o ⟨3,1,true,pl (isl l)⟩)),(.o 5,some (.o ⟨54,3,true,pl (dsl (dc l true))⟩))]) (r:=V.tup [.a (.sl 5 0 ((dc l true).length)),.a (.val (.bool (fz l)))]) (bs:=[.agg [(.sl 800 0 l.length:A)],.a (.val (.int .i64 1))]) (keep:=[800]) (new:=[5]) (dead:=[]) Z (FnO.ren' (tk l true 1 (by omega) (by rfl)) (bn [(900,5)]) rfl rfl (by kernel_rfl) (by kernel_rfl) ⟨bB (fun _=>rfl),bB (fun _=>rfl),trivial⟩ (by kernel_rfl) rfl (by simp only[cH,Ob.ren,bM,aC,aD,aA,bt,bq];first |done |rfl) (by simp only[cH,Ob.ren,bM,aC,aD,aA,bt,bq];first |done |rfl) rfl rfl) (by kernel_rfl) ⟨bB (fun _=>rfl),bB (fun _=>rfl),trivial⟩ (by kernel_rfl) (ArgOs.cons (ArgO.slot 4 (.agg [(.sl 800 0 l.length:A)])) (ArgOs.cons ((ArgO.v vc)) (ArgOs.nil))))
 refine z ?_ (h:=fun Z=>az Z (by exact rfl))
 refine z ?_ (h:=fun Z=>az Z (by exact rfl))
 refine za (za (nl (aq ?_)))
 exact⟨[kS 2 900 0 ((dc l true).length),kB 3 (fz l),kO 800 3 1 true (pl (isl l)),kO 900 54 3 true (pl (dsl (dc l true))),kF 1,kF 5,kF 8,kF 9,kF 10,kF 11],wkf (bn [(900,5)]) (wS<|wS<|wP<|wP<|wF<|wF<|wF<|wF<|wF<|wF<|wN),⟨by kernel_rfl,by kernel_rfl,trivial⟩,⟨VO.tmp 2 (.a (.sl 900 0 ((dc l true).length))) (by kernel_rfl),VO.tmp 3 (.a (.val (.bool (fz l)))) (by kernel_rfl)⟩⟩
theorem nW (l:List Int) (hl:l.length≤4194304):FnO Tryz.prog 8 [.agg [(.sl 800 0 l.length:A)]] [(.o 800,some (.o ⟨3,1,true,pl (isl l)⟩))] (V.tup [.a (.sl 900 0 ((dc l false).length)),.a (.val (.bool (fz l)))]) [(.o 800,some (.o ⟨3,1,true,pl (isl l)⟩)),(.o 900,some (.o ⟨54,3,true,pl (dsl (dc l false))⟩))] [800]:=by
 refine co (N:=8) Tryz.func8 rfl (by kernel_rfl) rfl (Nat.le_of_ble_eq_true rfl) rfl rfl (by kernel_rfl) (by kernel_rfl) ⟨bB (fun _=>rfl),trivial⟩ [1,5,8,9,10,11] (DM rfl) (fun W own kp im0=> ?_)
 show Wp _ _ _ [kV 0 (V.b (.agg [(.sl 800 0 l.length:A)])),kO 800 3 1 true (pl (isl l)),kF 1,kF 5,kF 8,kF 9,kF 10,kF 11]
 refine sq (rg ?_)
 refine z ?_ (h:=fun Z=>aM (h:=1) Z xt (by exact ob1 rfl))
 refine zk (zk (nl (sq (rg ?_))))
 refine z ?_ (h:=fun Z=>aa (xs:=[(.sl 800 0 l.length:A)]) Z fN rfl (by decide) rfl)
 refine z ?_ (h:=fun Z=>bo (d:=5) (f:=20) (os:=[(.o 800,some (.o ⟨3,1,true,pl (isl l)⟩))]) (os':=[(.o 800,some (.o ⟨3,1,true,pl (isl l)⟩)),(.o 5,some (.o ⟨54,3,true,pl (dsl (dc l false))⟩))]) (r:=V.tup [.a (.sl 5 0 ((dc l false).length)),.a (.val (.bool (fz l)))]) (bs:=[.agg [(.sl 800 0 l.length:A)],.a (.val (.int .i64 (-1)))]) (keep:=[800]) (new:=[5]) (dead:=[]) Z (FnO.ren' (tk l false (-1) (by omega) (by rfl)) (bn [(900,5)]) rfl rfl (by kernel_rfl) (by kernel_rfl) ⟨bB (fun _=>rfl),bB (fun _=>rfl),trivial⟩ (by kernel_rfl) rfl (by simp only[cH,Ob.ren,bM,aC,aD,aA,bt,bq];first |done |rfl) (by simp only[cH,Ob.ren,bM,aC,aD,aA,bt,bq];first |done |rfl) rfl rfl) (by kernel_rfl) ⟨bB (fun _=>rfl),bB (fun _=>rfl),trivial⟩ (by kernel_rfl) (ArgOs.cons (ArgO.slot 4 (.agg [(.sl 800 0 l.length:A)])) (ArgOs.cons ((ArgO.v vc)) (ArgOs.nil))))
 refine z ?_ (h:=fun Z=>az Z (by exact rfl))
 refine z ?_ (h:=fun Z=>az Z (by exact rfl))
 refine za (za (nl (aq ?_)))
 exact⟨[kS 2 900 0 ((dc l false).length),kB 3 (fz l),kO 800 3 1 true (pl (isl l)),kO 900 54 3 true (pl (dsl (dc l false))),kF 1,kF 5,kF 8,kF 9,kF 10,kF 11],wkf (bn [(900,5)]) (wS<|wS<|wP<|wP<|wF<|wF<|wF<|wF<|wF<|wF<|wN),⟨by kernel_rfl,by kernel_rfl,trivial⟩,⟨VO.tmp 2 (.a (.sl 900 0 ((dc l false).length))) (by kernel_rfl),VO.tmp 3 (.a (.val (.bool (fz l)))) (by kernel_rfl)⟩⟩
end Cl
end Go.Proofs.YtonlghbbdcddoaaGreat
