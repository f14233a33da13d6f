/- Walks. -/
import Derived.Test.YtgmkkfdnmdohlaaGreatDoorFA
import Derived.Test.YtgmkkfdnmdohlaaGreatDoorClB
set_option linter.unusedSimpArgs false
set_option linter.unusedVariables false
set_option maxHeartbeats 4000000
set_option maxRecDepth 100000
namespace Go.Proofs.YtgmkkfdnmdohlaaGreatDoor
namespace Cl
open Go.ChangeShapes Go.WideShapes Go.ChangeAt Go.RowKit
noncomputable def wyS (a:List (List Dom)) (t:Int) (P:List Dom):Cel:=((aM P).find? fun c=>decide (dsD (lkM a) t (ixT a (aR P c))=dsD (lkM a) t (ixT a P)-1)).getD ⟨0,0⟩
noncomputable def wyP (a:List (List Dom)) (t:Int) (P:List Dom):Nat→List Dom
 | 0=>P
 | j+1=>aR (wyP a t P j) (wyS a t (wyP a t P j))
noncomputable def wyL (a:List (List Dom)) (t:Int) (P:List Dom):Nat→List Cel
 | 0=>[]
 | j+1=>wyL a t P j++[wyS a t (wyP a t P j)]
theorem nv (a:List (List Dom)) (t:Int) (P:List Dom):∀ j,(wyL a t P j).length=j
 | 0=>rfl
 | j+1=>by rw[wyL,List.length_append,nv a t P j];rfl
theorem AA {s:Nat} {a:List (List Dom)} (hA:FlipA s a) {P T:List Dom} (hP:P∈a) (hT:T∈a) (h:0<dsD (lkM a) (ixT a T) (ixT a P)):
    ∃ c∈aM P,dsD (lkM a) (ixT a T) (ixT a (aR P c))=dsD (lkM a) (ixT a T) (ixT a P)-1:=by
  have hp:=kf (Int.le_of_lt h)
  obtain⟨n,hn⟩:∃ n,(dsD (lkM a) (ixT a T) (ixT a P)).toNat=n+1:=⟨(dsD (lkM a) (ixT a T) (ixT a P)).toNat-1,by omega⟩
  rw[hn]at hp
  have hb:=((it hA hT hP).1 hp).back (hA.ti T hT)
  cases hb with
  | step _ _ _ c hc hr=>
    have hcf:=oL hc
    have hQ:=hA.flip hP hcf
    refine⟨c,hcf,?_⟩
    have h1:=st ((it hA hT hQ).2 (hr.back (hA.ti _ hQ)))
    have h2:=su (M:=lkM a) (t:=ixT a T) (u:=ixT a (aR P c)) (w:=ixT a P) h1.1 (by
      rw[tB hA hQ]
      refine List.mem_map.2 ⟨c,?_,by rw[(mI (hA.ti P hP) hc).2]⟩
      exact oL (mI (hA.ti P hP) hc).1)
    omega
theorem Gj {s:Nat} {a:List (List Dom)} (hA:FlipA s a) {P T:List Dom} (hP:P∈a) (hT:T∈a) (h:0<dsD (lkM a) (ixT a T) (ixT a P)):
  wyS a (ixT a T) P∈aM P∧dsD (lkM a) (ixT a T) (ixT a (aR P (wyS a (ixT a T) P)))=dsD (lkM a) (ixT a T) (ixT a P)-1:=by
 obtain⟨c,hc,hd⟩:=AA hA hP hT h
 unfold wyS
 cases hf:(aM P).find? (fun c=>decide (dsD (lkM a) (ixT a T) (ixT a (aR P c))=dsD (lkM a) (ixT a T) (ixT a P)-1))with
 | none=>exact absurd (List.find?_eq_none.1 hf c hc) (by simp [hd])
 | some d=>exact⟨List.mem_of_find?_eq_some hf,by simpa using List.find?_some hf⟩
theorem wT {s:Nat} {a:List (List Dom)} (hA:FlipA s a) {P T:List Dom} (hP:P∈a) (hT:T∈a):∀ j:Nat,(j:Int)≤dsD (lkM a) (ixT a T) (ixT a P)→wyP a (ixT a T) P j∈a∧dsD (lkM a) (ixT a T) (ixT a (wyP a (ixT a T) P j))=dsD (lkM a) (ixT a T) (ixT a P)-j
  | 0,_=>⟨hP,by simp [wyP]⟩
  | j+1,h=>by
    obtain⟨h1,h2⟩:=wT hA hP hT j (by omega)
    obtain⟨h3,h4⟩:=Gj hA h1 hT (by omega)
    exact⟨hA.flip h1 h3,by rw[wyP,h4,h2];omega⟩
theorem oI {s:Nat} {a:List (List Dom)} (hA:FlipA s a) {P T:List Dom} (hP:P∈a) (hT:T∈a):dsD (lkM a) (ixT a T) (ixT a P)=0↔ixT a P=ixT a T:=by
 constructor
 ·intro h
  have:=kf (M:=lkM a) (t:=ixT a T) (v:=ixT a P) (by omega)
  rw[h]at this
  cases (it hA hT hP).1 this
  rfl
 ·intro h;rw[h];exact jk _ _
theorem IQ {a:List (List Dom)} {t:Int} {P:List Dom} {k:Nat} (hk:k<(aM P).length) (h:dsD (lkM a) t (ixT a (aR P (gC (aM P) k)))=dsD (lkM a) t (ixT a P)-1)
  (hn:∀ i,i<k→dsD (lkM a) t (ixT a (aR P (gC (aM P) i)))≠dsD (lkM a) t (ixT a P)-1):wyS a t P=gC (aM P) k:=by
 unfold wyS
 have:(aM P).find? (fun c=>decide (dsD (lkM a) t (ixT a (aR P c))=dsD (lkM a) t (ixT a P)-1))=some (gC (aM P) k):=by
  rw[List.find?_eq_some_iff_getElem]
  refine⟨decide_eq_true h,k,hk,(gk hk).symm,fun j hj=> ?_⟩
  have:=hn j hj
  rw[gk (by omega)]at this
  simpa using this
 rw[this];rfl
noncomputable def fwR (l:List Int) (p q:List Dom):List Cel:=if fdR l p q<0 then []else wyL (ltR l) (ixT (ltR l) q) p (fdR l p q).toNat
def fwB (n:Int):Bool:=decide (0≤n)
theorem qh {l:List Int} {p q:List Dom} (h:fdR l p q<0):fwR l p q=[]:=by unfold fwR;rw[if_pos h]
theorem wb {l:List Int} {p q:List Dom} {j:Nat} (h:¬fdR l p q<0) (hj:j=(fdR l p q).toNat):wyL (ltR l) (ixT (ltR l) q) p j=fwR l p q:=by unfold fwR;rw[if_neg h,hj]
theorem yZ {n:Int} (h:n<0):fwB n=false:=by unfold fwB;rw[decide_eq_false];omega
theorem GU {n:Int} (h:¬n<0):fwB n=true:=by unfold fwB;rw[decide_eq_true];omega
theorem qg {l:List Int} {p q:List Dom} (h:ixT (ltR l) p<0∨ixT (ltR l) q<0):fdR l p q<0:=by rw[nN h];decide
theorem KL {a:List (List Dom)} {t v:Int} {P:List Dom} {i:Nat} (hx:∃ c∈aM P,dsD (lkM a) t (ixT a (aR P c))=v) (hi:¬i<(aM P).length) (hn:∀ k,k<i→dsD (lkM a) t (ixT a (aR P (gC (aM P) k)))≠v):False:=by
 obtain⟨c,hc,hd⟩:=hx
 obtain⟨k,hk,e⟩:=List.getElem_of_mem hc
 refine hn k (by omega) ?_
 rw[gk hk,e];exact hd
theorem IR {a:List (List Dom)} {t v:Int} {P:List Dom} {i:Nat} (hn:∀ k,k<i→dsD (lkM a) t (ixT a (aR P (gC (aM P) k)))≠v) (h:dsD (lkM a) t (ixT a (aR P (gC (aM P) i)))≠v):∀ k,k<i+1→dsD (lkM a) t (ixT a (aR P (gC (aM P) k)))≠v:=by
 intro k hk
 rcases Nat.lt_or_ge k i with h1 |h1
 ·exact hn k h1
 ·have:k=i:=by omega
  subst this;exact h
theorem tk:(Tryz.prog.info? 3).map (·.size)=some 1:=by kernel_rfl
theorem Cp:(Tryz.prog.info? 70).map (·.size)=some 2:=by kernel_rfl
theorem Cq:TI Tryz.prog 29 true 1:=⟨⟨_,Tryz.underlying29,rfl⟩,by kernel_rfl⟩
theorem tl:TI Tryz.prog 3 false 1:=⟨⟨_,Tryz.underlying3,rfl⟩,by kernel_rfl⟩
theorem na:TI Tryz.prog 70 true 2:=⟨⟨_,Tryz.underlying70,rfl⟩,by kernel_rfl⟩
theorem qu:Tryz.prog.underlying 22=some (.slice 3):=Tryz.underlying22
theorem kx:Tryz.prog.underlying 36=some (.slice 70):=Tryz.underlying36
theorem nc:ZI Tryz.prog 70 (.agg #[.int .i64 0,.int .i64 0]) 2 16:=by unfold ZI;kernel_rfl
theorem oP (l:List Int) (p q:List Dom) (hl:l.length≤4194304) (hp:p.length≤4194304) (hq:q.length≤4194304):FnO Tryz.prog 15 [.agg [(.sl 800 0 l.length:A)],.a (.slv p.length 3 (dsl p)),.a (.slv q.length 3 (dsl q))] [(.o 800,some (.o ⟨3,1,true,pl (isl l)⟩))] (V.tup [.a (.sl 900 0 ((fwR l p q).length)),.a (.val (.bool (fwB (fdR l p q))))]) [(.o 800,some (.o ⟨3,1,true,pl (isl l)⟩)),(.o 900,some (.o ⟨70,2,true,pl (csl (fwR l p q))⟩))] [800]:=by
 have hll:=ld l
 have hlr:∀ k,k<(ltR l).length→(gLd (ltR l) k).length≤64:=fun k hk=>Nat.le_trans (lf hk) (by decide)
 have hA:=FlipA.of l
 have hml:=oV (ltR l)
 have hnl:=iH (ltR l)
 have hi1:=gp (ltR l) p
 have hi2:=gp (ltR l) q
 have hRI:ge (lkM (ltR l)) (lkM (ltR l)).length:=by rw[hml];exact ls hA
 have hNI:ge (nrM (ltR l)) (nrM (ltR l)).length:=EF hA
 have hdl:=kT (lkM (ltR l)) (ixT (ltR l) q) (lkM (ltR l)).length
 have hdn:=kT (nrM (ltR l)) (ixT (ltR l) p) (nrM (ltR l)).length
 refine bW (N:=82) Tryz.func15 rfl (by kernel_rfl) rfl (Nat.le_of_ble_eq_true rfl) rfl rfl (by kernel_rfl) (by kernel_rfl) ⟨bh (fun _=>rfl),trivial⟩ [3,15,20,23,26,34,36,42,44,49,50,58,63,76,77,82,83,84,85] (retO2 rfl) (fun W own kp im0=> ?_)
 show Wp _ _ _ [kV 0 (V.b (.agg [(.sl 800 0 l.length:A)])),kV 1 (V.b (.a (.slv p.length 3 (dsl p)))),kV 2 (V.b (.a (.slv q.length 3 (dsl q)))),kO 800 3 1 true (pl (isl l)),kF 3,kF 15,kF 20,kF 23,kF 26,kF 34,kF 36,kF 42,kF 44,kF 49,kF 50,kF 58,kF 63,kF 76,kF 77,kF 82,kF 83,kF 84,kF 85]
 refine sq (rg ?_)
 refine z ?_ (h:=fun Z=>bo (h:=3) Z xt (by exact ob1 rfl))
 refine zk (zk (nl (sq (rg ?_))))
 refine z ?_ (h:=fun Z=>ab (xs:=[(.sl 800 0 l.length:A)]) Z Cq rfl (by decide) rfl)
 refine z ?_ (h:=fun Z=>aK (d:=20) (f:=37) (os:=[(.o 800,some (.o ⟨3,1,true,pl (isl l)⟩))]) (os':=[(.o 800,some (.o ⟨3,1,true,pl (isl l)⟩)),(.o 15,some (.o ⟨31,1,true,rwD 62 (ltR l)⟩))]) (r:=V.b (.a (.sl 15 0 ((ltR l).length)))) (bs:=[.agg [(.sl 800 0 l.length:A)]]) (keep:=[800]) (new:=[15]) (dead:=[]) Z (FnO.ren' (eb l (by omega)) (aX [(900,15)]) rfl rfl (by kernel_rfl) (by kernel_rfl) ⟨bh (fun _=>rfl),en,trivial⟩ (by kernel_rfl) rfl (by simp only[bv,Ob.ren,aY,ak,am,aj,aO,aN];first |done |rfl) (by simp only[bv,Ob.ren,aY,ak,am,aj,aO,aN];first |done |rfl) rfl rfl) (by kernel_rfl) ⟨bh (fun _=>rfl),en,trivial⟩ (by kernel_rfl) (ArgOs.cons (ArgO.slot 19 (.agg [(.sl 800 0 l.length:A)])) (ArgOs.nil)))
 refine za (nl (sq (rg (zm (zm ?_)))))
 refine z ?_ (h:=fun Z=>ag Z (dw (ltR l) p (by omega) (by(intro k hk;exact Nat.le_trans (hlr k hk) (by decide))) (by omega)) (ac (dvD (L:=(ltR l))) (ac (ArgV.slv _ _ _ _) an)) rv)
 refine zm (zm ?_)
 refine z ?_ (h:=fun Z=>ag Z (dw (ltR l) q (by omega) (by(intro k hk;exact Nat.le_trans (hlr k hk) (by decide))) (by omega)) (ac (dvD (L:=(ltR l))) (ac (ArgV.slv _ _ _ _) an)) rv)
 refine za (za (nl (sq (sq ?_))))
 rcases Bool.eq_false_or_eq_true (decide ((ixT (ltR l) p)<0))with c1 |c1
 ·skip
  have c1P:=of_decide_eq_true c1
  refine rg (zm ?_)
  refine z ?_ (h:=fun Z=>aa Z vt vc (bA (c:=true) c1))
  refine zm (zo (zo ?_))
  refine z ?_ (h:=fun Z=>au Z vt xc)
  refine nl (wt (sq (rg (zk (zk (nl ?_))))))
  refine dW (wnC (k:=6) (h:=20) (T:=70) (by kernel_rfl) (by kernel_rfl)) ?_
  refine aC ?_
  exact⟨[kS 6 900 0 0,kB 7 false,kO 800 3 1 true (pl (isl l)),kO 900 70 2 true (pl (csl [])),kF 3,kF 15,kF 20,kF 23,kF 26,kF 34,kF 36,kF 42,kF 44,kF 49,kF 50,kF 58,kF 63,kF 76,kF 77,kF 82,kF 83,kF 84,kF 85],wkf (aX [(900,20)]) (wS<|wS<|wP<|wP<|by(iterate 19 refine wF ?_);exact wN),⟨by kernel_rfl,bT (c:=pl (csl [])) (by kernel_rfl) (congrArg (fun z=>pl (csl z)) (by(rw[qh (qg (by omega))];done))),trivial⟩,⟨dC 6 (.a (.sl 900 0 0)) (.a (.sl 900 0 ((fwR l p q).length))) (by kernel_rfl) (congrArg (fun z:Nat=>B.a (.sl 900 0 z)) (by(rw[qh (qg (by omega))];rfl))),dC 7 (.a (.val (.bool false))) (.a (.val (.bool (fwB (fdR l p q))))) (by kernel_rfl) (congrArg (fun z:Bool=>B.a (.val (.bool z))) (by exact(yZ (qg (by omega))).symm))⟩⟩
 ·skip
  have c1P:=of_decide_eq_false c1
  refine rg (zm ?_)
  refine z ?_ (h:=fun Z=>aa Z vt vc (bA (c:=false) c1))
  refine zm ?_
  refine zg ?_ (h:=fun Z=>ae rfl rfl (mt Z))
  refine zg ?_ (h:=fun Z=>ae rfl rfl (aa Z vt vc (bA rfl)))
  refine z ?_ (h:=fun Z=>ar Z vt xt)
  refine nl ?_
  refine wi (fun c2=> ?_) (fun c2=> ?_)
  ·skip
   have c2P:=of_decide_eq_true c2
   refine sq (rg (zk (zk (nl ?_))))
   refine dW (wnC (k:=6) (h:=20) (T:=70) (by kernel_rfl) (by kernel_rfl)) ?_
   refine aC ?_
   exact⟨[kS 6 900 0 0,kB 7 false,kO 800 3 1 true (pl (isl l)),kO 900 70 2 true (pl (csl [])),kF 3,kF 15,kF 20,kF 23,kF 26,kF 34,kF 36,kF 42,kF 44,kF 49,kF 50,kF 58,kF 63,kF 76,kF 77,kF 82,kF 83,kF 84,kF 85],wkf (aX [(900,20)]) (wS<|wS<|wP<|wP<|by(iterate 19 refine wF ?_);exact wN),⟨by kernel_rfl,bT (c:=pl (csl [])) (by kernel_rfl) (congrArg (fun z=>pl (csl z)) (by(rw[qh (qg (by omega))];done))),trivial⟩,⟨dC 6 (.a (.sl 900 0 0)) (.a (.sl 900 0 ((fwR l p q).length))) (by kernel_rfl) (congrArg (fun z:Nat=>B.a (.sl 900 0 z)) (by(rw[qh (qg (by omega))];rfl))),dC 7 (.a (.val (.bool false))) (.a (.val (.bool (fwB (fdR l p q))))) (by kernel_rfl) (congrArg (fun z:Bool=>B.a (.val (.bool z))) (by exact(yZ (qg (by omega))).symm))⟩⟩
  ·skip
   have c2P:=of_decide_eq_false c2
   refine sk (sq ?_)
   obtain⟨hpm,hpa,hpl⟩:=uK (l:=l) (q:=p) (by omega)
   obtain⟨hqm,hqa,hql⟩:=uK (l:=l) (q:=q) (by omega)
   have hDe:=fI (l:=l) (p:=p) (q:=q) (by omega) (by omega)
   have hp64:=rN hlr hpm
   have hD300:=vV (M:=lkM (ltR l)) (t:=ixT (ltR l) q) hRI ⟨by omega,by omega⟩ (ixT (ltR l) p)
   refine dW (fzD (k:=8) (h:=15) (T0:=31) (T:=62) (ex0:=true) (n:=((ltR l).length)) (L:=(ltR l)) (hn:=by rfl)) ?_
   refine rg (zm ?_)
   refine z ?_ (h:=fun Z=>aK (d:=34) (f:=40) (os:=[]) (os':=[]) (r:=V.b (.a (.slvv 1 (vwI (nrM (ltR l)))))) (bs:=[.a (.slvv 3 (vwD (ltR l)))]) (keep:=[]) (new:=[]) (dead:=[]) Z ((eL (ltR l) (ao l) (by omega) (by omega) (by omega))) (by kernel_rfl) trivial (by kernel_rfl) (ArgOs.cons (ArgO.slot 33 (.a (.slvv 3 (vwD (ltR l))))) (ArgOs.nil)))
   refine zm ?_
   refine z ?_ (h:=fun Z=>ag Z (eK (nrM (ltR l)) (ixT (ltR l) q) (by omega) (by omega) (by(intro k hk;exact sU hk)) (by omega)) (ac (ArgV.slvv _ _ _) (ac (ArgV.v vt) an)) (ResV.row _ _ _ _ 36))
   refine za (nl (sq (sq ?_)))
   have hD0:=wa (q:=q) hpm
   have hdn2:=kT (nrM (ltR l)) (ixT (ltR l) q) (nrM (ltR l)).length
   refine rg (zm (zm ?_))
   refine z ?_ (h:=fun Z=>ix0 (k:=(ixT (ltR l) p).toNat) Z qu tk vt (Int.toNat_of_nonneg (by omega)).symm (by omega))
   refine z ?_ (h:=fun Z=>lI Z tl (by omega))
   refine z ?_ (h:=fun Z=>aa Z vt vc (bA rfl))
   refine nl ?_
   refine wi (fun c3=> ?_) (fun c3=> ?_)
   ·skip
    have c3P:=of_decide_eq_true c3
    have hng:fdR l p q<0:=by omega
    refine sq (rg (zk (zk (nl ?_))))
    refine dW (wnC (k:=6) (h:=20) (T:=70) (by kernel_rfl) (by kernel_rfl)) ?_
    refine aC ?_
    exact⟨[kS 6 900 0 0,kB 7 false,kO 800 3 1 true (pl (isl l)),kO 900 70 2 true (pl (csl [])),kF 3,kF 20,kF 23,kF 26,kF 34,kF 36,kF 42,kF 44,kF 49,kF 50,kF 58,kF 63,kF 76,kF 77,kF 82,kF 83,kF 84,kF 85],wkf (aX [(900,20)]) (wS<|wS<|wP<|wP<|by(iterate 18 refine wF ?_);exact wN),⟨by kernel_rfl,bT (c:=pl (csl [])) (by kernel_rfl) (congrArg (fun z=>pl (csl z)) (by(rw[qh (by assumption)];done))),trivial⟩,⟨dC 6 (.a (.sl 900 0 0)) (.a (.sl 900 0 ((fwR l p q).length))) (by kernel_rfl) (congrArg (fun z:Nat=>B.a (.sl 900 0 z)) (by(rw[qh (by assumption)];rfl))),dC 7 (.a (.val (.bool false))) (.a (.val (.bool (fwB (fdR l p q))))) (by kernel_rfl) (congrArg (fun z:Bool=>B.a (.val (.bool z))) (by exact(yZ (by assumption)).symm))⟩⟩
   ·skip
    have c3P:=of_decide_eq_false c3
    have hng:¬fdR l p q<0:=by omega
    refine sk (sq (rg ?_))
    refine z ?_ (h:=fun Z=>b0C (h:=42) Z kx nc)
    refine zm ?_
    refine z ?_ (h:=fun Z=>ag Z (eX p (by omega)) (ac (ArgV.slv _ _ _ _) an) (ResV.row _ _ _ _ 44))
    refine za (za (nl (sq (bkk ?_))))
    refine bg (fun(j:Nat)=>j≤(fdR l p q).toNat) (fun(j:Nat)=>[kV 8 (V.b (.a (.slvv 3 (vwD (ltR l))))),kI 9 (ixT (ltR l) (wyP (ltR l) (ixT (ltR l) q) p j)),kI 10 (ixT (ltR l) q),kS 11 36 0 ((dsM (nrM (ltR l)) (ixT (ltR l) q) (nrM (ltR l)).length).length),kS 12 42 0 ((wyL (ltR l) (ixT (ltR l) q) p j).length),kS 13 44 0 ((wyP (ltR l) (ixT (ltR l) q) p j).length),kO 36 3 1 true (pl (isl (dsM (nrM (ltR l)) (ixT (ltR l) q) (nrM (ltR l)).length))),kO 42 70 2 true (pl (csl (wyL (ltR l) (ixT (ltR l) q) p j))),kO 44 62 3 true (pl (dsl (wyP (ltR l) (ixT (ltR l) q) p j))),kO 800 3 1 true (pl (isl l)),kF 3,kF 20,kF 23,kF 26,kF 34,kF 49,kF 50,kF 58,kF 63,kF 76,kF 77,kF 82,kF 83,kF 84,kF 85]) (fun(j:Nat)=>(fdR l p q).toNat-j) ((0:Nat)) (by exact(Nat.zero_le _:0≤_)) (wkf id (wS<|wE (e:=(be (by rfl)))<|wS<|wS<|wE (e:=(vsl (by rfl) rfl))<|wE (e:=(vsl (by rfl) rfl))<|wP<|wO (e:=aJ (fun h=>h) (congrArg csl (by rfl)))<|wO (e:=aJ (fun h=>h) (congrArg dsl (by rfl)))<|wP<|by(iterate 15 refine wF ?_);exact wN)) ?_
    rintro j inv4
    replace inv4:j≤(fdR l p q).toNat:=inv4
    have invj:=inv4
    obtain⟨hPm,hPd⟩:=wT hA hpm hqm j (by omega)
    have hPi:=cC hPm
    have hPl:=(gp (ltR l) (wyP (ltR l) (ixT (ltR l) q) p j)).1
    have hPu:=(gp (ltR l) (wyP (ltR l) (ixT (ltR l) q) p j)).2
    have hP64:=rN hlr hPm
    have hwl:=nv (ltR l) (ixT (ltR l) q) p j
    refine sq (sq (rg (zm (zm ?_))))
    refine z ?_ (h:=fun Z=>aa Z vt vt (fv rfl))
    refine nl ?_
    refine wi (fun c5=> ?_) (fun c5=> ?_)
    ·skip
     have c5P:=of_decide_eq_true c5
     have hnz:¬dsD (lkM (ltR l)) (ixT (ltR l) q) (ixT (ltR l) (wyP (ltR l) (ixT (ltR l) q) p j))=0:=fun e=>absurd ((oI hA hPm hqm).1 e) (by exact of_decide_eq_true c5)
     have hpos:0<dsD (lkM (ltR l)) (ixT (ltR l) q) (ixT (ltR l) (wyP (ltR l) (ixT (ltR l) q) p j)):=by omega
     have hex:=AA hA hPm hqm hpos
     have hfl:=iT (wyP (ltR l) (ixT (ltR l) q) p j)
     refine sk (bkk (sq (rg (zm ?_))))
     refine z ?_ (h:=fun Z=>ag Z (iu (wyP (ltR l) (ixT (ltR l) q) p j) (by omega)) (ac (ci (by exact cc _)) an) (ResV.row _ _ _ _ 49))
     refine z ?_ (h:=fun Z=>lnS Z kx)
     refine z ?_ (h:=fun Z=>mc Z)
     refine nl (bkk ?_)
     refine bg (fun(i:Nat)=>i≤(aM (wyP (ltR l) (ixT (ltR l) q) p j)).length∧∀ k,k<i→dsD (lkM (ltR l)) (ixT (ltR l) q) (ixT (ltR l) (aR (wyP (ltR l) (ixT (ltR l) q) p j) (gC (aM (wyP (ltR l) (ixT (ltR l) q) p j)) k)))≠dsD (lkM (ltR l)) (ixT (ltR l) q) (ixT (ltR l) (wyP (ltR l) (ixT (ltR l) q) p j))-1) (fun(i:Nat)=>[kV 8 (V.b (.a (.slvv 3 (vwD (ltR l))))),kI 9 (ixT (ltR l) (wyP (ltR l) (ixT (ltR l) q) p j)),kI 10 (ixT (ltR l) q),kS 11 36 0 ((dsM (nrM (ltR l)) (ixT (ltR l) q) (nrM (ltR l)).length).length),kS 12 42 0 ((wyL (ltR l) (ixT (ltR l) q) p j).length),kS 13 44 0 ((wyP (ltR l) (ixT (ltR l) q) p j).length),kS 49 49 0 ((aM (wyP (ltR l) (ixT (ltR l) q) p j)).length),kI 50 (((aM (wyP (ltR l) (ixT (ltR l) q) p j)).length:Nat):Int),kI 51 ((i:Nat):Int),kO 36 3 1 true (pl (isl (dsM (nrM (ltR l)) (ixT (ltR l) q) (nrM (ltR l)).length))),kO 42 70 2 true (pl (csl (wyL (ltR l) (ixT (ltR l) q) p j))),kO 44 62 3 true (pl (dsl (wyP (ltR l) (ixT (ltR l) q) p j))),kO 49 70 2 true (pl (csl (aM (wyP (ltR l) (ixT (ltR l) q) p j)))),kO 800 3 1 true (pl (isl l)),kF 3,kF 20,kF 23,kF 26,kF 34,kF 50,kF 58,kF 63,kF 76,kF 77,kF 82,kF 83,kF 84,kF 85]) (fun(i:Nat)=>(aM (wyP (ltR l) (ixT (ltR l) q) p j)).length-i) ((0:Nat)) (by exact⟨Nat.zero_le _,fun k hk=>absurd hk (Nat.not_lt_zero k)⟩) (wkf id (wS<|wS<|wS<|wS<|wS<|wS<|wS<|wS<|wE (e:=(be (by rfl)))<|wP<|wP<|wP<|wP<|wP<|by(iterate 14 refine wF ?_);exact wN)) ?_
     rintro i inv6
     replace inv6:i≤(aM (wyP (ltR l) (ixT (ltR l) q) p j)).length∧∀ k,k<i→dsD (lkM (ltR l)) (ixT (ltR l) q) (ixT (ltR l) (aR (wyP (ltR l) (ixT (ltR l) q) p j) (gC (aM (wyP (ltR l) (ixT (ltR l) q) p j)) k)))≠dsD (lkM (ltR l)) (ixT (ltR l) q) (ixT (ltR l) (wyP (ltR l) (ixT (ltR l) q) p j))-1:=inv6
     obtain⟨hi,hn⟩:=inv6
     refine sq (rg ?_)
     refine z ?_ (h:=fun Z=>aa Z vt vt (bA rfl))
     refine nl (sq ?_)
     refine wi (fun c7=> ?_) (fun c7=> ?_)
     ·skip
      have c7P:=of_decide_eq_true c7
      have hQm:=hA.flip hPm (c:=(gC (aM (wyP (ltR l) (ixT (ltR l) q) p j)) i)) (qi (by omega))
      have hQi:=cC hQm
      have hQl:=(gp (ltR l) (aR (wyP (ltR l) (ixT (ltR l) q) p j) (gC (aM (wyP (ltR l) (ixT (ltR l) q) p j)) i))).1
      have hQ64:=rN hlr hQm
      have hDP:=wa (q:=q) hPm
      have hDQ:=wa (q:=q) hQm
      have hge:=DL (lkM (ltR l)) (ixT (ltR l) q) (ixT (ltR l) (aR (wyP (ltR l) (ixT (ltR l) q) p j) (gC (aM (wyP (ltR l) (ixT (ltR l) q) p j)) i)))
      refine sk (sq (bkk (sq (rg ?_))))
      refine z ?_ (h:=fun Z=>ix0 Z kx Cp vt (hlt:=(by omega)))
      refine z ?_ (h:=fun Z=>lC Z na (by omega))
      refine z ?_ (h:=fun Z=>aL (h:=3) (cap:=1) (s:=2) (cells:=[aI 0,aI 0]) Z nc rfl rfl (by decide))
      refine z ?_ (h:=fun _=>aE (cells:=[aI ((gC (aM (wyP (ltR l) (ixT (ltR l) q) p j)) i).x),aI ((gC (aM (wyP (ltR l) (ixT (ltR l) q) p j)) i).y)]) na xt (by exact rfl) (by decide) (by exact ob1 rfl) (by exact Nat.le_of_ble_eq_true rfl) (by exact rfl))
      refine nl (sq (rg (zm ?_)))
      refine z ?_ (h:=fun Z=>ab (xs:=[vI ((gC (aM (wyP (ltR l) (ixT (ltR l) q) p j)) i).x),vI ((gC (aM (wyP (ltR l) (ixT (ltR l) q) p j)) i).y)].map A.val) Z na rfl (by decide) rfl)
      refine z ?_ (h:=fun Z=>cH Z (jm (wyP (ltR l) (ixT (ltR l) q) p j) (gC (aM (wyP (ltR l) (ixT (ltR l) q) p j)) i) (by omega)) (ac (ci (by exact cc _)) (ac (ArgV.va va) an)) (ResV.row _ _ _ _ 58) rv)
      refine zm ?_
      refine z ?_ (h:=fun Z=>ba Z (by exact rfl))
      refine z ?_ (h:=fun Z=>ba Z (by exact rfl))
      refine za (za (nl (sq (rg (zm (zm ?_))))))
      refine z ?_ (h:=fun Z=>ag Z (dw (ltR l) (aR (wyP (ltR l) (ixT (ltR l) q) p j) (gC (aM (wyP (ltR l) (ixT (ltR l) q) p j)) i)) (by omega) (by(intro k hk;exact Nat.le_trans (hlr k hk) (by decide))) (by omega)) (ac (ArgV.slvv _ _ _) (ac (ci (by exact cc _)) an)) rv)
      refine za (nl (sq (ch (zdm (zdm ?_)))))
      refine zd ?_ (h:=fun Z=>ix0 (k:=(ixT (ltR l) (aR (wyP (ltR l) (ixT (ltR l) q) p j) (gC (aM (wyP (ltR l) (ixT (ltR l) q) p j)) i))).toNat) Z qu tk vt (Int.toNat_of_nonneg (by omega)).symm (by omega))
      refine zd ?_ (h:=fun Z=>lI Z tl (by omega))
      refine zdm (zdm ?_)
      refine zd ?_ (h:=fun Z=>ix0 (k:=(ixT (ltR l) (wyP (ltR l) (ixT (ltR l) q) p j)).toNat) Z qu tk vt (Int.toNat_of_nonneg (by omega)).symm (by omega))
      refine zd ?_ (h:=fun Z=>lI Z tl (by omega))
      refine zd ?_ (h:=fun Z=>aa Z vt vc (rS (by omega) (by omega)))
      refine zd ?_ (h:=fun Z=>aa Z vt vt (ct rfl))
      refine bG ?_
      refine wi (fun c8=> ?_) (fun c8=> ?_)
      ·skip
       have c8P:=of_decide_eq_true c8
       have hhit:=IQ (t:=ixT (ltR l) q) (by omega) (by omega) hn
       have hL1:wyL (ltR l) (ixT (ltR l) q) p j++[(gC (aM (wyP (ltR l) (ixT (ltR l) q) p j)) i)]=wyL (ltR l) (ixT (ltR l) q) p (j+1):=by rw[wyL,hhit]
       have hP1:(aR (wyP (ltR l) (ixT (ltR l) q) p j) (gC (aM (wyP (ltR l) (ixT (ltR l) q) p j)) i))=wyP (ltR l) (ixT (ltR l) q) p (j+1):=by rw[wyP,hhit]
       have hX1:ixT (ltR l) (aR (wyP (ltR l) (ixT (ltR l) q) p j) (gC (aM (wyP (ltR l) (ixT (ltR l) q) p j)) i))=ixT (ltR l) (wyP (ltR l) (ixT (ltR l) q) p (j+1)):=by rw[hP1]
       have hwl1:=nv (ltR l) (ixT (ltR l) q) p (j+1)
       refine sq (rg (zm ?_))
       refine z ?_ (h:=fun Z=>ab (xs:=[vI ((gC (aM (wyP (ltR l) (ixT (ltR l) q) p j)) i).x),vI ((gC (aM (wyP (ltR l) (ixT (ltR l) q) p j)) i).y)].map A.val) Z na rfl (by decide) rfl)
       refine z ?_ (h:=fun Z=>aP (h:=76) (xs:=csl ([(gC (aM (wyP (ltR l) (ixT (ltR l) q) p j)) i)]:List Cel)) Z kx nc (.cons va OpVs.nil) (by decide) (by decide) (by kernel_rfl) rfl)
       refine z ?_ (h:=fun Z=>aC_ (h2:=77) (L3:=((wyL (ltR l) (ixT (ltR l) q) p j)++[(gC (aM (wyP (ltR l) (ixT (ltR l) q) p j)) i)])) Z kx nc (by exact rfl) rfl (by exact rfl) (by(simp;omega)))
       refine zm (zm (za (za (za (nl (aU ?_))))))
       exact Exists.intro ((j+1)) (And.intro (by(show _≤_;omega)) (And.intro (by(first |(exact hbad.elim) |(show(fdR l p q).toNat-(j+1)<(fdR l p q).toNat-j;omega))) (wkf (aX [(42,77),(44,58)]) (wS<|wE (e:=(be (by omega)))<|wS<|wS<|wE (e:=(vsl (by(simp;omega)) rfl))<|wE (e:=(vsl (by(exact congrArg List.length (by first |rfl |omega |exact hL1 |exact hL1.symm |exact hP1 |exact hP1.symm |exact hX1 |exact hX1.symm))) rfl))<|wP<|wO (e:=aJ (fun h=>h) (congrArg csl (by exact hL1.symm)))<|wO (e:=aJ (fun h=>h) (congrArg dsl (by exact hP1.symm)))<|wP<|by(iterate 15 refine wF ?_);exact wN))))
      ·skip
       have c8P:=of_decide_eq_false c8
       have hn2:=IR hn (by omega)
       refine sk (rg ?_)
       refine z ?_ (h:=fun Z=>aa Z vt vc (rA (by omega) (by omega)))
       refine zm (nl ?_)
       exact aA ((i+1)) (by exact⟨by omega,hn2⟩) (by show(aM (wyP (ltR l) (ixT (ltR l) q) p j)).length-(i+1)<(aM (wyP (ltR l) (ixT (ltR l) q) p j)).length-i;omega) (wkf id (wS<|wS<|wS<|wS<|wS<|wS<|wS<|wS<|wE (e:=(be (by rfl)))<|wP<|wP<|wP<|wP<|wP<|by(iterate 14 refine wF ?_);exact wN))
     ·skip
      have c7P:=of_decide_eq_false c7
      have hbad:=KL hex (by omega) hn
      refine aU ?_
      exact Exists.intro (j) (And.intro (by(exact hbad.elim)) (And.intro (by(first |(exact hbad.elim) |(show(fdR l p q).toNat-(j+1)<(fdR l p q).toNat-j;omega))) (wkf id (wS<|wS<|wS<|wS<|wS<|wS<|wP<|wP<|wP<|wP<|by(iterate 15 refine wF ?_);exact wN))))
    ·skip
     have c5P:=of_decide_eq_false c5
     have hze:dsD (lkM (ltR l)) (ixT (ltR l) q) (ixT (ltR l) (wyP (ltR l) (ixT (ltR l) q) p j))=0:=(oI hA hPm hqm).2 (Decidable.not_not.1 (by exact of_decide_eq_false c5))
     have hje:j=(fdR l p q).toNat:=by omega
     refine aU (sq (rg (zm (za (zk (nl (aC ?_)))))))
     exact⟨[kS 6 900 0 ((wyL (ltR l) (ixT (ltR l) q) p j).length),kB 7 true,kO 800 3 1 true (pl (isl l)),kO 900 70 2 true (pl (csl (wyL (ltR l) (ixT (ltR l) q) p j))),kF 3,kF 20,kF 23,kF 26,kF 34,kF 36,kF 42,kF 44,kF 49,kF 50,kF 58,kF 63,kF 76,kF 77,kF 82,kF 83,kF 84,kF 85],wkf (aX [(900,42)]) (wS<|wS<|wP<|wP<|by(iterate 18 refine wF ?_);exact wN),⟨by kernel_rfl,bT (c:=pl (csl (wyL (ltR l) (ixT (ltR l) q) p j))) (by kernel_rfl) (congrArg (fun z=>pl (csl z)) (by exact wb (by assumption) hje)),trivial⟩,⟨dC 6 (.a (.sl 900 0 ((wyL (ltR l) (ixT (ltR l) q) p j).length))) (.a (.sl 900 0 ((fwR l p q).length))) (by kernel_rfl) (congrArg (fun z:Nat=>B.a (.sl 900 0 z)) (by exact congrArg List.length (wb (by assumption) hje))),dC 7 (.a (.val (.bool true))) (.a (.val (.bool (fwB (fdR l p q))))) (by kernel_rfl) (congrArg (fun z:Bool=>B.a (.val (.bool z))) (by exact(GU (by assumption)).symm))⟩⟩
end Cl
end Go.Proofs.YtgmkkfdnmdohlaaGreatDoor
