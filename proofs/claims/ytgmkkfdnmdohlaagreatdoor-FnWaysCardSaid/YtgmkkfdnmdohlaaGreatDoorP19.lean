/- Walks. -/
import Derived.Test.YtgmkkfdnmdohlaaGreatDoorGi
import Derived.Test.YtgmkkfdnmdohlaaGreatDoorFg
import Derived.Test.YtgmkkfdnmdohlaaGreatDoorW11
import Derived.Test.YtgmkkfdnmdohlaaGreatDoorC26
import Derived.Test.YtgmkkfdnmdohlaaGreatDoorC13
import Derived.Test.YtgmkkfdnmdohlaaGreatDoorGA
import Derived.Test.YtgmkkfdnmdohlaaGreatDoorClB
set_option linter.unusedSimpArgs false
set_option linter.unusedVariables false
set_option maxHeartbeats 4000000
set_option maxRecDepth 100000
namespace Go.Proofs.YtgmkkfdnmdohlaaGreatDoor
namespace Cl
open Go.ChangeShapes Go.WideShapes Go.ChangeAt Go.RowKit
theorem Gb {l:List Int} {p q:List Dom} (hp:p∈ltR l) (hq:q∈ltR l) (h60:(ltR l).length≤60) (h0:0≤fdR l p q):((fwR l p q).length:Int)=fdR l p q∧fOk p (fwR l p q)=true∧lG p (fwR l p q)=q:=by
 have h1:=cC hp;have h2:=cC hq
 have hA:=FlipA.of l
 have e:=fI (l:=l) (p:=p) (q:=q) (by omega) (by omega)
 have h3:=vV (M:=lkM (ltR l)) (n:=(ltR l).length) (t:=ixT (ltR l) q) (ls hA) ⟨h2,(gp _ _).1⟩ (ixT (ltR l) p)
 have hw:=wb (l:=l) (p:=p) (q:=q) (j:=(fdR l p q).toNat) (by omega) rfl
 rw[←hw,nv,e]
 have h4:=GI hA hp hq (by omega) (by omega)
 exact⟨by omega,h4.2,h4.1⟩
theorem Hc {L:List Int} {n:Int} {k:Nat} (hk:k<L.length) (h:gI L k=n):true=decide (n∈L):=by
 rw[eq_comm,decide_eq_true_eq,←h,dh hk];exact List.getElem_mem hk
theorem JS {L:List Int} {n:Int} {k:Nat} (hk:¬k<L.length) (h:∀ i,i<k→gI L i≠n):false=decide (n∈L):=by
 rw[eq_comm,decide_eq_false_iff_not]
 intro hm
 obtain⟨i,hi,e⟩:=List.getElem_of_mem hm
 exact h i (by omega) (by rw[dh hi];exact e)
structure WYS (R:List Int) (P Q:List Dom):Prop where
 sy:fdR R P Q=fdR R Q P
 ze:fdR R P Q=0↔P=Q
 on:1≤prN (lkM (ltR R)) (ltR R).length∧prN (lkM (ltR R)) (ltR R).length≤(ltR R).length
 al:0≤fdR R P Q→((fwR R P Q).length:Int)=fdR R P Q∧fOk P (fwR R P Q)=true∧lG P (fwR R P Q)=Q
 si:ms R=true→prN (lkM (ltR R)) (ltR R).length=1
 ok:prN (lkM (ltR R)) (ltR R).length=1→0≤fdR R P Q
 ne:ixT (ltR R) Q∈fnR R P↔fdR R P Q=1
theorem WYS.of {R:List Int} {P Q:List Dom} (ho:bj R=true) (hn:0<(ltR R).length) (h60:(ltR R).length≤60) (hP:P∈ltR R) (hQ:Q∈ltR R):WYS R P Q:=
 ⟨yF hP hQ,CV hP hQ,HH hn,fun h=>Gb hP hQ h60 h,fun h=>CU ho (Ik h).2.2.1 hn,fun h=>IB hn h hP hQ,Gc hP hQ⟩
theorem Cw:(Tryz.prog.info? 3).map (·.size)=some 1:=by kernel_rfl
theorem zB:(Tryz.prog.info? 70).map (·.size)=some 2:=by kernel_rfl
theorem bp:TI Tryz.prog 29 true 1:=⟨⟨_,Tryz.underlying29,rfl⟩,by kernel_rfl⟩
theorem Cy:TI Tryz.prog 3 false 1:=⟨⟨_,Tryz.underlying3,rfl⟩,by kernel_rfl⟩
theorem od:TI Tryz.prog 70 true 2:=⟨⟨_,Tryz.underlying70,rfl⟩,by kernel_rfl⟩
theorem oe:Tryz.prog.underlying 22=some (.slice 3):=Tryz.underlying22
theorem jw:Tryz.prog.underlying 36=some (.slice 70):=Tryz.underlying36
theorem fZ:Tryz.prog.underlying 4=some .bool:=Tryz.underlying4
theorem zC:ZI Tryz.prog 29 (.agg #[.slice none 0 0]) 1 24:=by unfold ZI;kernel_rfl
theorem Cz:ZI Tryz.prog 3 (.int .i64 0) 1 8:=by unfold ZI;kernel_rfl
theorem zD:ZI Tryz.prog 70 (.agg #[.int .i64 0,.int .i64 0]) 2 16:=by unfold ZI;kernel_rfl
theorem fQ (L:List Int) (n:Int) (hl:L.length≤4194304):Fn Tryz.prog 28 [.a (.slv L.length 1 (isl L)),.a (.val (.int .i64 n))] [.val (.bool (decide (n∈L)))]:=by
 refine bm (N:=18) Tryz.func28 rfl (by kernel_rfl) rfl (Nat.le_of_ble_eq_true rfl) [8] (dN rfl) (fun W=> ?_)
 show Wp _ _ _ [kV 0 (V.b (.a (.slv L.length 1 (isl L)))),kI 1 n,kF 8]
 refine sq (rg (zk (nl (sq (sq (rg (zk (nl (bkk ?_)))))))))
 refine bg (fun(k:Nat)=>k≤L.length∧∀ i,i<k→gI L i≠n) (fun(k:Nat)=>[kV 0 (V.b (.a (.slv L.length 1 (isl L)))),kI 1 n,kI 5 ((k:Nat):Int),kF 8]) (fun(k:Nat)=>L.length-k) ((0:Nat)) (by exact⟨Nat.zero_le _,fun i hi=>absurd hi (Nat.not_lt_zero i)⟩) (wkf id (wS<|wS<|wE (e:=(be (by rfl)))<|wF<|wN)) ?_
 rintro k inv1
 replace inv1:k≤L.length∧∀ i,i<k→gI L i≠n:=inv1
 obtain⟨inv1_0,inv1_1⟩:=inv1
 refine sq (sq (rg (zm (zm ?_))))
 refine z ?_ (h:=fun Z=>lnV Z oe)
 refine z ?_ (h:=fun Z=>aa Z vt vt (bA rfl))
 refine nl ?_
 refine wi (fun c2=> ?_) (fun c2=> ?_)
 ·skip
  have c2P:=of_decide_eq_true c2
  refine sk (sq (bkk (sq (rg (zm (zm ?_))))))
  refine z ?_ (h:=fun Z=>ixv Z oe Cw vt)
  refine z ?_ (h:=fun Z=>uI Z Cy)
  refine zm ?_
  refine z ?_ (h:=fun Z=>aa Z vt vt (ct rfl))
  refine nl ?_
  refine wi (fun c3=> ?_) (fun c3=> ?_)
  ·skip
   have c3P:=of_decide_eq_true c3
   refine sq (rg (zk (nl (aC ?_))))
   exact VRes.tmp _ _ _ (by exact rfl) (ce (congrArg Value.bool (by exact Hc (k:=k) (by omega) (by omega))))
  ·skip
   have c3P:=of_decide_eq_false c3
   refine sk (rg (zm ?_))
   refine z ?_ (h:=fun Z=>aa Z vt vc rA)
   refine za (nl ?_)
   exact aA ((k+1)) (by exact⟨by omega,Ja (by assumption) (by omega)⟩) (by show L.length-(k+1)<L.length-k;omega) (wkf id (wS<|wS<|wE (e:=(be (by rfl)))<|wF<|wN))
 ·skip
  have c2P:=of_decide_eq_false c2
  refine aU (sq (rg (zk (nl (aC ?_)))))
  exact VRes.tmp _ _ _ (by exact rfl) (ce (congrArg Value.bool (by exact JS (k:=k) (by omega) (by assumption))))
theorem dP (l:List Int) (q:List Dom) (hl:l.length≤4194304) (hq:q.length≤4194304):FnO Tryz.prog 29 [.agg [(.sl 800 0 l.length:A)],.a (.slv q.length 3 (dsl q))] [(.o 800,some (.o ⟨3,1,true,pl (isl l)⟩))] (V.b (.a (.sl 900 0 ((fnR l q).length)))) [(.o 800,some (.o ⟨3,1,true,pl (isl l)⟩)),(.o 900,some (.o ⟨3,1,true,pl (isl (fnR l q))⟩))] [800]:=by
 have hll:=ld l
 have hlr:∀ k,k<(ltR l).length→(gLd (ltR l) k).length≤4194304:=fun k hk=>Nat.le_trans (lf hk) (by decide)
 have hl64:∀ k,k<(ltR l).length→(gLd (ltR l) k).length≤64:=fun k hk=>Nat.le_trans (lf hk) (by decide)
 have hA:=FlipA.of l
 refine bW (N:=46) Tryz.func29 rfl (by kernel_rfl) rfl (Nat.le_of_ble_eq_true rfl) rfl rfl (by kernel_rfl) (by kernel_rfl) ⟨bh (fun _=>rfl),trivial⟩ [2,9,14,17,20,22,23,31,36,39,43,46,47,48,49] (ip rfl) (fun W own kp im0=> ?_)
 show Wp _ _ _ [kV 0 (V.b (.agg [(.sl 800 0 l.length:A)])),kV 1 (V.b (.a (.slv q.length 3 (dsl q)))),kO 800 3 1 true (pl (isl l)),kF 2,kF 9,kF 14,kF 17,kF 20,kF 22,kF 23,kF 31,kF 36,kF 39,kF 43,kF 46,kF 47,kF 48,kF 49]
 refine sq (rg ?_)
 refine z ?_ (h:=fun Z=>bo (h:=2) Z xt (by exact ob1 rfl))
 refine zk (nl (sq (rg ?_)))
 refine z ?_ (h:=fun Z=>ab (xs:=[(.sl 800 0 l.length:A)]) Z bp rfl (by decide) rfl)
 refine z ?_ (h:=fun Z=>aK (d:=14) (f:=37) (os:=[(.o 800,some (.o ⟨3,1,true,pl (isl l)⟩))]) (os':=[(.o 800,some (.o ⟨3,1,true,pl (isl l)⟩)),(.o 9,some (.o ⟨31,1,true,rwD 62 (ltR l)⟩))]) (r:=V.b (.a (.sl 9 0 ((ltR l).length)))) (bs:=[.agg [(.sl 800 0 l.length:A)]]) (keep:=[800]) (new:=[9]) (dead:=[]) Z (FnO.ren' (eb l (by omega)) (aX [(900,9)]) rfl rfl (by kernel_rfl) (by kernel_rfl) ⟨bh (fun _=>rfl),en,trivial⟩ (by kernel_rfl) rfl (by simp only[bv,Ob.ren,aY,ak,am,aj,aO,aN];first |done |rfl) (by simp only[bv,Ob.ren,aY,ak,am,aj,aO,aN];first |done |rfl) rfl rfl) (by kernel_rfl) ⟨bh (fun _=>rfl),en,trivial⟩ (by kernel_rfl) (ArgOs.cons (ArgO.slot 13 (.agg [(.sl 800 0 l.length:A)])) (ArgOs.nil)))
 refine za (nl (sq (rg (zm (zm ?_)))))
 refine z ?_ (h:=fun Z=>ag Z (dw (ltR l) q (by omega) (by omega) (by omega)) (ac (dvD (L:=(ltR l))) (ac (ArgV.slv _ _ _ _) an)) rv)
 refine za (nl (sq (sq (rg (zm ?_)))))
 refine z ?_ (h:=fun Z=>aa Z vt vc (bA rfl))
 refine nl ?_
 refine wi (fun c1=> ?_) (fun c1=> ?_)
 ·skip
  have c1P:=of_decide_eq_true c1
  have hno:=JL (l:=l) (q:=q) (by omega)
  refine sq (rg (zk (nl ?_)))
  refine dW (wnI (k:=4) (h:=14) (T:=3) (by kernel_rfl) (by kernel_rfl)) ?_
  refine aC ?_
  exact⟨[kS 4 900 0 0,kO 800 3 1 true (pl (isl l)),kO 900 3 1 true (pl (isl [])),kF 2,kF 9,kF 14,kF 17,kF 20,kF 22,kF 23,kF 31,kF 36,kF 39,kF 43,kF 46,kF 47,kF 48,kF 49],wkf (aX [(900,14)]) (wS<|wP<|wP<|by(iterate 15 refine wF ?_);exact wN),⟨by kernel_rfl,bT (c:=pl (isl [])) (by kernel_rfl) (congrArg (fun z=>pl (isl z)) (by rw[hno])),trivial⟩,dC 4 (.a (.sl 900 0 0)) (.a (.sl 900 0 ((fnR l q).length))) (by kernel_rfl) (congrArg (fun z:Nat=>B.a (.sl 900 0 z)) (by rw[hno];rfl))⟩
 ·skip
  have c1P:=of_decide_eq_false c1
  have hyes:=Aj (l:=l) (q:=q) (by omega)
  obtain⟨hin,hat,hlt⟩:=uK (l:=l) (q:=q) (by omega)
  have hfl:=iT q
  have hq64:q.length≤64:=by have:=hl64 _ hlt;rw[hat]at this;exact this
  refine sk (sq (rg ?_))
  refine z ?_ (h:=fun Z=>b0I (h:=20) Z oe Cz)
  refine za (nl (sq (sq (rg (zm ?_)))))
  refine z ?_ (h:=fun Z=>ag Z (iu q (by omega)) (ac (ArgV.slv _ _ _ _) an) (ResV.row _ _ _ _ 22))
  refine z ?_ (h:=fun Z=>lnS Z jw)
  refine z ?_ (h:=fun Z=>mc Z)
  refine nl (bkk ?_)
  refine bg (fun(k:Nat)=>k≤(aM q).length) (fun(k:Nat)=>[kV 1 (V.b (.a (.slv q.length 3 (dsl q)))),kS 5 9 0 ((ltR l).length),kS 7 20 0 ((srt ((nbI (ltR l) q).take k)).length),kS 22 22 0 ((aM q).length),kI 23 (((aM q).length:Nat):Int),kI 24 ((k:Nat):Int),kO 9 31 1 true (rwD 62 (ltR l)),kO 20 3 1 true (pl (isl (srt ((nbI (ltR l) q).take k)))),kO 22 70 2 true (pl (csl (aM q))),kO 800 3 1 true (pl (isl l)),kF 2,kF 14,kF 17,kF 23,kF 31,kF 36,kF 39,kF 43,kF 46,kF 47,kF 48,kF 49]) (fun(k:Nat)=>(aM q).length-k) ((0:Nat)) (by exact(Nat.zero_le _:0≤_)) (wkf id (wS<|wS<|wE (e:=(vsl (by rfl) rfl))<|wS<|wS<|wE (e:=(be (by rfl)))<|wQD<|wO (e:=aJ (fun h=>h) (congrArg isl (by rfl)))<|wP<|wP<|by(iterate 12 refine wF ?_);exact wN)) ?_
  rintro k inv2
  replace inv2:k≤(aM q).length:=inv2
  have invk:=inv2
  have hsl:=wJ ((nbI (ltR l) q).take k)
  rw[List.length_take,gq]at hsl
  refine sq (rg ?_)
  refine z ?_ (h:=fun Z=>aa Z vt vt (bA rfl))
  refine nl (sq ?_)
  refine wi (fun c3=> ?_) (fun c3=> ?_)
  ·skip
   have c3P:=of_decide_eq_true c3
   have hnew:=Kf hA hin (k:=k) (by omega)
   have hfa:=nO q (gC (aM q) k)
   have hsn:=yD (nbI (ltR l) q) k (by rw[gq];omega)
   rw[zl (by omega)]at hsn
   refine sk (sq (bkk (sq (rg ?_))))
   refine z ?_ (h:=fun Z=>ix0 Z jw zB vt (hlt:=(by omega)))
   refine z ?_ (h:=fun Z=>lC Z od (by omega))
   refine z ?_ (h:=fun Z=>aL (h:=2) (cap:=1) (s:=2) (cells:=[aI 0,aI 0]) Z zD rfl rfl (by decide))
   refine z ?_ (h:=fun _=>aE (cells:=[aI ((gC (aM q) k).x),aI ((gC (aM q) k).y)]) od xt (by exact rfl) (by decide) (by exact ob1 rfl) (by exact Nat.le_of_ble_eq_true rfl) (by exact rfl))
   refine nl (sq (rg (zm ?_)))
   refine z ?_ (h:=fun Z=>ab (xs:=[vI ((gC (aM q) k).x),vI ((gC (aM q) k).y)].map A.val) Z od rfl (by decide) rfl)
   refine z ?_ (h:=fun Z=>cH Z (jm q (gC (aM q) k) (by omega)) (ac (ArgV.slv _ _ _ _) (ac (ArgV.va va) an)) (ResV.row _ _ _ _ 31) rv)
   refine zm ?_
   refine z ?_ (h:=fun Z=>ba Z (by exact rfl))
   refine z ?_ (h:=fun Z=>ba Z (by exact rfl))
   refine za (za (nl (sq (rg (zm (zm ?_))))))
   refine z ?_ (h:=fun Z=>ag Z (dw (ltR l) (aR q (gC (aM q) k)) (by omega) (by omega) (by omega)) (ac (dvD (L:=(ltR l))) (ac (ci (by exact cc _)) an)) rv)
   refine za (nl (sq (rg (zm (zm ?_)))))
   refine z ?_ (h:=fun Z=>ag Z (rm (srt ((nbI (ltR l) q).take k)) (ixT (ltR l) (aR q (gC (aM q) k))) (by omega)) (ac (ci (by exact dl _)) (ac (ArgV.v vt) an)) rv)
   refine z ?_ (h:=fun Z=>aa Z vt vc (bA (c:=true) hnew))
   refine nl (wt (rg (zm (zm ?_))))
   refine z ?_ (h:=fun Z=>ag Z (qR (srt ((nbI (ltR l) q).take k)) (ixT (ltR l) (aR q (gC (aM q) k))) (by omega)) (ac (ci (by exact dl _)) (ac (ArgV.v vt) an)) (ResV.row _ _ _ _ 43))
   refine za (nl (rg ?_))
   refine z ?_ (h:=fun Z=>aa Z vt vc (rA (by omega) (by omega)))
   refine zm (nl ?_)
   exact aA ((k+1)) (by show _≤_;omega) (by show(aM q).length-(k+1)<(aM q).length-k;omega) (wkf (aX [(20,43)]) (wS<|wS<|wE (e:=(vsl (by(exact congrArg List.length (by first |rfl |omega |exact hsn |exact hsn.symm |(simp [srt];done)))) rfl))<|wS<|wS<|wE (e:=(be (by rfl)))<|wQD<|wO (e:=aJ (fun h=>h) (congrArg isl (by omega)))<|wP<|wP<|by(iterate 12 refine wF ?_);exact wN))
  ·skip
   have c3P:=of_decide_eq_false c3
   refine aU (sq (rg (zm (za (nl (aC ?_))))))
   exact⟨[kS 4 900 0 ((srt ((nbI (ltR l) q).take k)).length),kO 800 3 1 true (pl (isl l)),kO 900 3 1 true (pl (isl (srt ((nbI (ltR l) q).take k)))),kF 2,kF 9,kF 14,kF 17,kF 20,kF 22,kF 23,kF 31,kF 36,kF 39,kF 43,kF 46,kF 47,kF 48,kF 49],wkf (aX [(900,20)]) (wS<|wP<|wP<|by(iterate 15 refine wF ?_);exact wN),⟨by kernel_rfl,bT (c:=pl (isl (srt ((nbI (ltR l) q).take k)))) (by kernel_rfl) (congrArg (fun z=>pl (isl z)) (by(rw[hyes,List.take_of_length_le (by rw[gq];omega)]))),trivial⟩,dC 4 (.a (.sl 900 0 ((srt ((nbI (ltR l) q).take k)).length))) (.a (.sl 900 0 ((fnR l q).length))) (by kernel_rfl) (congrArg (fun z:Nat=>B.a (.sl 900 0 z)) (by(rw[hyes,List.take_of_length_le (by rw[gq];omega)])))⟩
theorem uf (b:List Nat) (R:List Int) (c0:Cu) (P Q:List Dom) (hbb:b.length≤9223372036854775807) (hy:∀ x∈b,x<256) (h3:(r12 b 6 (cu0 b)).1=R) (h4:(r12 b 6 (cu0 b)).2=c0) (hP:gLd (ltR R) (cuX b c0 (ltR R).length)=P) (hQ:gLd (ltR R) (cuX b (cuN b c0 (ltR R).length) (ltR R).length)=Q):Fn Tryz.prog 5 [.a (.slv b.length 1 (ysl b))] [.val (.bool true)]:=by
 obtain⟨hT,h60⟩:=Fi h3
 have h8:=(ez hT.ok).1
 have hlen:=hT.len
 have hpos:=hT.pos
 have hia:(cuX b c0 (ltR R).length)<(ltR R).length:=du (by omega)
 have hib:(cuX b (cuN b c0 (ltR R).length) (ltR R).length)<(ltR R).length:=du (by omega)
 have hPm:P∈ltR R:=by rw[←hP,cI hia];exact List.getElem_mem hia
 have hQm:Q∈ltR R:=by rw[←hQ,cI hib];exact List.getElem_mem hib
 have hW:=WYS.of hT.ok (by omega) (by omega) hPm hQm
 have hPl:P.length≤33:=hP▸hT.row _ hia
 have hQl:Q.length≤33:=hQ▸hT.row _ hib
 have hfd:=JI R P Q
 have hfw:=GV R P Q
 have hon:=hW.on
 have hsy:=hW.sy
 have hze:=hW.ze
 have hfn:=GR R P
 have hxq:=gp (ltR R) Q
 have hfa:=DP P (fwR R P Q)
 have hk1:decide (fwB (fdR R P Q)≠decide (0≤fdR R P Q))=false:=decide_eq_false (fun h=>h rfl)
 have hk2:decide (fdR R P Q≠fdR R Q P)=false:=decide_eq_false (fun h=>h hW.sy)
 have hk3:decide (decide (fdR R P Q=0)≠decide (P=Q))=false:=decide_eq_false (fun h=>h (decide_eq_decide.2 hW.ze))
 have hk4:decide ((prN (lkM (ltR R)) (ltR R).length)<1)=false:=decide_eq_false (by omega)
 have hk5:decide (((cntR R:Nat):Int)<(prN (lkM (ltR R)) (ltR R).length))=false:=decide_eq_false (by omega)
 have hk6:decide (decide (ixT (ltR R) Q∈fnR R P)=decide (fdR R P Q=1))=true:=decide_eq_true (decide_eq_decide.2 hW.ne)
 refine bm (N:=110) Tryz.func5 rfl (by kernel_rfl) rfl (Nat.le_of_ble_eq_true rfl) [3,13,16,23,28,32,42,50,60,67,71,81,85,101,104,105] (dN rfl) (fun W=> ?_)
 show Wp _ _ _ [kV 0 (V.b (.a (.slv b.length 1 (ysl b)))),kF 3,kF 13,kF 16,kF 23,kF 28,kF 32,kF 42,kF 50,kF 60,kF 67,kF 71,kF 81,kF 85,kF 101,kF 104,kF 105]
 refine sq (rg (zk (nl (sq (sq (rg (zm ?_)))))))
 refine z ?_ (h:=fun Z=>ag Z (xM b ) (ac (ArgV.slv _ _ _ _) an) rv)
 refine nl ?_
 refine wi (b:=(decide (1048576<((b.length:Nat):Int)))) (fun c1=> ?_) (fun c1=> ?_)
 ·skip
  refine sq (rg (zk (nl (aC ?_))))
  exact VRes.tmp _ _ _ (by exact rfl) (BRes.val _)
 ·skip
  have hb:b.length≤1048576:=by have:=of_decide_eq_false c1;omega
  refine sk (sq (rg (zm ?_)))
  refine z ?_ (h:=fun Z=>aK (d:=16) (f:=22) (os:=[]) (os':=[(.o 3,some (.o ⟨3,1,true,pl (isl R)⟩))]) (r:=V.tup [.agg [(.sl 3 0 R.length:A)],.a (.slv P.length 3 (dsl P)),.a (.slv Q.length 3 (dsl Q))]) (bs:=[.a (.slv b.length 1 (ysl b))]) (keep:=[]) (new:=[3]) (dead:=[]) Z (FnO.ren' (ly b R c0 P Q (by with_reducible assumption) (by with_reducible assumption) (by with_reducible assumption) (by with_reducible assumption) (by with_reducible assumption) (by with_reducible assumption)) (aX [(900,3)]) rfl rfl (by kernel_rfl) (by kernel_rfl) ⟨bh (fun _=>rfl),trivial⟩ (by kernel_rfl) rfl (by simp only[bv,Ob.ren,aY,ak,am,aj,aO,aN];first |done |rfl) (by simp only[bv,Ob.ren,aY,ak,am,aj,aO,aN];first |done |rfl) rfl rfl) (by kernel_rfl) ⟨bh (fun _=>rfl),trivial⟩ (by kernel_rfl) (ArgOs.cons (ArgO.slot 15 (.a (.slv b.length 1 (ysl b)))) (ArgOs.nil)))
  refine zm ?_
  refine z ?_ (h:=fun Z=>ba Z (by exact rfl))
  refine z ?_ (h:=fun Z=>ba Z (by exact rfl))
  refine z ?_ (h:=fun Z=>ba Z (by exact rfl))
  refine z ?_ (h:=fun Z=>aL (h:=13) (cap:=1) (s:=1) (cells:=[(.val (.slice none 0 0):A)]) Z zC rfl rfl (by decide))
  refine z ?_ (h:=fun _=>aE (cells:=[(.sl 3 0 R.length:A)]) bp xt (by exact rfl) (by decide) (by exact ob1 rfl) (by exact Nat.le_of_ble_eq_true rfl) (by exact rfl))
  refine za (za (nl (sq (rg ?_))))
  refine z ?_ (h:=fun Z=>ab (xs:=[(.sl 3 0 R.length:A)]) Z bp rfl (by decide) rfl)
  refine zm (zm ?_)
  refine z ?_ (h:=fun Z=>aK (d:=23) (f:=11) (os:=[(.o 3,some (.o ⟨3,1,true,pl (isl R)⟩))]) (os':=[(.o 3,some (.o ⟨3,1,true,pl (isl R)⟩))]) (r:=V.v (.int .i64 (fdR R P Q))) (bs:=[.agg [(.sl 3 0 R.length:A)],.a (.slv P.length 3 (dsl P)),.a (.slv Q.length 3 (dsl Q))]) (keep:=[3]) (new:=[]) (dead:=[]) Z (FnO.ren' (gm R P Q (by omega) (by omega) (by omega)) (aX [(800,3)]) rfl rfl (by kernel_rfl) (by kernel_rfl) ⟨bh (fun _=>rfl),trivial⟩ (by kernel_rfl) rfl (by simp only[bv,Ob.ren,aY,ak,am,aj,aO,aN];first |done |rfl) (by simp only[bv,Ob.ren,aY,ak,am,aj,aO,aN];first |done |rfl) rfl rfl) (by kernel_rfl) ⟨bh (fun _=>rfl),trivial⟩ (by kernel_rfl) (ArgOs.cons (ArgO.slot 20 (.agg [(.sl 3 0 R.length:A)])) (ArgOs.cons (ArgO.slot 21 (.a (.slv P.length 3 (dsl P)))) (ArgOs.cons (ArgO.slot 22 (.a (.slv Q.length 3 (dsl Q)))) (ArgOs.nil)))))
  refine za (nl (sq (rg ?_)))
  refine z ?_ (h:=fun Z=>ab (xs:=[(.sl 3 0 R.length:A)]) Z bp rfl (by decide) rfl)
  refine zm (zm ?_)
  refine z ?_ (h:=fun Z=>aK (d:=28) (f:=15) (os:=[(.o 3,some (.o ⟨3,1,true,pl (isl R)⟩))]) (os':=[(.o 3,some (.o ⟨3,1,true,pl (isl R)⟩)),(.o 16,some (.o ⟨70,2,true,pl (csl (fwR R P Q))⟩))]) (r:=V.tup [.a (.sl 16 0 ((fwR R P Q).length)),.a (.val (.bool (fwB (fdR R P Q))))]) (bs:=[.agg [(.sl 3 0 R.length:A)],.a (.slv P.length 3 (dsl P)),.a (.slv Q.length 3 (dsl Q))]) (keep:=[3]) (new:=[16]) (dead:=[]) Z (FnO.ren' (oP R P Q (by omega) (by omega) (by omega)) (aX [(800,3),(900,16)]) rfl rfl (by kernel_rfl) (by kernel_rfl) ⟨bh (fun _=>rfl),bh (fun _=>rfl),trivial⟩ (by kernel_rfl) rfl (by simp only[bv,Ob.ren,aY,ak,am,aj,aO,aN];first |done |rfl) (by simp only[bv,Ob.ren,aY,ak,am,aj,aO,aN];first |done |rfl) rfl rfl) (by kernel_rfl) ⟨bh (fun _=>rfl),bh (fun _=>rfl),trivial⟩ (by kernel_rfl) (ArgOs.cons (ArgO.slot 25 (.agg [(.sl 3 0 R.length:A)])) (ArgOs.cons (ArgO.slot 26 (.a (.slv P.length 3 (dsl P)))) (ArgOs.cons (ArgO.slot 27 (.a (.slv Q.length 3 (dsl Q)))) (ArgOs.nil)))))
  refine zm ?_
  refine z ?_ (h:=fun Z=>ba Z (by exact rfl))
  refine z ?_ (h:=fun Z=>ba Z (by exact rfl))
  refine za (za (nl (sq (rg ?_))))
  refine z ?_ (h:=fun Z=>ab (xs:=[(.sl 3 0 R.length:A)]) Z bp rfl (by decide) rfl)
  refine z ?_ (h:=fun Z=>aK (d:=32) (f:=23) (os:=[(.o 3,some (.o ⟨3,1,true,pl (isl R)⟩))]) (os':=[(.o 3,some (.o ⟨3,1,true,pl (isl R)⟩))]) (r:=V.v (.int .i64 (prN (lkM (ltR R)) (ltR R).length))) (bs:=[.agg [(.sl 3 0 R.length:A)]]) (keep:=[3]) (new:=[]) (dead:=[]) Z (FnO.ren' (kZ R (by omega)) (aX [(800,3)]) rfl rfl (by kernel_rfl) (by kernel_rfl) ⟨bh (fun _=>rfl),trivial⟩ (by kernel_rfl) rfl (by simp only[bv,Ob.ren,aY,ak,am,aj,aO,aN];first |done |rfl) (by simp only[bv,Ob.ren,aY,ak,am,aj,aO,aN];first |done |rfl) rfl rfl) (by kernel_rfl) ⟨bh (fun _=>rfl),trivial⟩ (by kernel_rfl) (ArgOs.cons (ArgO.slot 31 (.agg [(.sl 3 0 R.length:A)])) (ArgOs.nil)))
  refine za (nl (sq (sq (rg (zm (zm ?_))))))
  refine z ?_ (h:=fun Z=>aa Z vt vc (Fk rfl))
  refine z ?_ (h:=fun Z=>aa Z vt vt (zF (c:=false) fZ hk1))
  refine zm ?_
  refine zg ?_ (h:=fun Z=>ae rfl rfl (mt Z))
  refine zg ?_ (h:=fun Z=>ae rfl rfl (ab (xs:=[(.sl 3 0 R.length:A)]) Z bp rfl (by decide) rfl))
  refine zg ?_ (h:=fun Z=>ae rfl rfl (mt Z))
  refine zg ?_ (h:=fun Z=>ae rfl rfl (mt Z))
  refine zg ?_ (h:=fun Z=>ae rfl rfl (aK (d:=42) (f:=11) (os:=[(.o 3,some (.o ⟨3,1,true,pl (isl R)⟩))]) (os':=[(.o 3,some (.o ⟨3,1,true,pl (isl R)⟩))]) (r:=V.v (.int .i64 (fdR R Q P))) (bs:=[.agg [(.sl 3 0 R.length:A)],.a (.slv Q.length 3 (dsl Q)),.a (.slv P.length 3 (dsl P))]) (keep:=[3]) (new:=[]) (dead:=[]) Z (FnO.ren' (gm R Q P (by omega) (by omega) (by omega)) (aX [(800,3)]) rfl rfl (by kernel_rfl) (by kernel_rfl) ⟨bh (fun _=>rfl),trivial⟩ (by kernel_rfl) rfl (by simp only[bv,Ob.ren,aY,ak,am,aj,aO,aN];first |done |rfl) (by simp only[bv,Ob.ren,aY,ak,am,aj,aO,aN];first |done |rfl) rfl rfl) (by kernel_rfl) ⟨bh (fun _=>rfl),trivial⟩ (by kernel_rfl) (ArgOs.cons (ArgO.slot 39 (.agg [(.sl 3 0 R.length:A)])) (ArgOs.cons (ArgO.slot 40 (.a (.slv Q.length 3 (dsl Q)))) (ArgOs.cons (ArgO.slot 41 (.a (.slv P.length 3 (dsl P)))) (ArgOs.nil))))))
  refine zg ?_ (h:=fun Z=>ae rfl rfl (aa Z vt vt (fv (c:=false) hk2)))
  refine z ?_ (h:=fun Z=>ar Z vt xt)
  refine zm ?_
  refine zg ?_ (h:=fun Z=>ae rfl rfl (mt Z))
  refine zg ?_ (h:=fun Z=>ae rfl rfl (aa Z vt vc (ct rfl)))
  refine zg ?_ (h:=fun Z=>ae rfl rfl (mt Z))
  refine zg ?_ (h:=fun Z=>ae rfl rfl (mt Z))
  refine zg ?_ (h:=fun Z=>ae rfl rfl (ag Z (fd P Q (by omega) (by omega)) (ac (ArgV.slv _ _ _ _) (ac (ArgV.slv _ _ _ _) an)) rv))
  refine zg ?_ (h:=fun Z=>ae rfl rfl (aa Z vt vt (zF (c:=false) fZ hk3)))
  refine z ?_ (h:=fun Z=>ar Z vt xt)
  refine zm ?_
  refine zg ?_ (h:=fun Z=>ae rfl rfl (mt Z))
  refine zg ?_ (h:=fun Z=>ae rfl rfl (aa Z vt vc (bA (c:=false) hk4)))
  refine z ?_ (h:=fun Z=>ar Z vt xt)
  refine zm ?_
  refine zg ?_ (h:=fun Z=>ae rfl rfl (mt Z))
  refine zg ?_ (h:=fun Z=>ae rfl rfl (ab (xs:=[(.sl 3 0 R.length:A)]) Z bp rfl (by decide) rfl))
  refine zg ?_ (h:=fun Z=>ae rfl rfl (ag Z (ir R (by omega)) (ac (ArgV.reg _ _ _ (s:=1) (by simp [isl]) (by exact List.take_of_length_le (by simp [isl]))) an) rv))
  refine zg ?_ (h:=fun Z=>ae rfl rfl (aa Z vt vt (vz (c:=false) hk5)))
  refine z ?_ (h:=fun Z=>ar Z vt xt)
  refine nl (wf (sk (sq (sq (rg (zm (nl ?_)))))))
  refine wi (b:=(fwB (fdR R P Q))) (fun c2=> ?_) (fun c2=> ?_)
  ·skip
   have hnn:0≤fdR R P Q:=of_decide_eq_true c2
   obtain⟨hf1,hf2,hf3⟩:=hW.al hnn
   refine sq (rg (zm (zm ?_)))
   refine z ?_ (h:=fun Z=>cH Z (rz P (fwR R P Q) (by omega) (by omega)) (ac (ArgV.slv _ _ _ _) (ac (ci (by exact rJ _)) an)) (ResV.row _ _ _ _ 67) rv)
   refine zm ?_
   refine z ?_ (h:=fun Z=>ba Z (by exact rfl))
   refine z ?_ (h:=fun Z=>ba Z (by exact rfl))
   refine za (za (nl (sq ?_)))
   rcases Bool.eq_false_or_eq_true (decide ((((fwR R P Q).length:Nat):Int)≠(fdR R P Q)))with c3 |c3
   ·skip
    have c3P:=of_decide_eq_true c3
    refine rg (zm ?_)
    refine z ?_ (h:=fun Z=>lnS Z jw)
    refine zm ?_
    refine z ?_ (h:=fun Z=>aa Z vt vt (fv (c:=true) c3))
    refine zm (zo (zo ?_))
    refine z ?_ (h:=fun Z=>au Z vt xc)
    refine zm (zo (zo (zo (zo ?_))))
    refine z ?_ (h:=fun Z=>au Z vt xc)
    refine nl (wt (sq (rg (zk (nl (aC ?_))))))
    exact VRes.tmp _ _ _ (by exact rfl) (ce (congrArg Value.bool (by(exfalso;omega))))
   ·skip
    have c3P:=of_decide_eq_false c3
    rcases Bool.eq_false_or_eq_true ((fOk P (fwR R P Q)))with c4 |c4
    ·skip
     rw[c4]
     refine rg (zm ?_)
     refine z ?_ (h:=fun Z=>lnS Z jw)
     refine zm ?_
     refine z ?_ (h:=fun Z=>aa Z vt vt (fv (c:=false) c3))
     refine zm ?_
     refine zg ?_ (h:=fun Z=>ae rfl rfl (mt Z))
     refine zg ?_ (h:=fun Z=>ae rfl rfl (bn Z vt (bS (c:=false) rfl)))
     refine z ?_ (h:=fun Z=>ar Z vt xt)
     refine zm ?_
     refine zg ?_ (h:=fun Z=>ae rfl rfl (mt Z))
     refine zg ?_ (h:=fun Z=>ae rfl rfl (mt Z))
     refine zg ?_ (h:=fun Z=>ae rfl rfl (ag Z (fd (lG P (fwR R P Q)) Q (by omega) (by omega)) (ac (ci (by exact cc _)) (ac (ArgV.slv _ _ _ _) an)) rv))
     refine zg ?_ (h:=fun Z=>ae rfl rfl (bn Z vt (bS rfl)))
     refine z ?_ (h:=fun Z=>ar Z vt xt)
     refine nl ?_
     refine wi (b:=(!(decide ((lG P (fwR R P Q))=Q)))) (fun c5=> ?_) (fun c5=> ?_)
     ·skip
      have c6:decide ((lG P (fwR R P Q))=Q)=false:=by first |(rw[←Bool.not_eq_true'];exact c5) |simpa using c5
      have c6P:=of_decide_eq_false c6
      refine sq (rg (zk (nl (aC ?_))))
      exact VRes.tmp _ _ _ (by exact rfl) (ce (congrArg Value.bool (by exact absurd hf3 (by assumption))))
     ·skip
      have c7:decide ((lG P (fwR R P Q))=Q)=true:=by first |(rw[←Bool.not_eq_false'];exact c5) |simpa using c5
      have c7P:=of_decide_eq_true c7
      refine sk (sq ?_)
      rcases Bool.eq_false_or_eq_true ((ms R))with c8 |c8
      ·skip
       have hsp:=hW.si c8
       rcases Bool.eq_false_or_eq_true (decide ((prN (lkM (ltR R)) (ltR R).length)=1))with c9 |c9
       ·skip
        have c9P:=of_decide_eq_true c9
        have hok:=hW.ok (of_decide_eq_true c9)
        rcases Bool.eq_false_or_eq_true ((fwB (fdR R P Q)))with c10 |c10
        ·skip
         have hnn:0≤fdR R P Q:=of_decide_eq_true c10
         obtain⟨hf1,hf2,hf3⟩:=hW.al hnn
         rw[c10]
         refine ch ?_
         refine zd ?_ (h:=fun Z=>ab (xs:=[(.sl 3 0 R.length:A)]) Z bp rfl (by decide) rfl)
         refine zd ?_ (h:=fun Z=>ag Z (bV R (by omega)) (ac (ArgV.reg _ _ _ (s:=1) (by simp [isl]) (by exact List.take_of_length_le (by simp [isl]))) an) (bi (congrArg Value.bool c8)))
         refine zd ?_ (h:=fun Z=>bn Z vt (bS (c:=false) rfl))
         refine zdm ?_
         refine zdg ?_ (h:=fun Z=>ae rfl rfl (mt Z))
         refine zdg ?_ (h:=fun Z=>ae rfl rfl (aa Z vt vc (ct (c:=true) c9)))
         refine zd ?_ (h:=fun Z=>ar Z vt xt)
         refine zdm ?_
         refine zdg ?_ (h:=fun Z=>ae rfl rfl (mt Z))
         refine zdg ?_ (h:=fun Z=>ae rfl rfl (aa Z vt vc (fv (c:=false) (rK (p:=(prN (lkM (ltR R)) (ltR R).length)≠1) (by omega) c9))))
         refine zdg ?_ (h:=fun Z=>ae rfl rfl (mt Z))
         refine zdg ?_ (h:=fun Z=>ae rfl rfl (mt Z))
         refine zdg ?_ (h:=fun Z=>ae rfl rfl (ar Z vt xt))
         refine zd ?_ (h:=fun Z=>au Z vt xt)
         refine zdm ?_
         refine zdg ?_ (h:=fun Z=>ae rfl rfl (ab (xs:=[(.sl 3 0 R.length:A)]) Z bp rfl (by decide) rfl))
         refine zdg ?_ (h:=fun Z=>ae rfl rfl (mt Z))
         refine zdg ?_ (h:=fun Z=>ae rfl rfl (aK (d:=101) (f:=29) (os:=[(.o 3,some (.o ⟨3,1,true,pl (isl R)⟩))]) (os':=[(.o 3,some (.o ⟨3,1,true,pl (isl R)⟩)),(.o 23,some (.o ⟨3,1,true,pl (isl (fnR R P))⟩))]) (r:=V.b (.a (.sl 23 0 ((fnR R P).length)))) (bs:=[.agg [(.sl 3 0 R.length:A)],.a (.slv P.length 3 (dsl P))]) (keep:=[3]) (new:=[23]) (dead:=[]) Z (FnO.ren' (dP R P (by omega) (by omega)) (aX [(800,3),(900,23)]) rfl rfl (by kernel_rfl) (by kernel_rfl) ⟨bh (fun _=>rfl),bh (fun _=>rfl),trivial⟩ (by kernel_rfl) rfl (by simp only[bv,Ob.ren,aY,ak,am,aj,aO,aN];first |done |rfl) (by simp only[bv,Ob.ren,aY,ak,am,aj,aO,aN];first |done |rfl) rfl rfl) (by kernel_rfl) ⟨bh (fun _=>rfl),bh (fun _=>rfl),trivial⟩ (by kernel_rfl) (ArgOs.cons (ArgO.slot 99 (.agg [(.sl 3 0 R.length:A)])) (ArgOs.cons (ArgO.slot 100 (.a (.slv P.length 3 (dsl P)))) (ArgOs.nil)))))
         refine zdg ?_ (h:=fun Z=>ae rfl rfl (ab (xs:=[(.sl 3 0 R.length:A)]) Z bp rfl (by decide) rfl))
         refine zdg ?_ (h:=fun Z=>ae rfl rfl (mt Z))
         refine zdg ?_ (h:=fun Z=>ae rfl rfl (aK (d:=104) (f:=30) (os:=[(.o 3,some (.o ⟨3,1,true,pl (isl R)⟩))]) (os':=[(.o 3,some (.o ⟨3,1,true,pl (isl R)⟩))]) (r:=V.v (.int .i64 (ixT (ltR R) Q))) (bs:=[.agg [(.sl 3 0 R.length:A)],.a (.slv Q.length 3 (dsl Q))]) (keep:=[3]) (new:=[]) (dead:=[]) Z (FnO.ren' (ek R Q (by omega) (by omega)) (aX [(800,3)]) rfl rfl (by kernel_rfl) (by kernel_rfl) ⟨bh (fun _=>rfl),trivial⟩ (by kernel_rfl) rfl (by simp only[bv,Ob.ren,aY,ak,am,aj,aO,aN];first |done |rfl) (by simp only[bv,Ob.ren,aY,ak,am,aj,aO,aN];first |done |rfl) rfl rfl) (by kernel_rfl) ⟨bh (fun _=>rfl),trivial⟩ (by kernel_rfl) (ArgOs.cons (ArgO.slot 102 (.agg [(.sl 3 0 R.length:A)])) (ArgOs.cons (ArgO.slot 103 (.a (.slv Q.length 3 (dsl Q)))) (ArgOs.nil)))))
         refine zdg ?_ (h:=fun Z=>ae rfl rfl (ag Z (fQ (fnR R P) (ixT (ltR R) Q) (by omega)) (ac (ci (by exact dl _)) (ac (ArgV.v vt) an)) rv))
         refine zdg ?_ (h:=fun Z=>ae rfl rfl (mt Z))
         refine zdg ?_ (h:=fun Z=>ae rfl rfl (aa Z vt vc (ct rfl)))
         refine zdg ?_ (h:=fun Z=>ae rfl rfl (aa Z vt vt (jx (c:=(decide ((decide ((ixT (ltR R) Q)∈(fnR R P)))=decide ((fdR R P Q)=1)))) fZ rfl)))
         refine zd ?_ (h:=fun Z=>au Z vt xt)
         refine zd ?_ (h:=fun Z=>gt Z)
         refine bG (aC ?_)
         exact VRes.tmp _ _ _ (by exact rfl) (ce (congrArg Value.bool (by exact hk6)))
        ·skip
         have hng:¬0≤fdR R P Q:=of_decide_eq_false c10
         rw[c10]
         refine ch ?_
         refine zd ?_ (h:=fun Z=>ab (xs:=[(.sl 3 0 R.length:A)]) Z bp rfl (by decide) rfl)
         refine zd ?_ (h:=fun Z=>ag Z (bV R (by omega)) (ac (ArgV.reg _ _ _ (s:=1) (by simp [isl]) (by exact List.take_of_length_le (by simp [isl]))) an) (bi (congrArg Value.bool c8)))
         refine zd ?_ (h:=fun Z=>bn Z vt (bS (c:=false) rfl))
         refine zdm ?_
         refine zdg ?_ (h:=fun Z=>ae rfl rfl (mt Z))
         refine zdg ?_ (h:=fun Z=>ae rfl rfl (aa Z vt vc (ct (c:=true) c9)))
         refine zd ?_ (h:=fun Z=>ar Z vt xt)
         refine zdm ?_
         refine zdg ?_ (h:=fun Z=>ae rfl rfl (mt Z))
         refine zdg ?_ (h:=fun Z=>ae rfl rfl (aa Z vt vc (fv (c:=false) (rK (p:=(prN (lkM (ltR R)) (ltR R).length)≠1) (by omega) c9))))
         refine zdg ?_ (h:=fun Z=>ae rfl rfl (mt Z))
         refine zdg ?_ (h:=fun Z=>ae rfl rfl (mt Z))
         refine zdg ?_ (h:=fun Z=>ae rfl rfl (ar Z vt xt))
         refine zd ?_ (h:=fun Z=>au Z vt xt)
         refine zdm ?_
         refine zdg ?_ (h:=fun Z=>aG rfl rfl (by decide) rfl Z)
         refine zdg ?_ (h:=fun Z=>aG rfl rfl (by decide) rfl Z)
         refine zdg ?_ (h:=fun Z=>aG rfl rfl (by decide) rfl Z)
         refine zdg ?_ (h:=fun Z=>aG rfl rfl (by decide) rfl Z)
         refine zdg ?_ (h:=fun Z=>aG rfl rfl (by decide) rfl Z)
         refine zdg ?_ (h:=fun Z=>aG rfl rfl (by decide) rfl Z)
         refine zdg ?_ (h:=fun Z=>aG rfl rfl (by decide) rfl Z)
         refine zdg ?_ (h:=fun Z=>aG rfl rfl (by decide) rfl Z)
         refine zdg ?_ (h:=fun Z=>aG rfl rfl (by decide) rfl Z)
         refine zdg ?_ (h:=fun Z=>aG rfl rfl (by decide) rfl Z)
         refine zd ?_ (h:=fun Z=>ar Z vt xc)
         refine zd ?_ (h:=fun Z=>gt Z)
         refine bG (aC ?_)
         exact VRes.tmp _ _ _ (by exact rfl) (ce (congrArg Value.bool (by(exfalso;omega))))
       ·skip
        have c9P:=of_decide_eq_false c9
        refine ch ?_
        refine zd ?_ (h:=fun Z=>ab (xs:=[(.sl 3 0 R.length:A)]) Z bp rfl (by decide) rfl)
        refine zd ?_ (h:=fun Z=>ag Z (bV R (by omega)) (ac (ArgV.reg _ _ _ (s:=1) (by simp [isl]) (by exact List.take_of_length_le (by simp [isl]))) an) (bi (congrArg Value.bool c8)))
        refine zd ?_ (h:=fun Z=>bn Z vt (bS (c:=false) rfl))
        refine zdm ?_
        refine zdg ?_ (h:=fun Z=>ae rfl rfl (mt Z))
        refine zdg ?_ (h:=fun Z=>ae rfl rfl (aa Z vt vc (ct (c:=false) c9)))
        refine zd ?_ (h:=fun Z=>ar Z vt xt)
        refine zdm ?_
        refine zdg ?_ (h:=fun Z=>aG rfl rfl (by decide) rfl Z)
        refine zdg ?_ (h:=fun Z=>aG rfl rfl (by decide) rfl Z)
        refine zdg ?_ (h:=fun Z=>vF rfl rfl (by decide) rfl Z)
        refine zdg ?_ (h:=fun Z=>vG rfl rfl rfl Z)
        refine zdg ?_ (h:=fun Z=>aG rfl rfl (by decide) rfl Z)
        refine zd ?_ (h:=fun Z=>ar Z vt xc)
        refine zdm ?_
        refine zdg ?_ (h:=fun Z=>aG rfl rfl (by decide) rfl Z)
        refine zdg ?_ (h:=fun Z=>aG rfl rfl (by decide) rfl Z)
        refine zdg ?_ (h:=fun Z=>aG rfl rfl (by decide) rfl Z)
        refine zdg ?_ (h:=fun Z=>aG rfl rfl (by decide) rfl Z)
        refine zdg ?_ (h:=fun Z=>aG rfl rfl (by decide) rfl Z)
        refine zdg ?_ (h:=fun Z=>aG rfl rfl (by decide) rfl Z)
        refine zdg ?_ (h:=fun Z=>aG rfl rfl (by decide) rfl Z)
        refine zdg ?_ (h:=fun Z=>aG rfl rfl (by decide) rfl Z)
        refine zdg ?_ (h:=fun Z=>aG rfl rfl (by decide) rfl Z)
        refine zdg ?_ (h:=fun Z=>aG rfl rfl (by decide) rfl Z)
        refine zd ?_ (h:=fun Z=>ar Z vt xc)
        refine zd ?_ (h:=fun Z=>gt Z)
        refine bG (aC ?_)
        exact VRes.tmp _ _ _ (by exact rfl) (ce (congrArg Value.bool (by(exfalso;omega))))
      ·skip
       rcases Bool.eq_false_or_eq_true (decide ((prN (lkM (ltR R)) (ltR R).length)≠1))with c11 |c11
       ·skip
        have c11P:=of_decide_eq_true c11
        refine ch ?_
        refine zd ?_ (h:=fun Z=>ab (xs:=[(.sl 3 0 R.length:A)]) Z bp rfl (by decide) rfl)
        refine zd ?_ (h:=fun Z=>ag Z (bV R (by omega)) (ac (ArgV.reg _ _ _ (s:=1) (by simp [isl]) (by exact List.take_of_length_le (by simp [isl]))) an) (bi (congrArg Value.bool c8)))
        refine zd ?_ (h:=fun Z=>bn Z vt (bS (c:=true) rfl))
        refine zdm ?_
        refine zdg ?_ (h:=fun Z=>aG rfl rfl (by decide) rfl Z)
        refine zdg ?_ (h:=fun Z=>aG rfl rfl (by decide) rfl Z)
        refine zd ?_ (h:=fun Z=>au Z vt xc)
        refine zdm ?_
        refine zdg ?_ (h:=fun Z=>ae rfl rfl (mt Z))
        refine zdg ?_ (h:=fun Z=>ae rfl rfl (aa Z vt vc (fv (c:=true) c11)))
        refine zdg ?_ (h:=fun Z=>ae rfl rfl (mt Z))
        refine zdg ?_ (h:=fun Z=>aG rfl rfl (by decide) rfl Z)
        refine zdg ?_ (h:=fun Z=>ae rfl rfl (au Z vt xc))
        refine zd ?_ (h:=fun Z=>au Z vt xt)
        refine zdm ?_
        refine zdg ?_ (h:=fun Z=>ae rfl rfl (ab (xs:=[(.sl 3 0 R.length:A)]) Z bp rfl (by decide) rfl))
        refine zdg ?_ (h:=fun Z=>ae rfl rfl (mt Z))
        refine zdg ?_ (h:=fun Z=>ae rfl rfl (aK (d:=101) (f:=29) (os:=[(.o 3,some (.o ⟨3,1,true,pl (isl R)⟩))]) (os':=[(.o 3,some (.o ⟨3,1,true,pl (isl R)⟩)),(.o 23,some (.o ⟨3,1,true,pl (isl (fnR R P))⟩))]) (r:=V.b (.a (.sl 23 0 ((fnR R P).length)))) (bs:=[.agg [(.sl 3 0 R.length:A)],.a (.slv P.length 3 (dsl P))]) (keep:=[3]) (new:=[23]) (dead:=[]) Z (FnO.ren' (dP R P (by omega) (by omega)) (aX [(800,3),(900,23)]) rfl rfl (by kernel_rfl) (by kernel_rfl) ⟨bh (fun _=>rfl),bh (fun _=>rfl),trivial⟩ (by kernel_rfl) rfl (by simp only[bv,Ob.ren,aY,ak,am,aj,aO,aN];first |done |rfl) (by simp only[bv,Ob.ren,aY,ak,am,aj,aO,aN];first |done |rfl) rfl rfl) (by kernel_rfl) ⟨bh (fun _=>rfl),bh (fun _=>rfl),trivial⟩ (by kernel_rfl) (ArgOs.cons (ArgO.slot 99 (.agg [(.sl 3 0 R.length:A)])) (ArgOs.cons (ArgO.slot 100 (.a (.slv P.length 3 (dsl P)))) (ArgOs.nil)))))
        refine zdg ?_ (h:=fun Z=>ae rfl rfl (ab (xs:=[(.sl 3 0 R.length:A)]) Z bp rfl (by decide) rfl))
        refine zdg ?_ (h:=fun Z=>ae rfl rfl (mt Z))
        refine zdg ?_ (h:=fun Z=>ae rfl rfl (aK (d:=104) (f:=30) (os:=[(.o 3,some (.o ⟨3,1,true,pl (isl R)⟩))]) (os':=[(.o 3,some (.o ⟨3,1,true,pl (isl R)⟩))]) (r:=V.v (.int .i64 (ixT (ltR R) Q))) (bs:=[.agg [(.sl 3 0 R.length:A)],.a (.slv Q.length 3 (dsl Q))]) (keep:=[3]) (new:=[]) (dead:=[]) Z (FnO.ren' (ek R Q (by omega) (by omega)) (aX [(800,3)]) rfl rfl (by kernel_rfl) (by kernel_rfl) ⟨bh (fun _=>rfl),trivial⟩ (by kernel_rfl) rfl (by simp only[bv,Ob.ren,aY,ak,am,aj,aO,aN];first |done |rfl) (by simp only[bv,Ob.ren,aY,ak,am,aj,aO,aN];first |done |rfl) rfl rfl) (by kernel_rfl) ⟨bh (fun _=>rfl),trivial⟩ (by kernel_rfl) (ArgOs.cons (ArgO.slot 102 (.agg [(.sl 3 0 R.length:A)])) (ArgOs.cons (ArgO.slot 103 (.a (.slv Q.length 3 (dsl Q)))) (ArgOs.nil)))))
        refine zdg ?_ (h:=fun Z=>ae rfl rfl (ag Z (fQ (fnR R P) (ixT (ltR R) Q) (by omega)) (ac (ci (by exact dl _)) (ac (ArgV.v vt) an)) rv))
        refine zdg ?_ (h:=fun Z=>ae rfl rfl (mt Z))
        refine zdg ?_ (h:=fun Z=>ae rfl rfl (aa Z vt vc (ct rfl)))
        refine zdg ?_ (h:=fun Z=>ae rfl rfl (aa Z vt vt (jx (c:=(decide ((decide ((ixT (ltR R) Q)∈(fnR R P)))=decide ((fdR R P Q)=1)))) fZ rfl)))
        refine zd ?_ (h:=fun Z=>au Z vt xt)
        refine zd ?_ (h:=fun Z=>gt Z)
        refine bG (aC ?_)
        exact VRes.tmp _ _ _ (by exact rfl) (ce (congrArg Value.bool (by exact hk6)))
       ·skip
        have c11P:=of_decide_eq_false c11
        have hok:=hW.ok (Decidable.not_not.1 (of_decide_eq_false c11))
        rcases Bool.eq_false_or_eq_true ((fwB (fdR R P Q)))with c12 |c12
        ·skip
         have hnn:0≤fdR R P Q:=of_decide_eq_true c12
         obtain⟨hf1,hf2,hf3⟩:=hW.al hnn
         rw[c12]
         refine ch ?_
         refine zd ?_ (h:=fun Z=>ab (xs:=[(.sl 3 0 R.length:A)]) Z bp rfl (by decide) rfl)
         refine zd ?_ (h:=fun Z=>ag Z (bV R (by omega)) (ac (ArgV.reg _ _ _ (s:=1) (by simp [isl]) (by exact List.take_of_length_le (by simp [isl]))) an) (bi (congrArg Value.bool c8)))
         refine zd ?_ (h:=fun Z=>bn Z vt (bS (c:=true) rfl))
         refine zdm ?_
         refine zdg ?_ (h:=fun Z=>aG rfl rfl (by decide) rfl Z)
         refine zdg ?_ (h:=fun Z=>aG rfl rfl (by decide) rfl Z)
         refine zd ?_ (h:=fun Z=>au Z vt xc)
         refine zdm ?_
         refine zdg ?_ (h:=fun Z=>ae rfl rfl (mt Z))
         refine zdg ?_ (h:=fun Z=>ae rfl rfl (aa Z vt vc (fv (c:=false) c11)))
         refine zdg ?_ (h:=fun Z=>ae rfl rfl (mt Z))
         refine zdg ?_ (h:=fun Z=>ae rfl rfl (mt Z))
         refine zdg ?_ (h:=fun Z=>ae rfl rfl (ar Z vt xt))
         refine zd ?_ (h:=fun Z=>au Z vt xt)
         refine zdm ?_
         refine zdg ?_ (h:=fun Z=>ae rfl rfl (ab (xs:=[(.sl 3 0 R.length:A)]) Z bp rfl (by decide) rfl))
         refine zdg ?_ (h:=fun Z=>ae rfl rfl (mt Z))
         refine zdg ?_ (h:=fun Z=>ae rfl rfl (aK (d:=101) (f:=29) (os:=[(.o 3,some (.o ⟨3,1,true,pl (isl R)⟩))]) (os':=[(.o 3,some (.o ⟨3,1,true,pl (isl R)⟩)),(.o 23,some (.o ⟨3,1,true,pl (isl (fnR R P))⟩))]) (r:=V.b (.a (.sl 23 0 ((fnR R P).length)))) (bs:=[.agg [(.sl 3 0 R.length:A)],.a (.slv P.length 3 (dsl P))]) (keep:=[3]) (new:=[23]) (dead:=[]) Z (FnO.ren' (dP R P (by omega) (by omega)) (aX [(800,3),(900,23)]) rfl rfl (by kernel_rfl) (by kernel_rfl) ⟨bh (fun _=>rfl),bh (fun _=>rfl),trivial⟩ (by kernel_rfl) rfl (by simp only[bv,Ob.ren,aY,ak,am,aj,aO,aN];first |done |rfl) (by simp only[bv,Ob.ren,aY,ak,am,aj,aO,aN];first |done |rfl) rfl rfl) (by kernel_rfl) ⟨bh (fun _=>rfl),bh (fun _=>rfl),trivial⟩ (by kernel_rfl) (ArgOs.cons (ArgO.slot 99 (.agg [(.sl 3 0 R.length:A)])) (ArgOs.cons (ArgO.slot 100 (.a (.slv P.length 3 (dsl P)))) (ArgOs.nil)))))
         refine zdg ?_ (h:=fun Z=>ae rfl rfl (ab (xs:=[(.sl 3 0 R.length:A)]) Z bp rfl (by decide) rfl))
         refine zdg ?_ (h:=fun Z=>ae rfl rfl (mt Z))
         refine zdg ?_ (h:=fun Z=>ae rfl rfl (aK (d:=104) (f:=30) (os:=[(.o 3,some (.o ⟨3,1,true,pl (isl R)⟩))]) (os':=[(.o 3,some (.o ⟨3,1,true,pl (isl R)⟩))]) (r:=V.v (.int .i64 (ixT (ltR R) Q))) (bs:=[.agg [(.sl 3 0 R.length:A)],.a (.slv Q.length 3 (dsl Q))]) (keep:=[3]) (new:=[]) (dead:=[]) Z (FnO.ren' (ek R Q (by omega) (by omega)) (aX [(800,3)]) rfl rfl (by kernel_rfl) (by kernel_rfl) ⟨bh (fun _=>rfl),trivial⟩ (by kernel_rfl) rfl (by simp only[bv,Ob.ren,aY,ak,am,aj,aO,aN];first |done |rfl) (by simp only[bv,Ob.ren,aY,ak,am,aj,aO,aN];first |done |rfl) rfl rfl) (by kernel_rfl) ⟨bh (fun _=>rfl),trivial⟩ (by kernel_rfl) (ArgOs.cons (ArgO.slot 102 (.agg [(.sl 3 0 R.length:A)])) (ArgOs.cons (ArgO.slot 103 (.a (.slv Q.length 3 (dsl Q)))) (ArgOs.nil)))))
         refine zdg ?_ (h:=fun Z=>ae rfl rfl (ag Z (fQ (fnR R P) (ixT (ltR R) Q) (by omega)) (ac (ci (by exact dl _)) (ac (ArgV.v vt) an)) rv))
         refine zdg ?_ (h:=fun Z=>ae rfl rfl (mt Z))
         refine zdg ?_ (h:=fun Z=>ae rfl rfl (aa Z vt vc (ct rfl)))
         refine zdg ?_ (h:=fun Z=>ae rfl rfl (aa Z vt vt (jx (c:=(decide ((decide ((ixT (ltR R) Q)∈(fnR R P)))=decide ((fdR R P Q)=1)))) fZ rfl)))
         refine zd ?_ (h:=fun Z=>au Z vt xt)
         refine zd ?_ (h:=fun Z=>gt Z)
         refine bG (aC ?_)
         exact VRes.tmp _ _ _ (by exact rfl) (ce (congrArg Value.bool (by exact hk6)))
        ·skip
         have hng:¬0≤fdR R P Q:=of_decide_eq_false c12
         rw[c12]
         refine ch ?_
         refine zd ?_ (h:=fun Z=>ab (xs:=[(.sl 3 0 R.length:A)]) Z bp rfl (by decide) rfl)
         refine zd ?_ (h:=fun Z=>ag Z (bV R (by omega)) (ac (ArgV.reg _ _ _ (s:=1) (by simp [isl]) (by exact List.take_of_length_le (by simp [isl]))) an) (bi (congrArg Value.bool c8)))
         refine zd ?_ (h:=fun Z=>bn Z vt (bS (c:=true) rfl))
         refine zdm ?_
         refine zdg ?_ (h:=fun Z=>aG rfl rfl (by decide) rfl Z)
         refine zdg ?_ (h:=fun Z=>aG rfl rfl (by decide) rfl Z)
         refine zd ?_ (h:=fun Z=>au Z vt xc)
         refine zdm ?_
         refine zdg ?_ (h:=fun Z=>ae rfl rfl (mt Z))
         refine zdg ?_ (h:=fun Z=>ae rfl rfl (aa Z vt vc (fv (c:=false) c11)))
         refine zdg ?_ (h:=fun Z=>ae rfl rfl (mt Z))
         refine zdg ?_ (h:=fun Z=>ae rfl rfl (mt Z))
         refine zdg ?_ (h:=fun Z=>ae rfl rfl (ar Z vt xt))
         refine zd ?_ (h:=fun Z=>au Z vt xt)
         refine zdm ?_
         refine zdg ?_ (h:=fun Z=>aG rfl rfl (by decide) rfl Z)
         refine zdg ?_ (h:=fun Z=>aG rfl rfl (by decide) rfl Z)
         refine zdg ?_ (h:=fun Z=>aG rfl rfl (by decide) rfl Z)
         refine zdg ?_ (h:=fun Z=>aG rfl rfl (by decide) rfl Z)
         refine zdg ?_ (h:=fun Z=>aG rfl rfl (by decide) rfl Z)
         refine zdg ?_ (h:=fun Z=>aG rfl rfl (by decide) rfl Z)
         refine zdg ?_ (h:=fun Z=>aG rfl rfl (by decide) rfl Z)
         refine zdg ?_ (h:=fun Z=>aG rfl rfl (by decide) rfl Z)
         refine zdg ?_ (h:=fun Z=>aG rfl rfl (by decide) rfl Z)
         refine zdg ?_ (h:=fun Z=>aG rfl rfl (by decide) rfl Z)
         refine zd ?_ (h:=fun Z=>ar Z vt xc)
         refine zd ?_ (h:=fun Z=>gt Z)
         refine bG (aC ?_)
         exact VRes.tmp _ _ _ (by exact rfl) (ce (congrArg Value.bool (by(exfalso;omega))))
    ·skip
     rw[c4]
     refine rg (zm ?_)
     refine z ?_ (h:=fun Z=>lnS Z jw)
     refine zm ?_
     refine z ?_ (h:=fun Z=>aa Z vt vt (fv (c:=false) c3))
     refine zm ?_
     refine zg ?_ (h:=fun Z=>ae rfl rfl (mt Z))
     refine zg ?_ (h:=fun Z=>ae rfl rfl (bn Z vt (bS (c:=true) rfl)))
     refine z ?_ (h:=fun Z=>ar Z vt xt)
     refine zm (zo (zo (zo (zo ?_))))
     refine z ?_ (h:=fun Z=>au Z vt xc)
     refine nl (wt (sq (rg (zk (nl (aC ?_))))))
     exact VRes.tmp _ _ _ (by exact rfl) (ce (congrArg Value.bool (by exact absurd (hf2.symm.trans (by assumption)) (by decide))))
  ·skip
   have hng:¬0≤fdR R P Q:=of_decide_eq_false c2
   refine sk (sq ?_)
   rcases Bool.eq_false_or_eq_true ((ms R))with c13 |c13
   ·skip
    have hsp:=hW.si c13
    rcases Bool.eq_false_or_eq_true (decide ((prN (lkM (ltR R)) (ltR R).length)=1))with c14 |c14
    ·skip
     have c14P:=of_decide_eq_true c14
     have hok:=hW.ok (of_decide_eq_true c14)
     rcases Bool.eq_false_or_eq_true ((fwB (fdR R P Q)))with c15 |c15
     ·skip
      have hnn:0≤fdR R P Q:=of_decide_eq_true c15
      obtain⟨hf1,hf2,hf3⟩:=hW.al hnn
      rw[c15]
      refine ch ?_
      refine zd ?_ (h:=fun Z=>ab (xs:=[(.sl 3 0 R.length:A)]) Z bp rfl (by decide) rfl)
      refine zd ?_ (h:=fun Z=>ag Z (bV R (by omega)) (ac (ArgV.reg _ _ _ (s:=1) (by simp [isl]) (by exact List.take_of_length_le (by simp [isl]))) an) (bi (congrArg Value.bool c13)))
      refine zd ?_ (h:=fun Z=>bn Z vt (bS (c:=false) rfl))
      refine zdm ?_
      refine zdg ?_ (h:=fun Z=>ae rfl rfl (mt Z))
      refine zdg ?_ (h:=fun Z=>ae rfl rfl (aa Z vt vc (ct (c:=true) c14)))
      refine zd ?_ (h:=fun Z=>ar Z vt xt)
      refine zdm ?_
      refine zdg ?_ (h:=fun Z=>ae rfl rfl (mt Z))
      refine zdg ?_ (h:=fun Z=>ae rfl rfl (aa Z vt vc (fv (c:=false) (rK (p:=(prN (lkM (ltR R)) (ltR R).length)≠1) (by omega) c14))))
      refine zdg ?_ (h:=fun Z=>ae rfl rfl (mt Z))
      refine zdg ?_ (h:=fun Z=>ae rfl rfl (mt Z))
      refine zdg ?_ (h:=fun Z=>ae rfl rfl (ar Z vt xt))
      refine zd ?_ (h:=fun Z=>au Z vt xt)
      refine zdm ?_
      refine zdg ?_ (h:=fun Z=>ae rfl rfl (ab (xs:=[(.sl 3 0 R.length:A)]) Z bp rfl (by decide) rfl))
      refine zdg ?_ (h:=fun Z=>ae rfl rfl (mt Z))
      refine zdg ?_ (h:=fun Z=>ae rfl rfl (aK (d:=101) (f:=29) (os:=[(.o 3,some (.o ⟨3,1,true,pl (isl R)⟩))]) (os':=[(.o 3,some (.o ⟨3,1,true,pl (isl R)⟩)),(.o 23,some (.o ⟨3,1,true,pl (isl (fnR R P))⟩))]) (r:=V.b (.a (.sl 23 0 ((fnR R P).length)))) (bs:=[.agg [(.sl 3 0 R.length:A)],.a (.slv P.length 3 (dsl P))]) (keep:=[3]) (new:=[23]) (dead:=[]) Z (FnO.ren' (dP R P (by omega) (by omega)) (aX [(800,3),(900,23)]) rfl rfl (by kernel_rfl) (by kernel_rfl) ⟨bh (fun _=>rfl),bh (fun _=>rfl),trivial⟩ (by kernel_rfl) rfl (by simp only[bv,Ob.ren,aY,ak,am,aj,aO,aN];first |done |rfl) (by simp only[bv,Ob.ren,aY,ak,am,aj,aO,aN];first |done |rfl) rfl rfl) (by kernel_rfl) ⟨bh (fun _=>rfl),bh (fun _=>rfl),trivial⟩ (by kernel_rfl) (ArgOs.cons (ArgO.slot 99 (.agg [(.sl 3 0 R.length:A)])) (ArgOs.cons (ArgO.slot 100 (.a (.slv P.length 3 (dsl P)))) (ArgOs.nil)))))
      refine zdg ?_ (h:=fun Z=>ae rfl rfl (ab (xs:=[(.sl 3 0 R.length:A)]) Z bp rfl (by decide) rfl))
      refine zdg ?_ (h:=fun Z=>ae rfl rfl (mt Z))
      refine zdg ?_ (h:=fun Z=>ae rfl rfl (aK (d:=104) (f:=30) (os:=[(.o 3,some (.o ⟨3,1,true,pl (isl R)⟩))]) (os':=[(.o 3,some (.o ⟨3,1,true,pl (isl R)⟩))]) (r:=V.v (.int .i64 (ixT (ltR R) Q))) (bs:=[.agg [(.sl 3 0 R.length:A)],.a (.slv Q.length 3 (dsl Q))]) (keep:=[3]) (new:=[]) (dead:=[]) Z (FnO.ren' (ek R Q (by omega) (by omega)) (aX [(800,3)]) rfl rfl (by kernel_rfl) (by kernel_rfl) ⟨bh (fun _=>rfl),trivial⟩ (by kernel_rfl) rfl (by simp only[bv,Ob.ren,aY,ak,am,aj,aO,aN];first |done |rfl) (by simp only[bv,Ob.ren,aY,ak,am,aj,aO,aN];first |done |rfl) rfl rfl) (by kernel_rfl) ⟨bh (fun _=>rfl),trivial⟩ (by kernel_rfl) (ArgOs.cons (ArgO.slot 102 (.agg [(.sl 3 0 R.length:A)])) (ArgOs.cons (ArgO.slot 103 (.a (.slv Q.length 3 (dsl Q)))) (ArgOs.nil)))))
      refine zdg ?_ (h:=fun Z=>ae rfl rfl (ag Z (fQ (fnR R P) (ixT (ltR R) Q) (by omega)) (ac (ci (by exact dl _)) (ac (ArgV.v vt) an)) rv))
      refine zdg ?_ (h:=fun Z=>ae rfl rfl (mt Z))
      refine zdg ?_ (h:=fun Z=>ae rfl rfl (aa Z vt vc (ct rfl)))
      refine zdg ?_ (h:=fun Z=>ae rfl rfl (aa Z vt vt (jx (c:=(decide ((decide ((ixT (ltR R) Q)∈(fnR R P)))=decide ((fdR R P Q)=1)))) fZ rfl)))
      refine zd ?_ (h:=fun Z=>au Z vt xt)
      refine zd ?_ (h:=fun Z=>gt Z)
      refine bG (aC ?_)
      exact VRes.tmp _ _ _ (by exact rfl) (ce (congrArg Value.bool (by exact hk6)))
     ·skip
      have hng:¬0≤fdR R P Q:=of_decide_eq_false c15
      rw[c15]
      refine ch ?_
      refine zd ?_ (h:=fun Z=>ab (xs:=[(.sl 3 0 R.length:A)]) Z bp rfl (by decide) rfl)
      refine zd ?_ (h:=fun Z=>ag Z (bV R (by omega)) (ac (ArgV.reg _ _ _ (s:=1) (by simp [isl]) (by exact List.take_of_length_le (by simp [isl]))) an) (bi (congrArg Value.bool c13)))
      refine zd ?_ (h:=fun Z=>bn Z vt (bS (c:=false) rfl))
      refine zdm ?_
      refine zdg ?_ (h:=fun Z=>ae rfl rfl (mt Z))
      refine zdg ?_ (h:=fun Z=>ae rfl rfl (aa Z vt vc (ct (c:=true) c14)))
      refine zd ?_ (h:=fun Z=>ar Z vt xt)
      refine zdm ?_
      refine zdg ?_ (h:=fun Z=>ae rfl rfl (mt Z))
      refine zdg ?_ (h:=fun Z=>ae rfl rfl (aa Z vt vc (fv (c:=false) (rK (p:=(prN (lkM (ltR R)) (ltR R).length)≠1) (by omega) c14))))
      refine zdg ?_ (h:=fun Z=>ae rfl rfl (mt Z))
      refine zdg ?_ (h:=fun Z=>ae rfl rfl (mt Z))
      refine zdg ?_ (h:=fun Z=>ae rfl rfl (ar Z vt xt))
      refine zd ?_ (h:=fun Z=>au Z vt xt)
      refine zdm ?_
      refine zdg ?_ (h:=fun Z=>aG rfl rfl (by decide) rfl Z)
      refine zdg ?_ (h:=fun Z=>aG rfl rfl (by decide) rfl Z)
      refine zdg ?_ (h:=fun Z=>aG rfl rfl (by decide) rfl Z)
      refine zdg ?_ (h:=fun Z=>aG rfl rfl (by decide) rfl Z)
      refine zdg ?_ (h:=fun Z=>aG rfl rfl (by decide) rfl Z)
      refine zdg ?_ (h:=fun Z=>aG rfl rfl (by decide) rfl Z)
      refine zdg ?_ (h:=fun Z=>aG rfl rfl (by decide) rfl Z)
      refine zdg ?_ (h:=fun Z=>aG rfl rfl (by decide) rfl Z)
      refine zdg ?_ (h:=fun Z=>aG rfl rfl (by decide) rfl Z)
      refine zdg ?_ (h:=fun Z=>aG rfl rfl (by decide) rfl Z)
      refine zd ?_ (h:=fun Z=>ar Z vt xc)
      refine zd ?_ (h:=fun Z=>gt Z)
      refine bG (aC ?_)
      exact VRes.tmp _ _ _ (by exact rfl) (ce (congrArg Value.bool (by(exfalso;omega))))
    ·skip
     have c14P:=of_decide_eq_false c14
     refine ch ?_
     refine zd ?_ (h:=fun Z=>ab (xs:=[(.sl 3 0 R.length:A)]) Z bp rfl (by decide) rfl)
     refine zd ?_ (h:=fun Z=>ag Z (bV R (by omega)) (ac (ArgV.reg _ _ _ (s:=1) (by simp [isl]) (by exact List.take_of_length_le (by simp [isl]))) an) (bi (congrArg Value.bool c13)))
     refine zd ?_ (h:=fun Z=>bn Z vt (bS (c:=false) rfl))
     refine zdm ?_
     refine zdg ?_ (h:=fun Z=>ae rfl rfl (mt Z))
     refine zdg ?_ (h:=fun Z=>ae rfl rfl (aa Z vt vc (ct (c:=false) c14)))
     refine zd ?_ (h:=fun Z=>ar Z vt xt)
     refine zdm ?_
     refine zdg ?_ (h:=fun Z=>aG rfl rfl (by decide) rfl Z)
     refine zdg ?_ (h:=fun Z=>aG rfl rfl (by decide) rfl Z)
     refine zdg ?_ (h:=fun Z=>vF rfl rfl (by decide) rfl Z)
     refine zdg ?_ (h:=fun Z=>vG rfl rfl rfl Z)
     refine zdg ?_ (h:=fun Z=>aG rfl rfl (by decide) rfl Z)
     refine zd ?_ (h:=fun Z=>ar Z vt xc)
     refine zdm ?_
     refine zdg ?_ (h:=fun Z=>aG rfl rfl (by decide) rfl Z)
     refine zdg ?_ (h:=fun Z=>aG rfl rfl (by decide) rfl Z)
     refine zdg ?_ (h:=fun Z=>aG rfl rfl (by decide) rfl Z)
     refine zdg ?_ (h:=fun Z=>aG rfl rfl (by decide) rfl Z)
     refine zdg ?_ (h:=fun Z=>aG rfl rfl (by decide) rfl Z)
     refine zdg ?_ (h:=fun Z=>aG rfl rfl (by decide) rfl Z)
     refine zdg ?_ (h:=fun Z=>aG rfl rfl (by decide) rfl Z)
     refine zdg ?_ (h:=fun Z=>aG rfl rfl (by decide) rfl Z)
     refine zdg ?_ (h:=fun Z=>aG rfl rfl (by decide) rfl Z)
     refine zdg ?_ (h:=fun Z=>aG rfl rfl (by decide) rfl Z)
     refine zd ?_ (h:=fun Z=>ar Z vt xc)
     refine zd ?_ (h:=fun Z=>gt Z)
     refine bG (aC ?_)
     exact VRes.tmp _ _ _ (by exact rfl) (ce (congrArg Value.bool (by(exfalso;omega))))
   ·skip
    rcases Bool.eq_false_or_eq_true (decide ((prN (lkM (ltR R)) (ltR R).length)≠1))with c16 |c16
    ·skip
     have c16P:=of_decide_eq_true c16
     refine ch ?_
     refine zd ?_ (h:=fun Z=>ab (xs:=[(.sl 3 0 R.length:A)]) Z bp rfl (by decide) rfl)
     refine zd ?_ (h:=fun Z=>ag Z (bV R (by omega)) (ac (ArgV.reg _ _ _ (s:=1) (by simp [isl]) (by exact List.take_of_length_le (by simp [isl]))) an) (bi (congrArg Value.bool c13)))
     refine zd ?_ (h:=fun Z=>bn Z vt (bS (c:=true) rfl))
     refine zdm ?_
     refine zdg ?_ (h:=fun Z=>aG rfl rfl (by decide) rfl Z)
     refine zdg ?_ (h:=fun Z=>aG rfl rfl (by decide) rfl Z)
     refine zd ?_ (h:=fun Z=>au Z vt xc)
     refine zdm ?_
     refine zdg ?_ (h:=fun Z=>ae rfl rfl (mt Z))
     refine zdg ?_ (h:=fun Z=>ae rfl rfl (aa Z vt vc (fv (c:=true) c16)))
     refine zdg ?_ (h:=fun Z=>ae rfl rfl (mt Z))
     refine zdg ?_ (h:=fun Z=>aG rfl rfl (by decide) rfl Z)
     refine zdg ?_ (h:=fun Z=>ae rfl rfl (au Z vt xc))
     refine zd ?_ (h:=fun Z=>au Z vt xt)
     refine zdm ?_
     refine zdg ?_ (h:=fun Z=>ae rfl rfl (ab (xs:=[(.sl 3 0 R.length:A)]) Z bp rfl (by decide) rfl))
     refine zdg ?_ (h:=fun Z=>ae rfl rfl (mt Z))
     refine zdg ?_ (h:=fun Z=>ae rfl rfl (aK (d:=101) (f:=29) (os:=[(.o 3,some (.o ⟨3,1,true,pl (isl R)⟩))]) (os':=[(.o 3,some (.o ⟨3,1,true,pl (isl R)⟩)),(.o 23,some (.o ⟨3,1,true,pl (isl (fnR R P))⟩))]) (r:=V.b (.a (.sl 23 0 ((fnR R P).length)))) (bs:=[.agg [(.sl 3 0 R.length:A)],.a (.slv P.length 3 (dsl P))]) (keep:=[3]) (new:=[23]) (dead:=[]) Z (FnO.ren' (dP R P (by omega) (by omega)) (aX [(800,3),(900,23)]) rfl rfl (by kernel_rfl) (by kernel_rfl) ⟨bh (fun _=>rfl),bh (fun _=>rfl),trivial⟩ (by kernel_rfl) rfl (by simp only[bv,Ob.ren,aY,ak,am,aj,aO,aN];first |done |rfl) (by simp only[bv,Ob.ren,aY,ak,am,aj,aO,aN];first |done |rfl) rfl rfl) (by kernel_rfl) ⟨bh (fun _=>rfl),bh (fun _=>rfl),trivial⟩ (by kernel_rfl) (ArgOs.cons (ArgO.slot 99 (.agg [(.sl 3 0 R.length:A)])) (ArgOs.cons (ArgO.slot 100 (.a (.slv P.length 3 (dsl P)))) (ArgOs.nil)))))
     refine zdg ?_ (h:=fun Z=>ae rfl rfl (ab (xs:=[(.sl 3 0 R.length:A)]) Z bp rfl (by decide) rfl))
     refine zdg ?_ (h:=fun Z=>ae rfl rfl (mt Z))
     refine zdg ?_ (h:=fun Z=>ae rfl rfl (aK (d:=104) (f:=30) (os:=[(.o 3,some (.o ⟨3,1,true,pl (isl R)⟩))]) (os':=[(.o 3,some (.o ⟨3,1,true,pl (isl R)⟩))]) (r:=V.v (.int .i64 (ixT (ltR R) Q))) (bs:=[.agg [(.sl 3 0 R.length:A)],.a (.slv Q.length 3 (dsl Q))]) (keep:=[3]) (new:=[]) (dead:=[]) Z (FnO.ren' (ek R Q (by omega) (by omega)) (aX [(800,3)]) rfl rfl (by kernel_rfl) (by kernel_rfl) ⟨bh (fun _=>rfl),trivial⟩ (by kernel_rfl) rfl (by simp only[bv,Ob.ren,aY,ak,am,aj,aO,aN];first |done |rfl) (by simp only[bv,Ob.ren,aY,ak,am,aj,aO,aN];first |done |rfl) rfl rfl) (by kernel_rfl) ⟨bh (fun _=>rfl),trivial⟩ (by kernel_rfl) (ArgOs.cons (ArgO.slot 102 (.agg [(.sl 3 0 R.length:A)])) (ArgOs.cons (ArgO.slot 103 (.a (.slv Q.length 3 (dsl Q)))) (ArgOs.nil)))))
     refine zdg ?_ (h:=fun Z=>ae rfl rfl (ag Z (fQ (fnR R P) (ixT (ltR R) Q) (by omega)) (ac (ci (by exact dl _)) (ac (ArgV.v vt) an)) rv))
     refine zdg ?_ (h:=fun Z=>ae rfl rfl (mt Z))
     refine zdg ?_ (h:=fun Z=>ae rfl rfl (aa Z vt vc (ct rfl)))
     refine zdg ?_ (h:=fun Z=>ae rfl rfl (aa Z vt vt (jx (c:=(decide ((decide ((ixT (ltR R) Q)∈(fnR R P)))=decide ((fdR R P Q)=1)))) fZ rfl)))
     refine zd ?_ (h:=fun Z=>au Z vt xt)
     refine zd ?_ (h:=fun Z=>gt Z)
     refine bG (aC ?_)
     exact VRes.tmp _ _ _ (by exact rfl) (ce (congrArg Value.bool (by exact hk6)))
    ·skip
     have c16P:=of_decide_eq_false c16
     have hok:=hW.ok (Decidable.not_not.1 (of_decide_eq_false c16))
     rcases Bool.eq_false_or_eq_true ((fwB (fdR R P Q)))with c17 |c17
     ·skip
      have hnn:0≤fdR R P Q:=of_decide_eq_true c17
      obtain⟨hf1,hf2,hf3⟩:=hW.al hnn
      rw[c17]
      refine ch ?_
      refine zd ?_ (h:=fun Z=>ab (xs:=[(.sl 3 0 R.length:A)]) Z bp rfl (by decide) rfl)
      refine zd ?_ (h:=fun Z=>ag Z (bV R (by omega)) (ac (ArgV.reg _ _ _ (s:=1) (by simp [isl]) (by exact List.take_of_length_le (by simp [isl]))) an) (bi (congrArg Value.bool c13)))
      refine zd ?_ (h:=fun Z=>bn Z vt (bS (c:=true) rfl))
      refine zdm ?_
      refine zdg ?_ (h:=fun Z=>aG rfl rfl (by decide) rfl Z)
      refine zdg ?_ (h:=fun Z=>aG rfl rfl (by decide) rfl Z)
      refine zd ?_ (h:=fun Z=>au Z vt xc)
      refine zdm ?_
      refine zdg ?_ (h:=fun Z=>ae rfl rfl (mt Z))
      refine zdg ?_ (h:=fun Z=>ae rfl rfl (aa Z vt vc (fv (c:=false) c16)))
      refine zdg ?_ (h:=fun Z=>ae rfl rfl (mt Z))
      refine zdg ?_ (h:=fun Z=>ae rfl rfl (mt Z))
      refine zdg ?_ (h:=fun Z=>ae rfl rfl (ar Z vt xt))
      refine zd ?_ (h:=fun Z=>au Z vt xt)
      refine zdm ?_
      refine zdg ?_ (h:=fun Z=>ae rfl rfl (ab (xs:=[(.sl 3 0 R.length:A)]) Z bp rfl (by decide) rfl))
      refine zdg ?_ (h:=fun Z=>ae rfl rfl (mt Z))
      refine zdg ?_ (h:=fun Z=>ae rfl rfl (aK (d:=101) (f:=29) (os:=[(.o 3,some (.o ⟨3,1,true,pl (isl R)⟩))]) (os':=[(.o 3,some (.o ⟨3,1,true,pl (isl R)⟩)),(.o 23,some (.o ⟨3,1,true,pl (isl (fnR R P))⟩))]) (r:=V.b (.a (.sl 23 0 ((fnR R P).length)))) (bs:=[.agg [(.sl 3 0 R.length:A)],.a (.slv P.length 3 (dsl P))]) (keep:=[3]) (new:=[23]) (dead:=[]) Z (FnO.ren' (dP R P (by omega) (by omega)) (aX [(800,3),(900,23)]) rfl rfl (by kernel_rfl) (by kernel_rfl) ⟨bh (fun _=>rfl),bh (fun _=>rfl),trivial⟩ (by kernel_rfl) rfl (by simp only[bv,Ob.ren,aY,ak,am,aj,aO,aN];first |done |rfl) (by simp only[bv,Ob.ren,aY,ak,am,aj,aO,aN];first |done |rfl) rfl rfl) (by kernel_rfl) ⟨bh (fun _=>rfl),bh (fun _=>rfl),trivial⟩ (by kernel_rfl) (ArgOs.cons (ArgO.slot 99 (.agg [(.sl 3 0 R.length:A)])) (ArgOs.cons (ArgO.slot 100 (.a (.slv P.length 3 (dsl P)))) (ArgOs.nil)))))
      refine zdg ?_ (h:=fun Z=>ae rfl rfl (ab (xs:=[(.sl 3 0 R.length:A)]) Z bp rfl (by decide) rfl))
      refine zdg ?_ (h:=fun Z=>ae rfl rfl (mt Z))
      refine zdg ?_ (h:=fun Z=>ae rfl rfl (aK (d:=104) (f:=30) (os:=[(.o 3,some (.o ⟨3,1,true,pl (isl R)⟩))]) (os':=[(.o 3,some (.o ⟨3,1,true,pl (isl R)⟩))]) (r:=V.v (.int .i64 (ixT (ltR R) Q))) (bs:=[.agg [(.sl 3 0 R.length:A)],.a (.slv Q.length 3 (dsl Q))]) (keep:=[3]) (new:=[]) (dead:=[]) Z (FnO.ren' (ek R Q (by omega) (by omega)) (aX [(800,3)]) rfl rfl (by kernel_rfl) (by kernel_rfl) ⟨bh (fun _=>rfl),trivial⟩ (by kernel_rfl) rfl (by simp only[bv,Ob.ren,aY,ak,am,aj,aO,aN];first |done |rfl) (by simp only[bv,Ob.ren,aY,ak,am,aj,aO,aN];first |done |rfl) rfl rfl) (by kernel_rfl) ⟨bh (fun _=>rfl),trivial⟩ (by kernel_rfl) (ArgOs.cons (ArgO.slot 102 (.agg [(.sl 3 0 R.length:A)])) (ArgOs.cons (ArgO.slot 103 (.a (.slv Q.length 3 (dsl Q)))) (ArgOs.nil)))))
      refine zdg ?_ (h:=fun Z=>ae rfl rfl (ag Z (fQ (fnR R P) (ixT (ltR R) Q) (by omega)) (ac (ci (by exact dl _)) (ac (ArgV.v vt) an)) rv))
      refine zdg ?_ (h:=fun Z=>ae rfl rfl (mt Z))
      refine zdg ?_ (h:=fun Z=>ae rfl rfl (aa Z vt vc (ct rfl)))
      refine zdg ?_ (h:=fun Z=>ae rfl rfl (aa Z vt vt (jx (c:=(decide ((decide ((ixT (ltR R) Q)∈(fnR R P)))=decide ((fdR R P Q)=1)))) fZ rfl)))
      refine zd ?_ (h:=fun Z=>au Z vt xt)
      refine zd ?_ (h:=fun Z=>gt Z)
      refine bG (aC ?_)
      exact VRes.tmp _ _ _ (by exact rfl) (ce (congrArg Value.bool (by exact hk6)))
     ·skip
      have hng:¬0≤fdR R P Q:=of_decide_eq_false c17
      rw[c17]
      refine ch ?_
      refine zd ?_ (h:=fun Z=>ab (xs:=[(.sl 3 0 R.length:A)]) Z bp rfl (by decide) rfl)
      refine zd ?_ (h:=fun Z=>ag Z (bV R (by omega)) (ac (ArgV.reg _ _ _ (s:=1) (by simp [isl]) (by exact List.take_of_length_le (by simp [isl]))) an) (bi (congrArg Value.bool c13)))
      refine zd ?_ (h:=fun Z=>bn Z vt (bS (c:=true) rfl))
      refine zdm ?_
      refine zdg ?_ (h:=fun Z=>aG rfl rfl (by decide) rfl Z)
      refine zdg ?_ (h:=fun Z=>aG rfl rfl (by decide) rfl Z)
      refine zd ?_ (h:=fun Z=>au Z vt xc)
      refine zdm ?_
      refine zdg ?_ (h:=fun Z=>ae rfl rfl (mt Z))
      refine zdg ?_ (h:=fun Z=>ae rfl rfl (aa Z vt vc (fv (c:=false) c16)))
      refine zdg ?_ (h:=fun Z=>ae rfl rfl (mt Z))
      refine zdg ?_ (h:=fun Z=>ae rfl rfl (mt Z))
      refine zdg ?_ (h:=fun Z=>ae rfl rfl (ar Z vt xt))
      refine zd ?_ (h:=fun Z=>au Z vt xt)
      refine zdm ?_
      refine zdg ?_ (h:=fun Z=>aG rfl rfl (by decide) rfl Z)
      refine zdg ?_ (h:=fun Z=>aG rfl rfl (by decide) rfl Z)
      refine zdg ?_ (h:=fun Z=>aG rfl rfl (by decide) rfl Z)
      refine zdg ?_ (h:=fun Z=>aG rfl rfl (by decide) rfl Z)
      refine zdg ?_ (h:=fun Z=>aG rfl rfl (by decide) rfl Z)
      refine zdg ?_ (h:=fun Z=>aG rfl rfl (by decide) rfl Z)
      refine zdg ?_ (h:=fun Z=>aG rfl rfl (by decide) rfl Z)
      refine zdg ?_ (h:=fun Z=>aG rfl rfl (by decide) rfl Z)
      refine zdg ?_ (h:=fun Z=>aG rfl rfl (by decide) rfl Z)
      refine zdg ?_ (h:=fun Z=>aG rfl rfl (by decide) rfl Z)
      refine zd ?_ (h:=fun Z=>ar Z vt xc)
      refine zd ?_ (h:=fun Z=>gt Z)
      refine bG (aC ?_)
      exact VRes.tmp _ _ _ (by exact rfl) (ce (congrArg Value.bool (by(exfalso;omega))))
end Cl
end Go.Proofs.YtgmkkfdnmdohlaaGreatDoor
