/- Walks. -/
import Derived.Test.YtonlghbbdcddoaaGreatCN
import Derived.Test.YtonlghbbdcddoaaGreatClB
set_option maxHeartbeats 4000000
set_option maxRecDepth 100000
namespace Go.Proofs.YtonlghbbdcddoaaGreat
namespace Cl
open Go.ChangeShapes Go.WideShapes Go.ChangeAt Go.RowKit
theorem GD {t:Nat} (h:t<4):gC [(⟨1,0⟩:Cel),⟨-1,0⟩,⟨0,1⟩,⟨0, -1⟩] t=⟨(aL t).1,(aL t).2⟩:=by
 have:t=0∨t=1∨t=2∨t=3:=by omega
 rcases this with rfl |rfl |rfl |rfl<;>rfl
theorem Ew {z:Int} (h: -1000≤z∧z≤1000):IntKind.i64.wrap z=z:=w64 (by omega) (by omega)
theorem Md {u t:Nat} (hu:u<81) (ht:t<4):IntKind.i64.wrap (cX u+(gC [(⟨1,0⟩:Cel),(⟨(-1),0⟩:Cel),(⟨0,1⟩:Cel),(⟨0,(-1)⟩:Cel)] t).x)=bX aL u t:=by
 rw[GD ht];exact Ew (z:=bX aL u t) (by have:=(Bz kk hu t).1;omega)
theorem Me {u t:Nat} (hu:u<81) (ht:t<4):IntKind.i64.wrap (cY u+(gC [(⟨1,0⟩:Cel),(⟨(-1),0⟩:Cel),(⟨0,1⟩:Cel),(⟨0,(-1)⟩:Cel)] t).y)=bY aL u t:=by
 rw[GD ht];exact Ew (z:=bY aL u t) (by have:=(Bz kk hu t).2;omega)
theorem qapp {Q:List Int} {M:List Nat} {o k w:Nat} {z:Int} (h:Q.drop o=(nI M).drop (k+1)) (hk:k+1≤M.length) (hz:z=((w:Nat):Int)):(Q.drop o++[z]).drop 0=(nI (M++[w])).drop (k+1):=by
 subst hz;rw[←BX];exact zN h (by rw[mR];exact hk) _
theorem IC {s:Nat} {ds:List Dom} {p q:Cel} (h:(aP s p=false∧aP s q=false)∨(nbr p q=true∧decide (dOv p q∈ds)=true)):nu s ds p q=false:=by
 unfold nu
 rcases h with⟨h1,h2⟩ |⟨h1,h2⟩
 ·rw[h1,h2];rfl
 ·rw[h1,h2];simp
theorem Nu {s:Nat} {ds:List Dom} {p q:Cel} (h:aP s p=true∨aP s q=true) (h2:nbr p q=false∨decide (dOv p q∈ds)=false):nu s ds p q=true:=by
 unfold nu
 rcases h with h |h<;>rcases h2 with h2 |h2<;>rw[h,h2]<;>simp
theorem Lb {s:Nat} {p q:Cel} (h:(!(aP s p))=false∨(!(aP s q))=false):aP s p=true∨aP s q=true:=by simpa using h
theorem Lc {dir:Nat→Int × Int} (hd:∀ t,tg (dir t)) {l:List Int} {ds:List Dom} {L M:List Nat} {u t:Nat} (hM:HIn dir l ds L u t M) (hu:u<81) (h:decide (iX (cX u) (cY u) (bX dir u t) (bY dir u t)=0)=true∨decide (gI (hsL l ds M) (bY dir u t*9+bX dir u t).toNat≠ -1000)=true):HIn dir l ds L u (t+1) M:=by
 by_cases he:iX (cX u) (cY u) (bX dir u t) (bY dir u t)=0
 ·exact hM.skip (.inl (LV hd hu he))
 ·have hin:=(CI hd hu he).1
  rcases h with h |h
  ·exact absurd (of_decide_eq_true h) he
  ·exact hM.skip (.inr (.inl (Classical.not_not.1 fun hn=>of_decide_eq_true h ((hM.val (pP hin).1).2 hn))))
theorem HInv.at {dir:Nat→Int × Int} {l:List Int} {ds:List Dom} {L:List Nat} {k:Nat} (h:HInv dir l ds L k) (hk:k<L.length):gN L k∈L∧gN L k<81:=by
 rw[pK hk];exact⟨List.getElem_mem hk,h.lt _ (List.getElem_mem hk)⟩
theorem HIn.fin {dir:Nat→Int × Int} {l:List Int} {ds:List Dom} {L M:List Nat} {k t:Nat} (h:HInv dir l ds L k) (hk:k<L.length) (hM:HIn dir l ds L (gN L k) t M) (ht:t=4):HInv dir l ds M (k+1):=by
 subst ht;rw[pK hk]at hM;exact HIn.out h hk hM
theorem JW {l:List Int} {ds:List Dom} {L:List Nat} {k:Nat} {dir:Nat→Int × Int} (hd:dir=aL∨dir=uF) (h:HInv dir l ds L k) (hk:¬k<(nI L).length):hsL l ds L=cj l ds:=yw hd h (by rw[mR]at hk;exact hk)
theorem na:∀ (a b:Int),Tryz.prog.built 67 [(0,.int .i64 a),(1,.int .i64 b)]=some ([.int .i64 a,.int .i64 b]:List Value).toArray:=fun _ _=>rfl
theorem yZ:ce Tryz.prog 67 0=some 0:=by kernel_rfl
theorem zb:ce Tryz.prog 67 1=some 1:=by kernel_rfl
theorem kz:(Tryz.prog.info? 3).map (·.size)=some 1:=by kernel_rfl
theorem Cv:(Tryz.prog.info? 67).map (·.size)=some 2:=by kernel_rfl
theorem jn:TI Tryz.prog 26 true 1:=⟨⟨_,Tryz.underlying26,rfl⟩,by kernel_rfl⟩
theorem jo:TI Tryz.prog 3 false 1:=⟨⟨_,Tryz.underlying3,rfl⟩,by kernel_rfl⟩
theorem vA:TI Tryz.prog 54 true 3:=⟨⟨_,Tryz.underlying54,rfl⟩,by kernel_rfl⟩
theorem fC:TI Tryz.prog 67 true 2:=⟨⟨_,Tryz.underlying67,rfl⟩,by kernel_rfl⟩
theorem dY:Tryz.prog.underlying 24=some (.slice 3):=Tryz.underlying24
theorem qg:Tryz.prog.underlying 63=some (.slice 67):=Tryz.underlying63
theorem kA:ZI Tryz.prog 3 (.int .i64 0) 1 8:=by unfold ZI;kernel_rfl
theorem Cw:ZI Tryz.prog 54 (.agg #[.int .i64 0,.int .i64 0,.bool false]) 3 24:=by unfold ZI;kernel_rfl
theorem nc:ZI Tryz.prog 67 (.agg #[.int .i64 0,.int .i64 0]) 2 16:=by unfold ZI;kernel_rfl
theorem fa (l:List Int) (ds:List Dom) (hl:l.length≤4194304) (hd:ds.length≤2097152) (hg:(cu l&&ct l ds)=true):Fn Tryz.prog 35 [.agg [(.slv l.length 1 (isl l):A)],.a (.slv ds.length 3 (dsl ds))] [.row 3 1 (cj l ds).length (isl (cj l ds))]:=by
 have hg2:=hg
 rw[Bool.and_eq_true]at hg2
 obtain⟨hsi,hti⟩:=hg2
 have hro:=(dD hsi).1
 have hne:=qm hsi
 have hsl:=bb hro
 obtain⟨hf64,hfb⟩:=dr hsl hne
 have hstu:=zj hsl hne
 have hix:=dF hf64
 have hsl0:=ug l ds [stU (ag l)]
 refine aN (N:=152) Tryz.func35 rfl (by kernel_rfl) rfl (Nat.le_of_ble_eq_true rfl) [2,14,18,19,20,23,28,32,33,37,38,41,42,53,55,70,71,88,106,111,116,122,129,148,149] (dB rfl) (fun W=> ?_)
 show Wp _ _ _ [kV 0 (V.b (.agg [(.slv l.length 1 (isl l):A)])),kV 1 (V.b (.a (.slv ds.length 3 (dsl ds)))),kF 2,kF 14,kF 18,kF 19,kF 20,kF 23,kF 28,kF 32,kF 33,kF 37,kF 38,kF 41,kF 42,kF 53,kF 55,kF 70,kF 71,kF 88,kF 106,kF 111,kF 116,kF 122,kF 129,kF 148,kF 149]
 refine sq (rg ?_)
 refine z ?_ (h:=fun Z=>aM (h:=2) Z xt (by exact ob1 rfl))
 refine zk (nl (sq (sq (rg ?_))))
 refine z ?_ (h:=fun Z=>aa (xs:=[(.slv l.length 1 (isl l):A)]) Z jn rfl (by decide) rfl)
 refine z ?_ (h:=fun Z=>ah Z (dV l (by omega)) (ac (ArgV.regv _ _ 1 _) an) (aH (congrArg Value.bool hsi)))
 refine z ?_ (h:=fun Z=>aK Z vt (bE (c:=false) rfl))
 refine zm ?_
 refine zg ?_ (h:=fun Z=>ae rfl rfl (aa (xs:=[(.slv l.length 1 (isl l):A)]) Z jn rfl (by decide) rfl))
 refine zg ?_ (h:=fun Z=>ae rfl rfl (mt Z))
 refine zg ?_ (h:=fun Z=>ae rfl rfl (ah Z (lZ l ds (by omega) (by omega)) (ac (ArgV.regv _ _ 1 _) (ac (ArgV.slv _ _ _ _) an)) (aH (congrArg Value.bool hti))))
 refine zg ?_ (h:=fun Z=>ae rfl rfl (aK Z vt (bE (c:=false) rfl)))
 refine z ?_ (h:=fun Z=>ao Z vt xt)
 refine nl (wf (sk (sq (rg ?_))))
 refine z ?_ (h:=fun Z=>aa (xs:=[(.slv l.length 1 (isl l):A)]) Z jn rfl (by decide) rfl)
 refine z ?_ (h:=fun Z=>ah Z (cA l (by omega)) (ac (ArgV.regv _ _ 1 _) an) rv)
 refine z ?_ (h:=fun Z=>b0I (h:=33) Z dY kA)
 refine za (za (nl (sq (sq (rg ?_)))))
 refine z ?_ (h:=fun Z=>mc Z)
 refine nl (bkk ?_)
 refine bf (fun(i:Nat)=>i≤81) (fun(i:Nat)=>[kV 1 (V.b (.a (.slv ds.length 3 (dsl ds)))),kU 5 (((ag l):Nat):Int),kS 6 33 0 ((List.replicate i (-1000)).length),kI 34 ((i:Nat):Int),kO 33 3 1 true (pl (isl (List.replicate i (-1000)))),kF 2,kF 14,kF 18,kF 19,kF 20,kF 23,kF 28,kF 32,kF 37,kF 38,kF 41,kF 42,kF 53,kF 55,kF 70,kF 71,kF 88,kF 106,kF 111,kF 116,kF 122,kF 129,kF 148,kF 149]) (fun(i:Nat)=>81-i) ((0:Nat)) (by exact(Nat.zero_le _:0≤_)) (wkf id (wS<|wS<|wE (e:=(vsl (by rfl) rfl))<|wE (e:=(aO (by rfl)))<|wO (e:=aG (fun h=>h) (congrArg isl (by rfl)))<|by(iterate 24 refine wF ?_);exact wN)) ?_
 rintro i inv1
 replace inv1:i≤81:=inv1
 have inv1:=inv1
 have hrl:(List.replicate i (-1000:Int)).length=i:=List.length_replicate
 refine sq (rg ?_)
 refine z ?_ (h:=fun Z=>ab Z vt vc (bP rfl))
 refine nl (sq ?_)
 refine wi (fun c2=> ?_) (fun c2=> ?_)
 ·skip
  have c2P:=of_decide_eq_true c2
  refine sk (sq (bkk (rg (zm ?_))))
  refine z ?_ (h:=fun Z=>aR (h:=37) (xs:=isl ([(-1000)]:List Int)) Z dY kA (.cons vc OpVs.nil) (by decide) (by decide) (by kernel_rfl) rfl)
  refine z ?_ (h:=fun Z=>aI_ (h2:=38) (L3:=((List.replicate i (-1000))++[(-1000)])) Z dY kA (by exact rfl) rfl (by exact rfl) (by(simp;omega)))
  refine za (nl (rg ?_))
  refine z ?_ (h:=fun Z=>ab Z vt vc (rA (by omega) (by omega)))
  refine zm (nl ?_)
  exact ar ((i+1)) (by show _≤_;omega) (by show 81-(i+1)<81-i;omega) (wkf (bn [(33,38)]) (wS<|wS<|wE (e:=(vsl (by(simp;done)) rfl))<|wE (e:=(aO (by rfl)))<|wO (e:=aG (fun h=>h) (congrArg isl (by exact(Il _ _).symm)))<|by(iterate 24 refine wF ?_);exact wN))
 ·skip
  have c2P:=of_decide_eq_false c2
  refine aJ (sq (rg (zm ?_)))
  refine z ?_ (h:=fun Z=>ah Z (iQ (ag l) (by omega) (by omega)) (ac (ArgV.v vt) an) (ResV.agg [vI ((cN (au (ag l))).x),vI ((cN (au (ag l))).y)]))
  refine z ?_ (h:=fun Z=>ah Z (fS (cN (au (ag l))) (by exact fk hf64)) (ac (ArgV.va va) an) rv)
  refine za (nl (sq (rg (zm ?_))))
  refine z ?_ (h:=fun Z=>ab Z vt vc (vK (c:=((((idx (cN (au (ag l))))/8):Nat):Int)) (by decide) (quoN (a:=(((idx (cN (au (ag l)))):Nat):Int)) (b:=(idx (cN (au (ag l))))) (c:=8) rfl (by decide) (by omega))))
  refine z ?_ (h:=fun Z=>ab Z vt vc (rM (by omega) (by omega)))
  refine zm ?_
  refine z ?_ (h:=fun Z=>ab Z vt vc (rh (c:=((((idx (cN (au (ag l))))%8):Nat):Int)) (by decide) (remN (a:=(((idx (cN (au (ag l)))):Nat):Int)) (b:=(idx (cN (au (ag l))))) (c:=8) rfl)))
  refine z ?_ (h:=fun Z=>ab Z vt vt (rA (by omega) (by omega)))
  refine za (nl (sq (rg (zm (zm ?_)))))
  refine z ?_ (h:=fun Z=>ix0 (k:=((((idx (cN (au (ag l))))/8)*9)+((idx (cN (au (ag l))))%8))) Z dY kz vt (by rfl) (by omega))
  refine z ?_ (h:=fun _=>sI jo xc (by omega))
  refine nl (sq (sq (rg (zm ?_))))
  refine z ?_ (h:=fun Z=>aR (h:=53) (xs:=isl ([((((((idx (cN (au (ag l))))/8):Nat):Int)*9)+((((idx (cN (au (ag l))))%8):Nat):Int))]:List Int)) Z dY kA (.cons vt OpVs.nil) (by decide) (by decide) (by kernel_rfl) rfl)
  refine za (nl (bkk ?_))
  refine bf (fun((k,off,L,Lw):Nat × Nat × (List Nat) × (List Int))=>off≤Lw.length∧Lw.drop off=(nI L).drop k∧HInv aL l ds L k) (fun((k,off,L,Lw):Nat × Nat × (List Nat) × (List Int))=>[kV 1 (V.b (.a (.slv ds.length 3 (dsl ds)))),kU 5 (((ag l):Nat):Int),kS 6 33 0 ((hsL l ds L).length),kS 9 53 off (Lw.length-off),kO 33 3 1 true (pl (isl (hsL l ds L))),kO 53 3 1 false (pl (isl Lw)),kF 2,kF 14,kF 18,kF 19,kF 20,kF 23,kF 28,kF 32,kF 37,kF 38,kF 41,kF 42,kF 55,kF 70,kF 71,kF 88,kF 106,kF 111,kF 116,kF 122,kF 129,kF 148,kF 149]) (fun((k,off,L,Lw):Nat × Nat × (List Nat) × (List Int))=>81-k) ((0:Nat),(0:Nat),([stU (ag l)]:List Nat),([((stU (ag l):Nat):Int)]:List Int)) (by exact⟨Nat.zero_le _,rfl,HInv.init aL l ds hstu⟩) (wkf id (wS<|wS<|wE (e:=(vsl (by(simp;omega)) rfl))<|wE (e:=(vsl (by rfl) rfl))<|wO (e:=aG (fun h=>h) (congrArg isl (by((have e:i=81:=by omega);subst e;rw[hix];first |exact Ag l ds hstu |exact(Ag l ds hstu).symm))))<|wO (e:=aG (fun h=>by cases h) (congrArg isl (by(rw[hix];rfl))))<|by(iterate 23 refine wF ?_);exact wN)) ?_
  rintro⟨k,off,L,Lw⟩ inv3
  replace inv3:off≤Lw.length∧Lw.drop off=(nI L).drop k∧HInv aL l ds L k:=inv3
  obtain⟨inv3_0,inv3_1,inv3_2⟩:=inv3
  have hH:HInv aL l ds L k:=by assumption
  have hHl:=hH.len
  refine sq (sq (rg (zm ?_)))
  refine z ?_ (h:=fun Z=>lnS Z dY)
  refine z ?_ (h:=fun Z=>ab Z vt vc (oi rfl))
  refine nl ?_
  refine wi (fun c4=> ?_) (fun c4=> ?_)
  ·skip
   have c4P:=of_decide_eq_true c4
   have hdg:=EP (L:=Lw) (M:=nI L) (i:=off) (j:=k) (by assumption) (by omega)
   obtain⟨hk1,hown1⟩:=hdg
   have hnl:=mR L
   have hk2:k<L.length:=by omega
   have hown:gI Lw off=((gN L k:Nat):Int):=hown1.trans (GT hk2)
   have hownN:(gI Lw off).toNat=gN L k:=by rw[hown];rfl
   obtain⟨huL,hu81⟩:=hH.at hk2
   obtain⟨hcx,hcy⟩:=cXY hu81
   refine sk (bkk (sq (rg (zm ?_))))
   refine z ?_ (h:=fun Z=>ixz Z dY kz vc (by omega))
   refine z ?_ (h:=fun Z=>lI Z jo (by omega))
   refine za (nl (sq (rg (zm ?_))))
   refine z ?_ (h:=fun Z=>slS (m:=((Lw.length-off)-1)) (off':=(off+1)) Z dY kz (OpB.so _ 1 vc rfl) (OpB.no _) (by omega) (by omega) (by exact rfl) (by omega))
   refine za (nl (sq (rg (zm ?_))))
   refine z ?_ (h:=fun Z=>ab Z vt vc (rh (c:=(cX (gN L k))) (by omega) (remN hown)))
   refine zm ?_
   refine z ?_ (h:=fun Z=>ab Z vt vc (vK (c:=(cY (gN L k))) (by omega) (quoN hown (by decide) (by omega))))
   refine za (za (nl (sq (rg ?_))))
   refine z ?_ (h:=fun Z=>bC Z na vc vc)
   refine z ?_ (h:=fun Z=>bC Z na vc vc)
   refine z ?_ (h:=fun Z=>bC Z na vc vc)
   refine z ?_ (h:=fun Z=>bC Z na vc vc)
   refine z ?_ (h:=fun Z=>aR (h:=70) (xs:=csl ([(⟨1,0⟩:Cel),(⟨(-1),0⟩:Cel),(⟨0,1⟩:Cel),(⟨0,(-1)⟩:Cel)]:List Cel)) Z qg nc (.cons va (.cons va (.cons va (.cons va OpVs.nil)))) (by decide) (by decide) (by kernel_rfl) rfl)
   refine z ?_ (h:=fun Z=>lnS (iv:=4) Z qg)
   refine z ?_ (h:=fun Z=>mc Z)
   refine nl (bkk ?_)
   refine bf (fun((t,off2,M,Lw2):Nat × Nat × (List Nat) × (List Int))=>off2≤Lw2.length∧Lw2.drop off2=(nI M).drop (k+1)∧t≤4∧HIn aL l ds L (gN L k) t M) (fun((t,off2,M,Lw2):Nat × Nat × (List Nat) × (List Int))=>[kV 1 (V.b (.a (.slv ds.length 3 (dsl ds)))),kU 5 (((ag l):Nat):Int),kS 6 33 0 ((hsL l ds M).length),kS 9 53 off2 (Lw2.length-off2),kI 10 (gI Lw off),kI 11 (cX (gN L k)),kI 12 (cY (gN L k)),kS 70 70 0 4,kI 71 4,kI 72 ((t:Nat):Int),kO 33 3 1 true (pl (isl (hsL l ds M))),kO 53 3 1 false (pl (isl Lw2)),kO 70 67 2 true (pl (csl [(⟨1,0⟩:Cel),(⟨(-1),0⟩:Cel),(⟨0,1⟩:Cel),(⟨0,(-1)⟩:Cel)])),kF 2,kF 14,kF 18,kF 19,kF 20,kF 23,kF 28,kF 32,kF 37,kF 38,kF 41,kF 42,kF 55,kF 71,kF 88,kF 106,kF 111,kF 116,kF 122,kF 129,kF 148,kF 149]) (fun((t,off2,M,Lw2):Nat × Nat × (List Nat) × (List Int))=>4-t) ((0:Nat),((off+1):Nat),(L:List Nat),(Lw:List Int)) (by exact⟨by omega,xe (by assumption),by omega,hH.into _⟩) (wkf id (wS<|wS<|wS<|wE (e:=(vsl (by rfl) rfl))<|wS<|wS<|wS<|wS<|wS<|wE (e:=(aO (by rfl)))<|wP<|wP<|wP<|by(iterate 22 refine wF ?_);exact wN)) ?_
   rintro⟨t,off2,M,Lw2⟩ inv5
   replace inv5:off2≤Lw2.length∧Lw2.drop off2=(nI M).drop (k+1)∧t≤4∧HIn aL l ds L (gN L k) t M:=inv5
   obtain⟨inv5_0,inv5_1,inv5_2,inv5_3⟩:=inv5
   have hM:HIn aL l ds L (gN L k) t M:=by assumption
   have hMl:=hM.len
   have hMe:=hM.le
   have hdr3:Lw2.drop off2=(nI M).drop (k+1):=by assumption
   have hdl3:=congrArg List.length hdr3
   have hnl2:=mR M
   simp only[List.length_drop]at hdl3
   have hbu:=hM.bd2 hu81
   obtain⟨hbx0,hby0⟩:=Bz kk hu81 t
   have hsll:=ug l ds M
   refine sq (rg ?_)
   refine z ?_ (h:=fun Z=>ab Z vt vt (bP rfl))
   refine nl (sq ?_)
   refine wi (fun c6=> ?_) (fun c6=> ?_)
   ·skip
    have c6P:=of_decide_eq_true c6
    refine sk (sq (bkk (sq (rg ?_))))
    refine z ?_ (h:=fun Z=>ix0 Z qg Cv vt (hlt:=(by omega)))
    refine z ?_ (h:=fun Z=>lC Z fC (by(simp only[List.length_cons,List.length_nil];omega)))
    refine z ?_ (h:=fun Z=>aF (h:=14) (cap:=1) (s:=2) (cells:=[aI 0,aI 0]) Z nc rfl rfl (by decide))
    refine z ?_ (h:=fun _=>aw (cells:=[aI ((gC [(⟨1,0⟩:Cel),(⟨(-1),0⟩:Cel),(⟨0,1⟩:Cel),(⟨0,(-1)⟩:Cel)] t).x),aI ((gC [(⟨1,0⟩:Cel),(⟨(-1),0⟩:Cel),(⟨0,1⟩:Cel),(⟨0,(-1)⟩:Cel)] t).y)]) fC xt (by exact rfl) (by decide) (by exact ob1 rfl) (by exact Nat.le_of_ble_eq_true rfl) (by exact rfl))
    refine nl (sq (cg (zdm ?_)))
    refine zd ?_ (h:=fun Z=>ak (off':=0) Z yZ rfl)
    refine zd ?_ (h:=fun Z=>ai (x:= .val (.int .i64 ((gC [(⟨1,0⟩:Cel),(⟨(-1),0⟩:Cel),(⟨0,1⟩:Cel),(⟨0,(-1)⟩:Cel)] t).x))) Z jo (by exact rfl))
    refine zd ?_ (h:=fun Z=>ab Z vt vt (DH (c:=(bX aL (gN L k) t)) (Md hu81 (by omega))))
    refine zdm ?_
    refine zd ?_ (h:=fun Z=>ak (off':=1) Z zb rfl)
    refine zd ?_ (h:=fun Z=>ai (x:= .val (.int .i64 ((gC [(⟨1,0⟩:Cel),(⟨(-1),0⟩:Cel),(⟨0,1⟩:Cel),(⟨0,(-1)⟩:Cel)] t).y))) Z jo (by exact rfl))
    refine zd ?_ (h:=fun Z=>ab Z vt vt (DH (c:=(bY aL (gN L k) t)) (Me hu81 (by omega))))
    refine zd ?_ (h:=fun Z=>gt Z)
    refine zd ?_ (h:=fun Z=>gt Z)
    refine bJ (sq (rg (zm (zm (zm (zm ?_))))))
    refine z ?_ (h:=fun Z=>ah Z (sa (cX (gN L k)) (cY (gN L k)) (bX aL (gN L k) t) (bY aL (gN L k) t) ) (ac (ArgV.v vt) (ac (ArgV.v vt) (ac (ArgV.v vt) (ac (ArgV.v vt) an)))) rv)
    refine za (nl (sq (sq ?_)))
    refine fj [kB 100 ((decide ((iX (cX (gN L k)) (cY (gN L k)) (bX aL (gN L k) t) (bY aL (gN L k) t))=0))||(decide ((gI (hsL l ds M) ((((bY aL (gN L k) t)*9)+(bX aL (gN L k) t)).toNat))≠(-1000)))),kV 1 (V.b (.a (.slv ds.length 3 (dsl ds)))),kU 5 (((ag l):Nat):Int),kS 6 33 0 ((hsL l ds M).length),kS 9 53 off2 (Lw2.length-off2),kI 10 (gI Lw off),kI 11 (cX (gN L k)),kI 12 (cY (gN L k)),kI 15 (bX aL (gN L k) t),kI 16 (bY aL (gN L k) t),kI 17 (iX (cX (gN L k)) (cY (gN L k)) (bX aL (gN L k) t) (bY aL (gN L k) t)),kS 70 70 0 4,kI 71 4,kI 72 ((t:Nat):Int),kO 14 67 2 true [aI ((gC [(⟨1,0⟩:Cel),(⟨(-1),0⟩:Cel),(⟨0,1⟩:Cel),(⟨0,(-1)⟩:Cel)] t).x),aI ((gC [(⟨1,0⟩:Cel),(⟨(-1),0⟩:Cel),(⟨0,1⟩:Cel),(⟨0,(-1)⟩:Cel)] t).y)],kO 33 3 1 true (pl (isl (hsL l ds M))),kO 53 3 1 false (pl (isl Lw2)),kO 70 67 2 true (pl (csl [(⟨1,0⟩:Cel),(⟨(-1),0⟩:Cel),(⟨0,1⟩:Cel),(⟨0,(-1)⟩:Cel)])),kF 2,kF 18,kF 19,kF 20,kF 23,kF 28,kF 32,kF 37,kF 38,kF 41,kF 42,kF 55,kF 71,kF 88,kF 106,kF 111,kF 116,kF 122,kF 129,kF 148,kF 149] ?_ ?_
    ·skip
     rcases Bool.eq_false_or_eq_true (decide ((iX (cX (gN L k)) (cY (gN L k)) (bX aL (gN L k) t) (bY aL (gN L k) t))=0))with c7 |c7
     ·skip
      have c7P:=of_decide_eq_true c7
      have hno:=LV kk hu81 (of_decide_eq_true c7)
      refine rg (zm ?_)
      refine z ?_ (h:=fun Z=>ab Z vt vc (cW (c:=true) c7))
      refine zm (zo (zo (zo (zo (zo (zo (zo (zo ?_))))))))
      refine z ?_ (h:=fun Z=>al Z vt xc)
      refine nl ?_
      exact⟨rfl,bm ⟨(by simp only[c7];first |done |kernel_rfl),(by repeat(first |exact trivial |refine⟨by kernel_rfl,?_⟩))⟩⟩
     ·skip
      have c7P:=of_decide_eq_false c7
      obtain⟨hin,hst⟩:=CI kk hu81 (of_decide_eq_false c7)
      obtain⟨hbx,hby⟩:=in_b hin
      have hw81:=(pP hin).1
      have hst1:=ur (gN L k) (atU (gN L k) (aL t))
      have hxw:((bY aL (gN L k) t)*9+(bX aL (gN L k) t))=(((atU (gN L k) (aL t)):Nat):Int):=(Int.toNat_of_nonneg (by omega)).symm
      have hop:=LN (s:=ag l) (Ei hti) hu81 (kk t) hin
      refine rg (zm ?_)
      refine z ?_ (h:=fun Z=>ab Z vt vc (cW (c:=false) c7))
      refine zm ?_
      refine zg ?_ (h:=fun Z=>ae rfl rfl (mt Z))
      refine zg ?_ (h:=fun Z=>ae rfl rfl (mt Z))
      refine zg ?_ (h:=fun Z=>ae rfl rfl (ab Z vt vc (rM (by omega) (by omega))))
      refine zg ?_ (h:=fun Z=>ae rfl rfl (mt Z))
      refine zg ?_ (h:=fun Z=>ae rfl rfl (ab Z vt vt (rA (by omega) (by omega))))
      refine zg ?_ (h:=fun Z=>ae rfl rfl (ix0 (k:=(((bY aL (gN L k) t)*9)+(bX aL (gN L k) t)).toNat) Z dY kz vt (Int.toNat_of_nonneg (by omega)).symm (by omega)))
      refine zg ?_ (h:=fun Z=>ae rfl rfl (lI Z jo (by omega)))
      refine zg ?_ (h:=fun Z=>ae rfl rfl (ab Z vt vc (iZ rfl)))
      refine z ?_ (h:=fun Z=>ao Z vt xt)
      refine nl ?_
      exact⟨rfl,bm ⟨(by simp only[c7];first |done |kernel_rfl),(by repeat(first |exact trivial |refine⟨by kernel_rfl,?_⟩))⟩⟩
    refine wi (b:=((decide ((iX (cX (gN L k)) (cY (gN L k)) (bX aL (gN L k) t) (bY aL (gN L k) t))=0))||(decide ((gI (hsL l ds M) ((((bY aL (gN L k) t)*9)+(bX aL (gN L k) t)).toNat))≠(-1000))))) (fun c8=> ?_) (fun c8=> ?_)
    ·skip
     have c9:=tj c8
     have hsk:=Lc kk hM hu81 c9
     refine aJ (rg ?_)
     refine z ?_ (h:=fun Z=>ab Z vt vc (rA (by omega) (by omega)))
     refine zm (nl ?_)
     exact ar ((t+1),off2,M,Lw2) (by exact⟨by assumption,by assumption,by omega,hsk⟩) (by show 4-(t+1)<4-t;omega) (wkf id (wS<|wS<|wS<|wS<|wS<|wS<|wS<|wS<|wS<|wE (e:=(aO (by rfl)))<|wP<|wP<|wP<|by(iterate 22 refine wF ?_);exact wN))
    ·skip
     obtain⟨c10,c11⟩:=ly c8
     have c10P:=of_decide_eq_false c10
     obtain⟨hin,hst⟩:=CI kk hu81 (of_decide_eq_false c10)
     obtain⟨hbx,hby⟩:=in_b hin
     have hw81:=(pP hin).1
     have hst1:=ur (gN L k) (atU (gN L k) (aL t))
     have hxw:((bY aL (gN L k) t)*9+(bX aL (gN L k) t))=(((atU (gN L k) (aL t)):Nat):Int):=(Int.toNat_of_nonneg (by omega)).symm
     have hop:=LN (s:=ag l) (Ei hti) hu81 (kk t) hin
     have c11P:=of_decide_eq_false c11
     have hmem:(atU (gN L k) (aL t))∉M:=(hM.val hw81).1 (Decidable.not_not.1 (of_decide_eq_false c11))
     refine sk (sq (rg (zm (zm (zm (zm ?_))))))
     refine z ?_ (h:=fun Z=>cS Z (tJ (cX (gN L k)) (cY (gN L k)) (bX aL (gN L k) t) (bY aL (gN L k) t) (by omega) (by omega) (by omega) (by omega) (by omega) (by omega) (by omega) (by omega)) (ac (ArgV.v vt) (ac (ArgV.v vt) (ac (ArgV.v vt) (ac (ArgV.v vt) an)))) (ResV.agg [vI ((lfC (cX (gN L k)) (cY (gN L k)) (bX aL (gN L k) t) (bY aL (gN L k) t)).x),vI ((lfC (cX (gN L k)) (cY (gN L k)) (bX aL (gN L k) t) (bY aL (gN L k) t)).y)]) (ResV.agg [vI ((lfC (bX aL (gN L k) t) (bY aL (gN L k) t) (cX (gN L k)) (cY (gN L k))).x),vI ((lfC (bX aL (gN L k) t) (bY aL (gN L k) t) (cX (gN L k)) (cY (gN L k))).y)]))
     refine zm ?_
     refine z ?_ (h:=fun Z=>az Z (by exact rfl))
     refine z ?_ (h:=fun Z=>az Z (by exact rfl))
     refine z ?_ (h:=fun Z=>aF (h:=18) (cap:=1) (s:=2) (cells:=[aI 0,aI 0]) Z nc rfl rfl (by decide))
     refine z ?_ (h:=fun Z=>aF (h:=19) (cap:=1) (s:=2) (cells:=[aI 0,aI 0]) Z nc rfl rfl (by decide))
     refine z ?_ (h:=fun _=>aw (cells:=[aI ((lfC (cX (gN L k)) (cY (gN L k)) (bX aL (gN L k) t) (bY aL (gN L k) t)).x),aI ((lfC (cX (gN L k)) (cY (gN L k)) (bX aL (gN L k) t) (bY aL (gN L k) t)).y)]) fC xt (by exact rfl) (by decide) (by exact ob1 rfl) (by exact Nat.le_of_ble_eq_true rfl) (by exact rfl))
     refine z ?_ (h:=fun _=>aw (cells:=[aI ((lfC (bX aL (gN L k) t) (bY aL (gN L k) t) (cX (gN L k)) (cY (gN L k))).x),aI ((lfC (bX aL (gN L k) t) (bY aL (gN L k) t) (cX (gN L k)) (cY (gN L k))).y)]) fC xt (by exact rfl) (by decide) (by exact ob1 rfl) (by exact Nat.le_of_ble_eq_true rfl) (by exact rfl))
     refine nl (sq (sq ?_))
     refine fj [kB 118 ((!(aP (ag l) (lfC (cX (gN L k)) (cY (gN L k)) (bX aL (gN L k) t) (bY aL (gN L k) t))))&&(!(aP (ag l) (lfC (bX aL (gN L k) t) (bY aL (gN L k) t) (cX (gN L k)) (cY (gN L k)))))),kV 1 (V.b (.a (.slv ds.length 3 (dsl ds)))),kU 5 (((ag l):Nat):Int),kS 6 33 0 ((hsL l ds M).length),kS 9 53 off2 (Lw2.length-off2),kI 10 (gI Lw off),kI 11 (cX (gN L k)),kI 12 (cY (gN L k)),kI 15 (bX aL (gN L k) t),kI 16 (bY aL (gN L k) t),kI 17 (iX (cX (gN L k)) (cY (gN L k)) (bX aL (gN L k) t) (bY aL (gN L k) t)),kP 18 18 0,kP 19 19 0,kS 70 70 0 4,kI 71 4,kI 72 ((t:Nat):Int),kO 14 67 2 true [aI ((gC [(⟨1,0⟩:Cel),(⟨(-1),0⟩:Cel),(⟨0,1⟩:Cel),(⟨0,(-1)⟩:Cel)] t).x),aI ((gC [(⟨1,0⟩:Cel),(⟨(-1),0⟩:Cel),(⟨0,1⟩:Cel),(⟨0,(-1)⟩:Cel)] t).y)],kO 18 67 2 true [aI ((lfC (cX (gN L k)) (cY (gN L k)) (bX aL (gN L k) t) (bY aL (gN L k) t)).x),aI ((lfC (cX (gN L k)) (cY (gN L k)) (bX aL (gN L k) t) (bY aL (gN L k) t)).y)],kO 19 67 2 true [aI ((lfC (bX aL (gN L k) t) (bY aL (gN L k) t) (cX (gN L k)) (cY (gN L k))).x),aI ((lfC (bX aL (gN L k) t) (bY aL (gN L k) t) (cX (gN L k)) (cY (gN L k))).y)],kO 33 3 1 true (pl (isl (hsL l ds M))),kO 53 3 1 false (pl (isl Lw2)),kO 70 67 2 true (pl (csl [(⟨1,0⟩:Cel),(⟨(-1),0⟩:Cel),(⟨0,1⟩:Cel),(⟨0,(-1)⟩:Cel)])),kF 2,kF 20,kF 23,kF 28,kF 32,kF 37,kF 38,kF 41,kF 42,kF 55,kF 71,kF 88,kF 106,kF 111,kF 116,kF 122,kF 129,kF 148,kF 149] ?_ ?_
     ·skip
      rcases Bool.eq_false_or_eq_true ((aP (ag l) (lfC (cX (gN L k)) (cY (gN L k)) (bX aL (gN L k) t) (bY aL (gN L k) t))))with c12 |c12
      ·skip
       refine rg (zm ?_)
       refine z ?_ (h:=fun Z=>aa (xs:=[vI ((lfC (cX (gN L k)) (cY (gN L k)) (bX aL (gN L k) t) (bY aL (gN L k) t)).x),vI ((lfC (cX (gN L k)) (cY (gN L k)) (bX aL (gN L k) t) (bY aL (gN L k) t)).y)].map A.val) Z fC rfl (by decide) rfl)
       refine z ?_ (h:=fun Z=>ah Z (bc (ag l) (lfC (cX (gN L k)) (cY (gN L k)) (bX aL (gN L k) t) (bY aL (gN L k) t)) (by omega)) (ac (ArgV.v vt) (ac (ArgV.va va) an)) (aH (congrArg Value.bool c12)))
       refine z ?_ (h:=fun Z=>aK Z vt (bE (c:=false) rfl))
       refine zm (zo (zo (zo (zo ?_))))
       refine z ?_ (h:=fun Z=>ao Z vt xc)
       refine nl ?_
       exact⟨rfl,bm ⟨(by simp only[c12];first |done |kernel_rfl),(by repeat(first |exact trivial |refine⟨by kernel_rfl,?_⟩))⟩⟩
      ·skip
       refine rg (zm ?_)
       refine z ?_ (h:=fun Z=>aa (xs:=[vI ((lfC (cX (gN L k)) (cY (gN L k)) (bX aL (gN L k) t) (bY aL (gN L k) t)).x),vI ((lfC (cX (gN L k)) (cY (gN L k)) (bX aL (gN L k) t) (bY aL (gN L k) t)).y)].map A.val) Z fC rfl (by decide) rfl)
       refine z ?_ (h:=fun Z=>ah Z (bc (ag l) (lfC (cX (gN L k)) (cY (gN L k)) (bX aL (gN L k) t) (bY aL (gN L k) t)) (by omega)) (ac (ArgV.v vt) (ac (ArgV.va va) an)) (aH (congrArg Value.bool c12)))
       refine z ?_ (h:=fun Z=>aK Z vt (bE (c:=true) rfl))
       refine zm ?_
       refine zg ?_ (h:=fun Z=>ae rfl rfl (mt Z))
       refine zg ?_ (h:=fun Z=>ae rfl rfl (aa (xs:=[vI ((lfC (bX aL (gN L k) t) (bY aL (gN L k) t) (cX (gN L k)) (cY (gN L k))).x),vI ((lfC (bX aL (gN L k) t) (bY aL (gN L k) t) (cX (gN L k)) (cY (gN L k))).y)].map A.val) Z fC rfl (by decide) rfl))
       refine zg ?_ (h:=fun Z=>ae rfl rfl (ah Z (bc (ag l) (lfC (bX aL (gN L k) t) (bY aL (gN L k) t) (cX (gN L k)) (cY (gN L k))) (by omega)) (ac (ArgV.v vt) (ac (ArgV.va va) an)) rv))
       refine zg ?_ (h:=fun Z=>ae rfl rfl (aK Z vt (bE rfl)))
       refine z ?_ (h:=fun Z=>al Z vt xt)
       refine nl ?_
       exact⟨rfl,bm ⟨(by simp only[c12];first |done |kernel_rfl),(by repeat(first |exact trivial |refine⟨by kernel_rfl,?_⟩))⟩⟩
     refine wi (b:=((!(aP (ag l) (lfC (cX (gN L k)) (cY (gN L k)) (bX aL (gN L k) t) (bY aL (gN L k) t))))&&(!(aP (ag l) (lfC (bX aL (gN L k) t) (bY aL (gN L k) t) (cX (gN L k)) (cY (gN L k))))))) (fun c13=> ?_) (fun c13=> ?_)
     ·skip
      obtain⟨c14,c15⟩:=fw c13
      have c16:(aP (ag l) (lfC (cX (gN L k)) (cY (gN L k)) (bX aL (gN L k) t) (bY aL (gN L k) t)))=false:=by first |(rw[←Bool.not_eq_true'];exact c14) |simpa using c14
      have c17:(aP (ag l) (lfC (bX aL (gN L k) t) (bY aL (gN L k) t) (cX (gN L k)) (cY (gN L k))))=false:=by first |(rw[←Bool.not_eq_true'];exact c15) |simpa using c15
      refine aJ (rg ?_)
      refine z ?_ (h:=fun Z=>ab Z vt vc (rA (by omega) (by omega)))
      refine zm (nl ?_)
      exact ar ((t+1),off2,M,Lw2) (by exact⟨by assumption,by assumption,by omega,hM.skip (.inr (.inr (hop.trans (IC (.inl ⟨by assumption,by assumption⟩)))))⟩) (by show 4-(t+1)<4-t;omega) (wkf id (wS<|wS<|wS<|wS<|wS<|wS<|wS<|wS<|wS<|wE (e:=(aO (by rfl)))<|wP<|wP<|wP<|by(iterate 22 refine wF ?_);exact wN))
     ·skip
      have c18:=lM c13
      have hor:=Lb c18
      refine sk (sq (sq (rg ?_)))
      refine z ?_ (h:=fun Z=>aa (xs:=[vI ((lfC (cX (gN L k)) (cY (gN L k)) (bX aL (gN L k) t) (bY aL (gN L k) t)).x),vI ((lfC (cX (gN L k)) (cY (gN L k)) (bX aL (gN L k) t) (bY aL (gN L k) t)).y)].map A.val) Z fC rfl (by decide) rfl)
      refine z ?_ (h:=fun Z=>aa (xs:=[vI ((lfC (bX aL (gN L k) t) (bY aL (gN L k) t) (cX (gN L k)) (cY (gN L k))).x),vI ((lfC (bX aL (gN L k) t) (bY aL (gN L k) t) (cX (gN L k)) (cY (gN L k))).y)].map A.val) Z fC rfl (by decide) rfl)
      refine z ?_ (h:=fun Z=>cS Z (pW (lfC (cX (gN L k)) (cY (gN L k)) (bX aL (gN L k) t) (bY aL (gN L k) t)) (lfC (bX aL (gN L k) t) (bY aL (gN L k) t) (cX (gN L k)) (cY (gN L k))) ) (ac (ArgV.va va) (ac (ArgV.va va) an)) (ResV.agg [vI ((dOv (lfC (cX (gN L k)) (cY (gN L k)) (bX aL (gN L k) t) (bY aL (gN L k) t)) (lfC (bX aL (gN L k) t) (bY aL (gN L k) t) (cX (gN L k)) (cY (gN L k)))).x),vI ((dOv (lfC (cX (gN L k)) (cY (gN L k)) (bX aL (gN L k) t) (bY aL (gN L k) t)) (lfC (bX aL (gN L k) t) (bY aL (gN L k) t) (cX (gN L k)) (cY (gN L k)))).y),.bool ((dOv (lfC (cX (gN L k)) (cY (gN L k)) (bX aL (gN L k) t) (bY aL (gN L k) t)) (lfC (bX aL (gN L k) t) (bY aL (gN L k) t) (cX (gN L k)) (cY (gN L k)))).d)]) rv)
      refine zm ?_
      refine z ?_ (h:=fun Z=>az Z (by exact rfl))
      refine z ?_ (h:=fun Z=>az Z (by exact rfl))
      refine z ?_ (h:=fun Z=>aF (h:=20) (cap:=1) (s:=3) (cells:=[aI 0,aI 0,aB false]) Z Cw rfl rfl (by decide))
      refine z ?_ (h:=fun _=>aw (cells:=[aI ((dOv (lfC (cX (gN L k)) (cY (gN L k)) (bX aL (gN L k) t) (bY aL (gN L k) t)) (lfC (bX aL (gN L k) t) (bY aL (gN L k) t) (cX (gN L k)) (cY (gN L k)))).x),aI ((dOv (lfC (cX (gN L k)) (cY (gN L k)) (bX aL (gN L k) t) (bY aL (gN L k) t)) (lfC (bX aL (gN L k) t) (bY aL (gN L k) t) (cX (gN L k)) (cY (gN L k)))).y),aB ((dOv (lfC (cX (gN L k)) (cY (gN L k)) (bX aL (gN L k) t) (bY aL (gN L k) t)) (lfC (bX aL (gN L k) t) (bY aL (gN L k) t) (cX (gN L k)) (cY (gN L k)))).d)]) vA xt (by exact rfl) (by decide) (by exact ob1 rfl) (by exact Nat.le_of_ble_eq_true rfl) (by exact rfl))
      refine za (nl (sq ?_))
      refine fj [kB 130 ((nbr (lfC (cX (gN L k)) (cY (gN L k)) (bX aL (gN L k) t) (bY aL (gN L k) t)) (lfC (bX aL (gN L k) t) (bY aL (gN L k) t) (cX (gN L k)) (cY (gN L k))))&&(decide ((dOv (lfC (cX (gN L k)) (cY (gN L k)) (bX aL (gN L k) t) (bY aL (gN L k) t)) (lfC (bX aL (gN L k) t) (bY aL (gN L k) t) (cX (gN L k)) (cY (gN L k))))∈ds))),kV 1 (V.b (.a (.slv ds.length 3 (dsl ds)))),kU 5 (((ag l):Nat):Int),kS 6 33 0 ((hsL l ds M).length),kS 9 53 off2 (Lw2.length-off2),kI 10 (gI Lw off),kI 11 (cX (gN L k)),kI 12 (cY (gN L k)),kI 15 (bX aL (gN L k) t),kI 16 (bY aL (gN L k) t),kI 17 (iX (cX (gN L k)) (cY (gN L k)) (bX aL (gN L k) t) (bY aL (gN L k) t)),kS 70 70 0 4,kI 71 4,kI 72 ((t:Nat):Int),kO 14 67 2 true [aI ((gC [(⟨1,0⟩:Cel),(⟨(-1),0⟩:Cel),(⟨0,1⟩:Cel),(⟨0,(-1)⟩:Cel)] t).x),aI ((gC [(⟨1,0⟩:Cel),(⟨(-1),0⟩:Cel),(⟨0,1⟩:Cel),(⟨0,(-1)⟩:Cel)] t).y)],kO 18 67 2 true [aI ((lfC (cX (gN L k)) (cY (gN L k)) (bX aL (gN L k) t) (bY aL (gN L k) t)).x),aI ((lfC (cX (gN L k)) (cY (gN L k)) (bX aL (gN L k) t) (bY aL (gN L k) t)).y)],kO 19 67 2 true [aI ((lfC (bX aL (gN L k) t) (bY aL (gN L k) t) (cX (gN L k)) (cY (gN L k))).x),aI ((lfC (bX aL (gN L k) t) (bY aL (gN L k) t) (cX (gN L k)) (cY (gN L k))).y)],kO 20 54 3 true [aI ((dOv (lfC (cX (gN L k)) (cY (gN L k)) (bX aL (gN L k) t) (bY aL (gN L k) t)) (lfC (bX aL (gN L k) t) (bY aL (gN L k) t) (cX (gN L k)) (cY (gN L k)))).x),aI ((dOv (lfC (cX (gN L k)) (cY (gN L k)) (bX aL (gN L k) t) (bY aL (gN L k) t)) (lfC (bX aL (gN L k) t) (bY aL (gN L k) t) (cX (gN L k)) (cY (gN L k)))).y),aB ((dOv (lfC (cX (gN L k)) (cY (gN L k)) (bX aL (gN L k) t) (bY aL (gN L k) t)) (lfC (bX aL (gN L k) t) (bY aL (gN L k) t) (cX (gN L k)) (cY (gN L k)))).d)],kO 33 3 1 true (pl (isl (hsL l ds M))),kO 53 3 1 false (pl (isl Lw2)),kO 70 67 2 true (pl (csl [(⟨1,0⟩:Cel),(⟨(-1),0⟩:Cel),(⟨0,1⟩:Cel),(⟨0,(-1)⟩:Cel)])),kF 2,kF 23,kF 28,kF 32,kF 37,kF 38,kF 41,kF 42,kF 55,kF 71,kF 88,kF 106,kF 111,kF 116,kF 122,kF 129,kF 148,kF 149] ?_ ?_
      ·skip
       rcases Bool.eq_false_or_eq_true ((nbr (lfC (cX (gN L k)) (cY (gN L k)) (bX aL (gN L k) t) (bY aL (gN L k) t)) (lfC (bX aL (gN L k) t) (bY aL (gN L k) t) (cX (gN L k)) (cY (gN L k)))))with c19 |c19
       ·skip
        rw[c19]
        refine rg (zm (zm ?_))
        refine zg ?_ (h:=fun Z=>ae rfl rfl (mt Z))
        refine zg ?_ (h:=fun Z=>ae rfl rfl (aa (xs:=[vI ((dOv (lfC (cX (gN L k)) (cY (gN L k)) (bX aL (gN L k) t) (bY aL (gN L k) t)) (lfC (bX aL (gN L k) t) (bY aL (gN L k) t) (cX (gN L k)) (cY (gN L k)))).x),vI ((dOv (lfC (cX (gN L k)) (cY (gN L k)) (bX aL (gN L k) t) (bY aL (gN L k) t)) (lfC (bX aL (gN L k) t) (bY aL (gN L k) t) (cX (gN L k)) (cY (gN L k)))).y),.bool ((dOv (lfC (cX (gN L k)) (cY (gN L k)) (bX aL (gN L k) t) (bY aL (gN L k) t)) (lfC (bX aL (gN L k) t) (bY aL (gN L k) t) (cX (gN L k)) (cY (gN L k)))).d)].map A.val) Z vA rfl (by decide) rfl))
        refine zg ?_ (h:=fun Z=>ae rfl rfl (ah Z (Ab ds (dOv (lfC (cX (gN L k)) (cY (gN L k)) (bX aL (gN L k) t) (bY aL (gN L k) t)) (lfC (bX aL (gN L k) t) (bY aL (gN L k) t) (cX (gN L k)) (cY (gN L k)))) (by omega)) (ac (ArgV.slv _ _ _ _) (ac (ArgV.va va) an)) rv))
        refine z ?_ (h:=fun Z=>al Z vt xt)
        refine nl ?_
        exact⟨rfl,bm ⟨(by simp only[c19];first |done |kernel_rfl),(by repeat(first |exact trivial |refine⟨by kernel_rfl,?_⟩))⟩⟩
       ·skip
        rw[c19]
        refine rg (zm (zm (zo (zo (zo ?_)))))
        refine z ?_ (h:=fun Z=>ao Z vt xc)
        refine nl ?_
        exact⟨rfl,bm ⟨(by simp only[c19];first |done |kernel_rfl),(by repeat(first |exact trivial |refine⟨by kernel_rfl,?_⟩))⟩⟩
      refine wi (b:=((nbr (lfC (cX (gN L k)) (cY (gN L k)) (bX aL (gN L k) t) (bY aL (gN L k) t)) (lfC (bX aL (gN L k) t) (bY aL (gN L k) t) (cX (gN L k)) (cY (gN L k))))&&(decide ((dOv (lfC (cX (gN L k)) (cY (gN L k)) (bX aL (gN L k) t) (bY aL (gN L k) t)) (lfC (bX aL (gN L k) t) (bY aL (gN L k) t) (cX (gN L k)) (cY (gN L k))))∈ds)))) (fun c20=> ?_) (fun c20=> ?_)
      ·skip
       obtain⟨c21,c22⟩:=fw c20
       refine aJ (rg ?_)
       refine z ?_ (h:=fun Z=>ab Z vt vc (rA (by omega) (by omega)))
       refine zm (nl ?_)
       exact ar ((t+1),off2,M,Lw2) (by exact⟨by assumption,by assumption,by omega,hM.skip (.inr (.inr (hop.trans (IC (.inr ⟨by assumption,by assumption⟩)))))⟩) (by show 4-(t+1)<4-t;omega) (wkf id (wS<|wS<|wS<|wS<|wS<|wS<|wS<|wS<|wS<|wE (e:=(aO (by rfl)))<|wP<|wP<|wP<|by(iterate 22 refine wF ?_);exact wN))
      ·skip
       have c23:=lM c20
       have hslw:=ug l ds (M++[(atU (gN L k) (aL t))])
       have hgo:=hM.go hti hsi huL hin hmem (hop.trans (Nu hor c23))
       refine sk (sq (rg (zm (zm ?_))))
       refine z ?_ (h:=fun Z=>ab Z vt vc (rM (by omega) (by omega)))
       refine zm ?_
       refine z ?_ (h:=fun Z=>ab Z vt vt (rA (by omega) (by omega)))
       refine zm (zm ?_)
       refine z ?_ (h:=fun Z=>ix0 (k:=(gI Lw off).toNat) Z dY kz vt (Int.toNat_of_nonneg (by omega)).symm (by omega))
       refine z ?_ (h:=fun Z=>lI Z jo (by omega))
       refine zm ?_
       refine z ?_ (h:=fun Z=>ab Z vt vt (rA (by(rw[hownN];omega)) (by(rw[hownN];omega))))
       refine z ?_ (h:=fun Z=>ix0 (k:=(((bY aL (gN L k) t)*9)+(bX aL (gN L k) t)).toNat) Z dY kz vt (Int.toNat_of_nonneg (by omega)).symm (by omega))
       refine z ?_ (h:=fun _=>sI jo xt (by omega))
       refine nl (rg (zm (zm ?_)))
       refine z ?_ (h:=fun Z=>ab Z vt vc (rM (by omega) (by omega)))
       refine zm ?_
       refine z ?_ (h:=fun Z=>ab Z vt vt (rA (by omega) (by omega)))
       refine z ?_ (h:=fun Z=>aR (h:=148) (xs:=isl ([(((bY aL (gN L k) t)*9)+(bX aL (gN L k) t))]:List Int)) Z dY kA (.cons vt OpVs.nil) (by decide) (by decide) (by kernel_rfl) rfl)
       refine z ?_ (h:=fun Z=>wv (h2:=149) (m:=1) (nm:=((Lw2.drop off2++[(((bY aL (gN L k) t)*9)+(bX aL (gN L k) t))]).length)) (X:= .sl 148 0 1) (L:=Lw2) (L2:=[(((bY aL (gN L k) t)*9)+(bX aL (gN L k) t))]) Z dY kA (by omega) xt (ry (h:=148) (T:=3) (s:=1) (ex:=true) (n:=1) (by exact fi _)) (by omega) (by(simp;done)))
       refine za (nl (rg ?_))
       refine z ?_ (h:=fun Z=>ab Z vt vc (rA (by omega) (by omega)))
       refine zm (nl ?_)
       exact ar ((t+1),0,(M++[(atU (gN L k) (aL t))]),(Lw2.drop off2++[(((bY aL (gN L k) t)*9)+(bX aL (gN L k) t))])) (by exact⟨Nat.zero_le _,qapp hdr3 (by omega) hxw,by omega,hgo.1⟩) (by show 4-(t+1)<4-t;omega) (wkf (bn [(53,149)]) (wS<|wS<|wE (e:=(vsl (by rfl) rfl))<|wE (e:=(vsl (by rfl) rfl))<|wS<|wS<|wS<|wS<|wS<|wE (e:=(aO (by rfl)))<|wO (e:=aG (fun h=>h) (congrArg isl (by(rw[hst,hownN];exact hgo.2))))<|wP<|wP<|by(iterate 22 refine wF ?_);exact wN))
   ·skip
    have c6P:=of_decide_eq_false c6
    refine aJ ?_
    exact Exists.intro ((k+1),off2,M,Lw2) (And.intro (by exact⟨by assumption,by assumption,hM.fin hH hk2 (by omega)⟩) (And.intro (by show 81-(k+1)<81-k;omega) (wkf id (wS<|wS<|wS<|wS<|wP<|wP<|by(iterate 23 refine wF ?_);exact wN))))
  ·skip
   have c4P:=of_decide_eq_false c4
   have hend:=xf (L:=Lw) (M:=nI L) (i:=off) (j:=k) (by assumption) (by assumption)
   refine aJ (sq (rg (zm (za (nl (aq ?_))))))
   exact VRes.tmp _ _ _ (by exact rfl) (wZ (h:=33) (L:=(hsL l ds L)) (by kernel_rfl) (by exact JW (.inl rfl) hH hend) (by rfl))
theorem wm (l:List Int) (ds:List Dom) (hl:l.length≤4194304) (hd:ds.length≤2097152) (hs:cu l=false):Fn Tryz.prog 35 [.agg [(.slv l.length 1 (isl l):A)],.a (.slv ds.length 3 (dsl ds))] [.val (.slice none 0 0)]:=by
 refine aN (N:=152) Tryz.func35 rfl (by kernel_rfl) rfl (Nat.le_of_ble_eq_true rfl) [2,14,18,19,20,23,28,32,33,37,38,41,42,53,55,70,71,88,106,111,116,122,129,148,149] (dB rfl) (fun W=> ?_)
 show Wp _ _ _ [kV 0 (V.b (.agg [(.slv l.length 1 (isl l):A)])),kV 1 (V.b (.a (.slv ds.length 3 (dsl ds)))),kF 2,kF 14,kF 18,kF 19,kF 20,kF 23,kF 28,kF 32,kF 33,kF 37,kF 38,kF 41,kF 42,kF 53,kF 55,kF 70,kF 71,kF 88,kF 106,kF 111,kF 116,kF 122,kF 129,kF 148,kF 149]
 refine sq (rg ?_)
 refine z ?_ (h:=fun Z=>aM (h:=2) Z xt (by exact ob1 rfl))
 refine zk (nl (sq (sq (rg ?_))))
 refine z ?_ (h:=fun Z=>aa (xs:=[(.slv l.length 1 (isl l):A)]) Z jn rfl (by decide) rfl)
 refine z ?_ (h:=fun Z=>ah Z (dV l (by omega)) (ac (ArgV.regv _ _ 1 _) an) (aH (congrArg Value.bool hs)))
 refine z ?_ (h:=fun Z=>aK Z vt (bE (c:=true) rfl))
 refine zm (zo (zo (zo (zo ?_))))
 refine z ?_ (h:=fun Z=>al Z vt xc)
 refine nl (wt (sq (rg (zk (nl (aq ?_))))))
 exact VRes.tmp _ _ _ (by exact rfl) (BRes.val _)
theorem wn (l:List Int) (ds:List Dom) (hl:l.length≤4194304) (hd:ds.length≤2097152) (hs:cu l=true) (ht:ct l ds=false):Fn Tryz.prog 35 [.agg [(.slv l.length 1 (isl l):A)],.a (.slv ds.length 3 (dsl ds))] [.val (.slice none 0 0)]:=by
 refine aN (N:=152) Tryz.func35 rfl (by kernel_rfl) rfl (Nat.le_of_ble_eq_true rfl) [2,14,18,19,20,23,28,32,33,37,38,41,42,53,55,70,71,88,106,111,116,122,129,148,149] (dB rfl) (fun W=> ?_)
 show Wp _ _ _ [kV 0 (V.b (.agg [(.slv l.length 1 (isl l):A)])),kV 1 (V.b (.a (.slv ds.length 3 (dsl ds)))),kF 2,kF 14,kF 18,kF 19,kF 20,kF 23,kF 28,kF 32,kF 33,kF 37,kF 38,kF 41,kF 42,kF 53,kF 55,kF 70,kF 71,kF 88,kF 106,kF 111,kF 116,kF 122,kF 129,kF 148,kF 149]
 refine sq (rg ?_)
 refine z ?_ (h:=fun Z=>aM (h:=2) Z xt (by exact ob1 rfl))
 refine zk (nl (sq (sq (rg ?_))))
 refine z ?_ (h:=fun Z=>aa (xs:=[(.slv l.length 1 (isl l):A)]) Z jn rfl (by decide) rfl)
 refine z ?_ (h:=fun Z=>ah Z (dV l (by omega)) (ac (ArgV.regv _ _ 1 _) an) (aH (congrArg Value.bool hs)))
 refine z ?_ (h:=fun Z=>aK Z vt (bE (c:=false) rfl))
 refine zm ?_
 refine zg ?_ (h:=fun Z=>ae rfl rfl (aa (xs:=[(.slv l.length 1 (isl l):A)]) Z jn rfl (by decide) rfl))
 refine zg ?_ (h:=fun Z=>ae rfl rfl (mt Z))
 refine zg ?_ (h:=fun Z=>ae rfl rfl (ah Z (lZ l ds (by omega) (by omega)) (ac (ArgV.regv _ _ 1 _) (ac (ArgV.slv _ _ _ _) an)) (aH (congrArg Value.bool ht))))
 refine zg ?_ (h:=fun Z=>ae rfl rfl (aK Z vt (bE (c:=true) rfl)))
 refine z ?_ (h:=fun Z=>ao Z vt xt)
 refine nl (wt (sq (rg (zk (nl (aq ?_))))))
 exact VRes.tmp _ _ _ (by exact rfl) (BRes.val _)
end Cl
end Go.Proofs.YtonlghbbdcddoaaGreat
