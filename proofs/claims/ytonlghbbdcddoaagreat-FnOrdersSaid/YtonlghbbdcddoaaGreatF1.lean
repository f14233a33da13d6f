/- Walks. -/
import Derived.Test.YtonlghbbdcddoaaGreatEB
import Derived.Test.YtonlghbbdcddoaaGreatClB
set_option maxHeartbeats 4000000
set_option maxRecDepth 100000
namespace Go.Proofs.YtonlghbbdcddoaaGreat
namespace Cl
open Go.ChangeShapes Go.WideShapes Go.ChangeAt Go.RowKit
theorem MK {L E:List Int} {k:Nat} (hk:k<L.length):gI (L++E) k=gI L k:=by
 rw[cQ (by rw[List.length_append];omega),cQ hk,List.getElem_append_left hk]
structure BRd (M:List (List Int)) (t:Int) (n:Nat) (L:List Int) (k i:Nat) (N:List Int):Prop where
 b:∀ hk:k<L.length,BIn M t n L k (L[k]) i N
theorem BRd.into {M:List (List Int)} {t:Int} {n:Nat} {L:List Int} {k:Nat} (h:BInv M t n L k) (_hk:k<L.length):BRd M t n L k 0 L:=⟨fun hk=>h.into hk⟩
theorem BInv.at {M:List (List Int)} {t:Int} {n:Nat} {L:List Int} {k:Nat} (h:BInv M t n L k) (hk:k<L.length):(0≤gI L k∧gI L k<(n:Int))∧(0≤dsD M t (gI L k)∧dsD M t (gI L k)<(n:Int)):=by
 rw[cQ hk]
 have h1:=h.bd _ (List.getElem_mem hk)
 have h2:=h.len
 exact⟨h.lt _ (List.getElem_mem hk),h.rc _ (List.getElem_mem hk),by omega⟩
theorem BRd.fact {M:List (List Int)} {t:Int} {n:Nat} {L:List Int} {k i:Nat} {N:List Int} (hI:BInv M t n L k) (hk:k<L.length) (h:BRd M t n L k i N):gI N k=gI L k∧k<N.length∧N.length≤n∧gI (dL M t n N) (gI L k).toNat=dsD M t (gI L k):=by
 obtain⟨E,hE⟩:=(h.b hk).ap
 have hu:=(hI.at hk).1
 refine⟨by rw[hE,MK hk],by rw[hE,List.length_append];omega,(h.b hk).len,?_⟩
 rw[LG (by omega),show(((gI L k).toNat:Nat):Int)=gI L k by omega,if_pos]
 rw[hE,List.mem_append];left;rw[cQ hk];exact List.getElem_mem hk
theorem BRd.skip {M:List (List Int)} {t:Int} {n:Nat} {L:List Int} {k i:Nat} {N:List Int} (h:BRd M t n L k i N) (hk:k<L.length) (hi:i<(gLs M (gI L k).toNat).length) (hm:gI (gLs M (gI L k).toNat) i∈N):BRd M t n L k (i+1) N:=by
 rw[cQ hk]at hi hm
 exact⟨fun _=>(h.b hk).skip hi hm⟩
theorem BRd.w {M:List (List Int)} {n:Nat} {L:List Int} {k i:Nat} (hR:rC M n) (hu:0≤gI L k∧gI L k<(n:Int)) (hi:i<(gLs M (gI L k).toNat).length):0≤gI (gLs M (gI L k).toNat) i∧gI (gLs M (gI L k).toNat) i<(n:Int):=
 hR (gI L k).toNat (by omega) _ (by rw[cQ hi];exact List.getElem_mem hi)
theorem BRd.neg {M:List (List Int)} {t:Int} {n:Nat} {L:List Int} {k i:Nat} {N:List Int} (h:BRd M t n L k i N) (hk:k<L.length) {w:Int} (hw:0≤w∧w<(n:Int)):gI (dL M t n N) w.toNat<0↔w∉N:=Mq (h.b hk).rc hw
theorem BRd.go {M:List (List Int)} {t:Int} {n:Nat} {L:List Int} {k i:Nat} {N:List Int} (hI:BInv M t n L k) (hk:k<L.length) (hR:rC M n) (h:BRd M t n L k i N) (hi:i<(gLs M (gI L k).toNat).length) (hm:gI (gLs M (gI L k).toNat) i∉N):
  BRd M t n L k (i+1) (N++[gI (gLs M (gI L k).toNat) i])∧dL M t n (N++[gI (gLs M (gI L k).toNat) i])=(dL M t n N).set (gI (gLs M (gI L k).toNat) i).toNat (gI (dL M t n N) (gI L k).toNat+1):=by
 have hf:=(h.fact hI hk).2.2.2
 have hw:=BRd.w hR (hI.at hk).1 hi
 rw[hf]
 have e:=cQ hk
 generalize hx:gI L k=x at*
 subst hx
 rw[e]at hi hm hw⊢
 obtain⟨h1,h2,h3⟩:=BIn.go hI hk hR (h.b hk) hi hm
 refine⟨⟨fun _=>h1⟩,?_⟩
 have:=GA (M:=M) (t:=t) (n:=n) (L:=N) (v:=(gI (gLs M (L[k]).toNat) i).toNat) (by omega)
 rw[show(((gI (gLs M (L[k]).toNat) i).toNat:Nat):Int)=gI (gLs M (L[k]).toNat) i by omega]at this
 rw[this,h2]
theorem BRd.out {M:List (List Int)} {t:Int} {n:Nat} {L:List Int} {k i:Nat} {N:List Int} (hI:BInv M t n L k) (hk:k<L.length) (h:BRd M t n L k i N) (hi:¬i<(gLs M (gI L k).toNat).length):BInv M t n N (k+1):=by
 rw[cQ hk]at hi
 exact(h.b hk).out hI hk hi
theorem MM {M:List (List Int)} {t:Int} {n:Nat} {w:Int} (h0:0≤w) (h:w<(n:Int)):gI (dsM M t n) w.toNat=dsD M t w:=by
 rw[ML (by omega),show((w.toNat:Nat):Int)=w by omega]
def rpl (n k:Nat):List Int:=List.replicate k (-1)++List.replicate (n-k) 0
theorem zc {n k:Nat} (h:k≤n):(rpl n k).length=n:=by unfold rpl;simp;omega
theorem KP {n k:Nat} (h:k<n):(rpl n k).set k (-1)=rpl n (k+1):=by
 unfold rpl
 rw[List.set_append,if_neg (by simp),List.length_replicate,Nat.sub_self,show n-k=(n-(k+1))+1 by omega,List.replicate_succ,List.set_cons_zero,List.replicate_succ',List.append_assoc];rfl
theorem It {M:List (List Int)} {t:Int} {n k:Nat} (ht:0≤t∧t<(n:Int)) (hk:k=n):(rpl n k).set t.toNat 0=dL M t n [t]:=by
 subst hk
 have:=GA (M:=M) (t:=t) (n:=k) (L:=[]) (v:=t.toNat) (by omega)
 rw[show((t.toNat:Nat):Int)=t by omega,List.nil_append,Mr,uH]at this
 rw[this];simp [rpl]
theorem FB:(Tryz.prog.info? 24).map (·.size)=some 1:=by kernel_rfl
theorem FC:(Tryz.prog.info? 27).map (·.size)=some 1:=by kernel_rfl
theorem gm:(Tryz.prog.info? 3).map (·.size)=some 1:=by kernel_rfl
theorem FD:TI Tryz.prog 24 false 1:=⟨⟨_,Tryz.underlying24,rfl⟩,by kernel_rfl⟩
theorem pn:TI Tryz.prog 26 true 1:=⟨⟨_,Tryz.underlying26,rfl⟩,by kernel_rfl⟩
theorem FE:TI Tryz.prog 27 false 1:=⟨⟨_,Tryz.underlying27,rfl⟩,by kernel_rfl⟩
theorem gn:TI Tryz.prog 3 false 1:=⟨⟨_,Tryz.underlying3,rfl⟩,by kernel_rfl⟩
theorem dt:Tryz.prog.underlying 24=some (.slice 3):=Tryz.underlying24
theorem xK:Tryz.prog.underlying 48=some (.slice 24):=Tryz.underlying48
theorem xL:Tryz.prog.underlying 50=some (.slice 27):=Tryz.underlying50
theorem rb:ZI Tryz.prog 3 (.int .i64 0) 1 8:=by unfold ZI;kernel_rfl
theorem oz (M:List (List Int)) (t:Int) (hm:M.length≤300) (hR:rC M M.length) (hrl:∀ k,k<M.length→(gLs M k).length≤4194304) (ht:0≤t∧t<(M.length:Int)):Fn Tryz.prog 24 [.a (.slvv 1 (vwI M)),.a (.val (.int .i64 t))] [.row 3 1 (dsM M t M.length).length (isl (dsM M t M.length))]:=by
 have hr0:=zc (n:=M.length) (Nat.zero_le _)
 have hdl0:=rQ M t M.length [t]
 refine aN (N:=77) Tryz.func24 rfl (by kernel_rfl) rfl (Nat.le_of_ble_eq_true rfl) [12,13,16,27,30,43,74,75] (dB rfl) (fun W=> ?_)
 show Wp _ _ _ [kV 0 (V.b (.a (.slvv 1 (vwI M)))),kI 1 t,kF 12,kF 13,kF 16,kF 27,kF 30,kF 43,kF 74,kF 75]
 refine sq (rg (zk (nl (sq (rg (zm ?_))))))
 refine z ?_ (h:=fun Z=>lnI Z xK)
 refine z ?_ (h:=fun Z=>fW (h:=13) (n:=M.length) (xs:=isl (List.replicate M.length 0)) Z dt rb vt vt rfl rfl (by decide) (by omega) (ji M.length))
 refine za (nl (sq (sq (rg (zk (nl (bkk ?_)))))))
 refine bf (fun(k0:Nat)=>k0≤M.length) (fun(k0:Nat)=>[kV 0 (V.b (.a (.slvv 1 (vwI M)))),kI 1 t,kS 5 13 0 ((rpl M.length k0).length),kI 6 ((k0:Nat):Int),kO 13 3 1 true (pl (isl (rpl M.length k0))),kF 12,kF 16,kF 27,kF 30,kF 43,kF 74,kF 75]) (fun(k0:Nat)=>M.length-k0) ((0:Nat)) (by exact(Nat.zero_le _:0≤_)) (wkf id (wS<|wS<|wE (e:=(vsl (by omega) rfl))<|wE (e:=(aO (by rfl)))<|wO (e:=aG (fun h=>h) (congrArg isl (by rfl)))<|wF<|wF<|wF<|wF<|wF<|wF<|wF<|wN)) ?_
 rintro k0 inv1
 replace inv1:k0≤M.length:=inv1
 have hk0:=inv1
 have hrp:=zc hk0
 refine sq (sq (rg (zm (zm ?_))))
 refine z ?_ (h:=fun Z=>lnS Z dt)
 refine z ?_ (h:=fun Z=>ab Z vt vt (bP rfl))
 refine nl ?_
 refine wi (fun c2=> ?_) (fun c2=> ?_)
 ·skip
  have c2P:=of_decide_eq_true c2
  have hr1:=zc (n:=M.length) (k:=k0+1) (by omega)
  refine sk (sq (bkk (rg (zm (zm ?_)))))
  refine z ?_ (h:=fun Z=>ix0 Z dt gm vt (hlt:=(by omega)))
  refine z ?_ (h:=fun _=>sI gn xc (by omega))
  refine nl (rg (zm ?_))
  refine z ?_ (h:=fun Z=>ab Z vt vc (rA (by omega) (by omega)))
  refine za (nl ?_)
  exact ar ((k0+1)) (by show _≤_;omega) (by show M.length-(k0+1)<M.length-k0;omega) (wkf id (wS<|wS<|wE (e:=(vsl (by omega) rfl))<|wE (e:=(aO (by rfl)))<|wO (e:=aG (fun h=>h) (congrArg isl (by exact Eq.symm (KP (by omega)))))<|wF<|wF<|wF<|wF<|wF<|wF<|wF<|wN))
 ·skip
  have c2P:=of_decide_eq_false c2
  refine aJ (sq (rg (zm (zm ?_))))
  refine z ?_ (h:=fun Z=>ix0 (k:=t.toNat) Z dt gm vt (Int.toNat_of_nonneg (by omega)).symm (by omega))
  refine z ?_ (h:=fun _=>sI gn xc (by omega))
  refine nl (sq (rg (zm ?_)))
  refine z ?_ (h:=fun Z=>aR (h:=27) (xs:=isl ([t]:List Int)) Z dt rb (.cons vt OpVs.nil) (by decide) (by decide) (by kernel_rfl) rfl)
  refine za (nl (sq (sq (rg (zk (nl (bkk ?_)))))))
  refine bf (fun((k,L):Nat × (List Int))=>BInv M t M.length L k) (fun((k,L):Nat × (List Int))=>[kV 0 (V.b (.a (.slvv 1 (vwI M)))),kS 5 13 0 ((dL M t M.length L).length),kS 7 27 0 L.length,kI 8 ((k:Nat):Int),kO 13 3 1 true (pl (isl (dL M t M.length L))),kO 27 3 1 true (pl (isl L)),kF 12,kF 16,kF 30,kF 43,kF 74,kF 75]) (fun((k,L):Nat × (List Int))=>M.length-k) ((0:Nat),([t]:List Int)) (by exact BInv.init ht) (wkf id (wS<|wE (e:=(vsl (by omega) rfl))<|wE (e:=(vsl (by rfl) rfl))<|wE (e:=(aO (by rfl)))<|wO (e:=aG (fun h=>h) (congrArg isl (by exact Eq.symm (It ht (by omega)))))<|wP<|wF<|wF<|wF<|wF<|wF<|wF<|wN)) ?_
  rintro⟨k,L⟩ inv3
  replace inv3:BInv M t M.length L k:=inv3
  have hB:=inv3
  have hBl:=hB.len
  have hdl:=rQ M t M.length L
  refine sq (sq (rg (zm (zm ?_))))
  refine z ?_ (h:=fun Z=>lnS Z dt)
  refine z ?_ (h:=fun Z=>ab Z vt vt (bP rfl))
  refine nl ?_
  refine wi (fun c4=> ?_) (fun c4=> ?_)
  ·skip
   have c4P:=of_decide_eq_true c4
   have hkL:k<L.length:=by omega
   obtain⟨hu,hud⟩:=hB.at hkL
   have hrow:=hrl (gI L k).toNat (by omega)
   refine sk (sq (bkk (sq (rg (zm (zm (zm ?_)))))))
   refine z ?_ (h:=fun Z=>ix0 Z dt gm vt (hlt:=(by omega)))
   refine z ?_ (h:=fun Z=>lI Z gn (by omega))
   refine z ?_ (h:=fun Z=>xvv (k:=(gI L k).toNat) Z xK FB vt (Int.toNat_of_nonneg (by omega)).symm (hlt:=(by simp only[jL,ib];first |omega |assumption |exact hrl _ (by omega) |(rw[rQ];omega))))
   refine z ?_ (h:=fun Z=>lvI Z FD (by omega))
   refine za (nl (sq (rg (zk (nl (bkk ?_))))))
   refine bf (fun((i,N):Nat × (List Int))=>i≤(gLs M (gI L k).toNat).length∧BRd M t M.length L k i N) (fun((i,N):Nat × (List Int))=>[kV 0 (V.b (.a (.slvv 1 (vwI M)))),kS 5 13 0 ((dL M t M.length N).length),kS 7 27 0 N.length,kI 8 ((k:Nat):Int),kV 9 (V.b (.a (.slv ((gLs M ((gI L k).toNat)).length) 1 (isl (gLs M ((gI L k).toNat)))))),kI 10 ((i:Nat):Int),kO 13 3 1 true (pl (isl (dL M t M.length N))),kO 27 3 1 true (pl (isl N)),kF 12,kF 16,kF 30,kF 43,kF 74,kF 75]) (fun((i,N):Nat × (List Int))=>(gLs M (gI L k).toNat).length-i) ((0:Nat),(L:List Int)) (by exact⟨Nat.zero_le _,BRd.into hB hkL⟩) (wkf id (wS<|wS<|wS<|wS<|wS<|wE (e:=(aO (by rfl)))<|wP<|wP<|wF<|wF<|wF<|wF<|wF<|wF<|wN)) ?_
   rintro⟨i,N⟩ inv5
   replace inv5:i≤(gLs M (gI L k).toNat).length∧BRd M t M.length L k i N:=inv5
   obtain⟨hil,hN⟩:=inv5
   obtain⟨hNk,hkN,hNl,hNd⟩:=hN.fact hB hkL
   have hdl2:=rQ M t M.length N
   have hNd2:gI (dL M t M.length N) (gI N k).toNat=dsD M t (gI L k):=by rw[hNk];exact hNd
   refine sq (sq (rg (zm (zm ?_))))
   refine z ?_ (h:=fun Z=>lnV Z dt)
   refine z ?_ (h:=fun Z=>ab Z vt vt (bP rfl))
   refine nl ?_
   refine wi (fun c6=> ?_) (fun c6=> ?_)
   ·skip
    have c6P:=of_decide_eq_true c6
    have hiL:i<(gLs M (gI L k).toNat).length:=by omega
    have hw:=BRd.w hR hu hiL
    have hneg:=hN.neg hkL hw
    refine sk (sq (bkk (sq (rg (zm (zm (zm ?_)))))))
    refine z ?_ (h:=fun Z=>ixv Z dt gm vt (hlt:=(by omega)))
    refine z ?_ (h:=fun Z=>uI Z gn (by omega))
    refine z ?_ (h:=fun Z=>ix0 (k:=(gI (gLs M ((gI L k).toNat)) i).toNat) Z dt gm vt (Int.toNat_of_nonneg (by omega)).symm (by omega))
    refine z ?_ (h:=fun Z=>lI Z gn (by omega))
    refine z ?_ (h:=fun Z=>ab Z vt vc (bP rfl))
    refine nl ?_
    refine wi (fun c7=> ?_) (fun c7=> ?_)
    ·skip
     have c7P:=of_decide_eq_true c7
     have hgo:=BRd.go hB hkL hR hN hiL (hneg.1 (by assumption))
     have hsl2:=rQ M t M.length (N++[(gI (gLs M (gI L k).toNat) i)])
     refine sq (cg (zdm (zdm (zdm ?_))))
     refine zd ?_ (h:=fun Z=>ixv Z dt gm vt (hlt:=(by omega)))
     refine zd ?_ (h:=fun Z=>uI Z gn (by omega))
     refine zdm (zdm (zdm ?_))
     refine zd ?_ (h:=fun Z=>ix0 Z dt gm vt (hlt:=(by omega)))
     refine zd ?_ (h:=fun Z=>lI Z gn (by omega))
     refine zd ?_ (h:=fun Z=>ix0 (k:=(gI N k).toNat) Z dt gm vt (Int.toNat_of_nonneg (by omega)).symm (by omega))
     refine zd ?_ (h:=fun Z=>lI Z gn (by omega))
     refine zd ?_ (h:=fun Z=>ab Z vt vc (rA (by omega) (by omega)))
     refine zd ?_ (h:=fun Z=>ix0 (k:=(gI (gLs M ((gI L k).toNat)) i).toNat) Z dt gm vt (Int.toNat_of_nonneg (by omega)).symm (by omega))
     refine zd ?_ (h:=fun _=>sI gn xt (by omega))
     refine bJ (rg (zm (zm (zm ?_))))
     refine z ?_ (h:=fun Z=>ixv Z dt gm vt (hlt:=(by omega)))
     refine z ?_ (h:=fun Z=>uI Z gn (by omega))
     refine z ?_ (h:=fun Z=>aR (h:=74) (xs:=isl ([(gI (gLs M ((gI L k).toNat)) i)]:List Int)) Z dt rb (.cons vt OpVs.nil) (by decide) (by decide) (by kernel_rfl) rfl)
     refine z ?_ (h:=fun Z=>aI_ (h2:=75) (L3:=(N++[(gI (gLs M ((gI L k).toNat)) i)])) Z dt rb (by exact rfl) rfl (by exact rfl) (by(simp;omega)))
     refine za (nl (rg (zm ?_)))
     refine z ?_ (h:=fun Z=>ab Z vt vc (rA (by omega) (by omega)))
     refine za (nl ?_)
     exact ar ((i+1),(N++[(gI (gLs M (gI L k).toNat) i)])) (by exact⟨by omega,hgo.1⟩) (by show(gLs M (gI L k).toNat).length-(i+1)<(gLs M (gI L k).toNat).length-i;omega) (wkf (bn [(27,75)]) (wS<|wE (e:=(vsl (by omega) rfl))<|wE (e:=(vsl (by rfl) rfl))<|wS<|wS<|wE (e:=(aO (by rfl)))<|wO (e:=aG (fun h=>h) (congrArg isl (by(rw[hNk];exact hgo.2))))<|wO (e:=aG (fun h=>h) (congrArg isl (by rfl)))<|wF<|wF<|wF<|wF<|wF<|wF<|wN))
    ·skip
     have c7P:=of_decide_eq_false c7
     have hsk:=hN.skip hkL hiL (Classical.not_not.1 fun hn=>absurd (hneg.2 hn) (by assumption))
     refine sk (rg (zm ?_))
     refine z ?_ (h:=fun Z=>ab Z vt vc (rA (by omega) (by omega)))
     refine za (nl ?_)
     exact ar ((i+1),N) (by exact⟨by omega,hsk⟩) (by show(gLs M (gI L k).toNat).length-(i+1)<(gLs M (gI L k).toNat).length-i;omega) (wkf id (wS<|wS<|wS<|wS<|wS<|wE (e:=(aO (by rfl)))<|wP<|wP<|wF<|wF<|wF<|wF<|wF<|wF<|wN))
   ·skip
    have c6P:=of_decide_eq_false c6
    refine aJ (rg (zm ?_))
    refine z ?_ (h:=fun Z=>ab Z vt vc (rA (by omega) (by omega)))
    refine za (nl ?_)
    exact ar ((k+1),N) (by exact BRd.out hB hkL hN (by omega)) (by show M.length-(k+1)<M.length-k;omega) (wkf id (wS<|wS<|wS<|wE (e:=(aO (by rfl)))<|wP<|wP<|wF<|wF<|wF<|wF<|wF<|wF<|wN))
  ·skip
   have c4P:=of_decide_eq_false c4
   refine aJ (sq (rg (zm (za (nl (aq ?_))))))
   exact VRes.tmp _ _ _ (by exact rfl) (wZ (h:=13) (L:=(dL M t M.length L)) (by kernel_rfl) (by exact Mp hB (by omega)) (by rfl))
theorem ox (l:List Int) (q:List Dom) (hl:l.length≤4194304) (hq:q.length≤4194304):FnO Tryz.prog 23 [.agg [(.sl 800 0 l.length:A)],.a (.slv q.length 3 (dsl q))] [(.o 800,some (.o ⟨3,1,true,pl (isl l)⟩))] (V.v (.int .i64 (ixT (ltR l) q))) [(.o 800,some (.o ⟨3,1,true,pl (isl l)⟩))] [800]:=by
 have hll:=ui l
 have hlr:∀ k,k<(ltR l).length→(gLd (ltR l) k).length≤4194304:=fun k hk=>Nat.le_trans (oP hk) (by decide)
 refine co (N:=22) Tryz.func23 rfl (by kernel_rfl) rfl (Nat.le_of_ble_eq_true rfl) rfl rfl (by kernel_rfl) (by kernel_rfl) ⟨bB (fun _=>rfl),trivial⟩ [2,8,11,20] (mn rfl) (fun W own kp im0=> ?_)
 show Wp _ _ _ [kV 0 (V.b (.agg [(.sl 800 0 l.length:A)])),kV 1 (V.b (.a (.slv q.length 3 (dsl q)))),kO 800 3 1 true (pl (isl l)),kF 2,kF 8,kF 11,kF 20]
 refine sq (rg ?_)
 refine z ?_ (h:=fun Z=>aM (h:=2) Z xt (by exact ob1 rfl))
 refine zk (nl (sq (rg ?_)))
 refine z ?_ (h:=fun Z=>aa (xs:=[(.sl 800 0 l.length:A)]) Z pn rfl (by decide) rfl)
 refine z ?_ (h:=fun Z=>bo (d:=8) (f:=26) (os:=[(.o 800,some (.o ⟨3,1,true,pl (isl l)⟩))]) (os':=[(.o 800,some (.o ⟨3,1,true,pl (isl l)⟩))]) (r:=V.b (.a (.slvv 3 (vwD (ltR l))))) (bs:=[.agg [(.sl 800 0 l.length:A)]]) (keep:=[800]) (new:=[]) (dead:=[]) Z ((gS l (by omega))) (by kernel_rfl) ⟨bB (fun _=>rfl),trivial⟩ (by kernel_rfl) (ArgOs.cons (ArgO.slot 7 (.agg [(.sl 800 0 l.length:A)])) (ArgOs.nil)))
 refine za (nl (sq (sq (rg (zk (nl (bkk ?_)))))))
 refine bf (fun(k:Nat)=>k≤(ltR l).length∧∀ i,i<k→gLd (ltR l) i≠q) (fun(k:Nat)=>[kV 1 (V.b (.a (.slv q.length 3 (dsl q)))),kV 5 (V.b (.a (.slvv 3 (vwD (ltR l))))),kI 6 ((k:Nat):Int),kO 800 3 1 true (pl (isl l)),kF 2,kF 8,kF 11,kF 20]) (fun(k:Nat)=>(ltR l).length-k) ((0:Nat)) (by exact⟨Nat.zero_le _,fun i hi=>absurd hi (Nat.not_lt_zero i)⟩) (wkf id (wS<|wS<|wE (e:=(aO (by rfl)))<|wP<|wF<|wF<|wF<|wF<|wN)) ?_
 rintro k inv1
 replace inv1:k≤(ltR l).length∧∀ i,i<k→gLd (ltR l) i≠q:=inv1
 obtain⟨inv1_0,inv1_1⟩:=inv1
 refine sq (sq (rg (zm (zm ?_))))
 refine z ?_ (h:=fun Z=>lnD Z xL)
 refine z ?_ (h:=fun Z=>ab Z vt vt (bP rfl))
 refine nl ?_
 refine wi (fun c2=> ?_) (fun c2=> ?_)
 ·skip
  have c2P:=of_decide_eq_true c2
  refine sk (sq (bkk (sq (rg (zm (zm ?_))))))
  refine z ?_ (h:=fun Z=>xvv Z xL FC vt (hlt:=(by simp only[jL,ib];first |omega |assumption |exact hlr _ (by omega))))
  refine z ?_ (h:=fun Z=>lvD Z FE (by omega))
  refine zm ?_
  refine z ?_ (h:=fun Z=>ah Z (eZ (gLd (ltR l) k) q (by exact hlr _ (by omega)) (by omega)) (ac (ArgV.slv _ _ _ _) (ac (ArgV.slv _ _ _ _) an)) rv)
  refine nl ?_
  refine wi (b:=(decide ((gLd (ltR l) k)=q))) (fun c3=> ?_) (fun c3=> ?_)
  ·skip
   refine sq (rg (zm (za (nl (aq ?_)))))
   exact⟨_,dK,⟨by kernel_rfl,trivial⟩,da 4 (.a (.val (.int .i64 ((k:Nat):Int)))) (.a (.val (.int .i64 (ixT (ltR l) q)))) (by kernel_rfl) (congrArg (fun z:Int=>B.a (.val (.int .i64 z))) (by exact Ds (k:=k) (by omega) (by assumption) (by exact of_decide_eq_true (by assumption))))⟩
  ·skip
   refine sk (rg (zm ?_))
   refine z ?_ (h:=fun Z=>ab Z vt vc (rA (by omega) (by omega)))
   refine za (nl ?_)
   exact ar ((k+1)) (by exact⟨by omega,ne_s (by assumption) (by exact of_decide_eq_false (by assumption))⟩) (by show(ltR l).length-(k+1)<(ltR l).length-k;omega) (wkf id (wS<|wS<|wE (e:=(aO (by rfl)))<|wP<|wF<|wF<|wF<|wF<|wN))
 ·skip
  have c2P:=of_decide_eq_false c2
  refine aJ (sq (rg (zk (nl (aq ?_)))))
  exact⟨_,dK,⟨by kernel_rfl,trivial⟩,da 4 (.a (.val (.int .i64 (-1)))) (.a (.val (.int .i64 (ixT (ltR l) q)))) (by kernel_rfl) (congrArg (fun z:Int=>B.a (.val (.int .i64 z))) (by exact MX (k:=k) (by omega) (by assumption)))⟩
theorem pE (l:List Int) (p q:List Dom) (hl:l.length≤4194304) (hp:p.length≤4194304) (hq:q.length≤4194304):FnO Tryz.prog 11 [.agg [(.sl 800 0 l.length:A)],.a (.slv p.length 3 (dsl p)),.a (.slv q.length 3 (dsl q))] [(.o 800,some (.o ⟨3,1,true,pl (isl l)⟩))] (V.v (.int .i64 (fdR l p q))) [(.o 800,some (.o ⟨3,1,true,pl (isl l)⟩))] [800]:=by
 have hll:=ui l
 have hlr:∀ k,k<(ltR l).length→(gLd (ltR l) k).length≤64:=fun k hk=>Nat.le_trans (oP hk) (by decide)
 have hA:=FlipA.of l
 have hml:=yA (ltR l)
 have hi1:=BR (ltR l) p
 have hi2:=BR (ltR l) q
 have hRI:rC (lkM (ltR l)) (lkM (ltR l)).length:=by rw[hml];exact KO hA
 have hdl:=Dc (lkM (ltR l)) (ixT (ltR l) q) (lkM (ltR l)).length
 refine co (N:=29) Tryz.func11 rfl (by kernel_rfl) rfl (Nat.le_of_ble_eq_true rfl) rfl rfl (by kernel_rfl) (by kernel_rfl) ⟨bB (fun _=>rfl),trivial⟩ [3,11,14,22,23,25,29,30,31,32] (mn rfl) (fun W own kp im0=> ?_)
 show Wp _ _ _ [kV 0 (V.b (.agg [(.sl 800 0 l.length:A)])),kV 1 (V.b (.a (.slv p.length 3 (dsl p)))),kV 2 (V.b (.a (.slv q.length 3 (dsl q)))),kO 800 3 1 true (pl (isl l)),kF 3,kF 11,kF 14,kF 22,kF 23,kF 25,kF 29,kF 30,kF 31,kF 32]
 refine sq (rg ?_)
 refine z ?_ (h:=fun Z=>aM (h:=3) Z xt (by exact ob1 rfl))
 refine zk (nl (sq (rg ?_)))
 refine z ?_ (h:=fun Z=>aa (xs:=[(.sl 800 0 l.length:A)]) Z pn rfl (by decide) rfl)
 refine zm ?_
 refine z ?_ (h:=fun Z=>bo (d:=11) (f:=23) (os:=[(.o 800,some (.o ⟨3,1,true,pl (isl l)⟩))]) (os':=[(.o 800,some (.o ⟨3,1,true,pl (isl l)⟩))]) (r:=V.v (.int .i64 (ixT (ltR l) p))) (bs:=[.agg [(.sl 800 0 l.length:A)],.a (.slv p.length 3 (dsl p))]) (keep:=[800]) (new:=[]) (dead:=[]) Z ((ox l p (by omega) (by omega))) (by kernel_rfl) ⟨bB (fun _=>rfl),trivial⟩ (by kernel_rfl) (ArgOs.cons (ArgO.slot 9 (.agg [(.sl 800 0 l.length:A)])) (ArgOs.cons (ArgO.slot 10 (.a (.slv p.length 3 (dsl p)))) (ArgOs.nil))))
 refine za (nl (sq (rg ?_)))
 refine z ?_ (h:=fun Z=>aa (xs:=[(.sl 800 0 l.length:A)]) Z pn rfl (by decide) rfl)
 refine zm ?_
 refine z ?_ (h:=fun Z=>bo (d:=14) (f:=23) (os:=[(.o 800,some (.o ⟨3,1,true,pl (isl l)⟩))]) (os':=[(.o 800,some (.o ⟨3,1,true,pl (isl l)⟩))]) (r:=V.v (.int .i64 (ixT (ltR l) q))) (bs:=[.agg [(.sl 800 0 l.length:A)],.a (.slv q.length 3 (dsl q))]) (keep:=[800]) (new:=[]) (dead:=[]) Z ((ox l q (by omega) (by omega))) (by kernel_rfl) ⟨bB (fun _=>rfl),trivial⟩ (by kernel_rfl) (ArgOs.cons (ArgO.slot 12 (.agg [(.sl 800 0 l.length:A)])) (ArgOs.cons (ArgO.slot 13 (.a (.slv q.length 3 (dsl q)))) (ArgOs.nil))))
 refine za (nl (sq (sq ?_)))
 rcases Bool.eq_false_or_eq_true (decide ((ixT (ltR l) p)<0))with c1 |c1
 ·skip
  have c1P:=of_decide_eq_true c1
  refine rg (zm ?_)
  refine z ?_ (h:=fun Z=>ab Z vt vc (bP (c:=true) c1))
  refine zm (zo (zo ?_))
  refine z ?_ (h:=fun Z=>al Z vt xc)
  refine nl (wt (sq (rg (zk (nl (aq ?_))))))
  exact⟨_,dK,⟨by kernel_rfl,trivial⟩,da 6 (.a (.val (.int .i64 (-1)))) (.a (.val (.int .i64 (fdR l p q)))) (by kernel_rfl) (congrArg (fun z:Int=>B.a (.val (.int .i64 z))) (by exact(GN (by omega)).symm))⟩
 ·skip
  have c1P:=of_decide_eq_false c1
  refine rg (zm ?_)
  refine z ?_ (h:=fun Z=>ab Z vt vc (bP (c:=false) c1))
  refine zm ?_
  refine zg ?_ (h:=fun Z=>ae rfl rfl (mt Z))
  refine zg ?_ (h:=fun Z=>ae rfl rfl (ab Z vt vc (bP rfl)))
  refine z ?_ (h:=fun Z=>ao Z vt xt)
  refine nl ?_
  refine wi (fun c2=> ?_) (fun c2=> ?_)
  ·skip
   have c2P:=of_decide_eq_true c2
   refine sq (rg (zk (nl (aq ?_))))
   exact⟨_,dK,⟨by kernel_rfl,trivial⟩,da 6 (.a (.val (.int .i64 (-1)))) (.a (.val (.int .i64 (fdR l p q)))) (by kernel_rfl) (congrArg (fun z:Int=>B.a (.val (.int .i64 z))) (by exact(GN (by omega)).symm))⟩
  ·skip
   have c2P:=of_decide_eq_false c2
   refine sk (sq (rg ?_))
   refine z ?_ (h:=fun Z=>aa (xs:=[(.sl 800 0 l.length:A)]) Z pn rfl (by decide) rfl)
   refine z ?_ (h:=fun Z=>bo (d:=22) (f:=26) (os:=[(.o 800,some (.o ⟨3,1,true,pl (isl l)⟩))]) (os':=[(.o 800,some (.o ⟨3,1,true,pl (isl l)⟩))]) (r:=V.b (.a (.slvv 3 (vwD (ltR l))))) (bs:=[.agg [(.sl 800 0 l.length:A)]]) (keep:=[800]) (new:=[]) (dead:=[]) Z ((gS l (by omega))) (by kernel_rfl) ⟨bB (fun _=>rfl),trivial⟩ (by kernel_rfl) (ArgOs.cons (ArgO.slot 21 (.agg [(.sl 800 0 l.length:A)])) (ArgOs.nil)))
   refine z ?_ (h:=fun Z=>bo (d:=23) (f:=25) (os:=[]) (os':=[]) (r:=V.b (.a (.slvv 1 (vwI (lkM (ltR l)))))) (bs:=[.a (.slvv 3 (vwD (ltR l)))]) (keep:=[]) (new:=[]) (dead:=[]) Z ((sK (ltR l) (by omega) (by omega))) (by kernel_rfl) trivial (by kernel_rfl) (ArgOs.cons (ArgO.slot 22 (.a (.slvv 3 (vwD (ltR l))))) (ArgOs.nil)))
   refine zm ?_
   refine z ?_ (h:=fun Z=>ah Z (oz (lkM (ltR l)) (ixT (ltR l) q) (by omega) (by omega) (by(intro k hk;exact Nat.le_trans (Hw hA hk) (by decide))) (by omega)) (ac (ArgV.slvv _ _ _) (ac (ArgV.v vt) an)) (ResV.row _ _ _ _ 25))
   refine zm ?_
   refine z ?_ (h:=fun Z=>ix0 (k:=(ixT (ltR l) p).toNat) Z dt gm vt (Int.toNat_of_nonneg (by omega)).symm (by omega))
   refine z ?_ (h:=fun Z=>lI Z gn (by omega))
   refine za (nl (aq ?_))
   exact⟨_,dK,⟨by kernel_rfl,trivial⟩,da 6 (.a (.val (.int .i64 (gI (dsM (lkM (ltR l)) (ixT (ltR l) q) (lkM (ltR l)).length) ((ixT (ltR l) p).toNat))))) (.a (.val (.int .i64 (fdR l p q)))) (by kernel_rfl) (congrArg (fun z:Int=>B.a (.val (.int .i64 z))) (by(rw[Df (by omega) (by omega)];exact MM (by omega) (by omega))))⟩
end Cl
end Go.Proofs.YtonlghbbdcddoaaGreat
