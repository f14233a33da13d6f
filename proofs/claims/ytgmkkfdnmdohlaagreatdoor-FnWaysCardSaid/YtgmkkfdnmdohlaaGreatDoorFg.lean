/- Walks. -/
import Derived.Test.YtgmkkfdnmdohlaaGreatDoorDf
import Derived.Test.YtgmkkfdnmdohlaaGreatDoorFv
import Derived.Test.YtgmkkfdnmdohlaaGreatDoorGA
import Derived.Test.YtgmkkfdnmdohlaaGreatDoorEA
import Derived.Test.YtgmkkfdnmdohlaaGreatDoorClB
set_option linter.unusedSimpArgs false
set_option linter.unusedVariables false
set_option maxHeartbeats 4000000
set_option maxRecDepth 100000
namespace Go.Proofs.YtgmkkfdnmdohlaaGreatDoor
namespace Cl
open Go.ChangeShapes Go.WideShapes Go.ChangeAt Go.RowKit
theorem JJ {l:List Int} (ho:bj l=true) (hh:gK (ao l)=1) {P Q:List Dom} (hP:P∈ltR l) (hQ:Q∈ltR l):fdR l P Q=((gap P Q/4:Nat):Int):=by
 have hA:=FlipA.of l
 have hi:=cC hP
 have hj:=cC hQ
 rw[fI (by omega) (by omega)]
 obtain⟨k,hk,hw⟩:=KI ho hh _ Q P (Nat.le_refl _) (hA.ti Q hQ) (hA.ti P hP)
 have e:=lR P Q
 refine DK hA hQ hP (.inl ⟨gap P Q/4,rfl,?_,fun m hm=> ?_⟩)
 ·rw[show gap P Q/4=k by omega];exact hw
 ·have:=hm.lip (hA.ti Q hQ);omega
def gF (l:List Dom) (cs:List Cel):Option (List Dom):=cs.foldlM (fun o c=>if cS o c.x c.y then some (aR o c)else none) l
def lG (l:List Dom) (cs:List Cel):List Dom:=if 200<cs.length then l else(gF l cs).getD l
def fOk (l:List Dom) (cs:List Cel):Bool:= !(decide (200<cs.length))&&(gF l cs).isSome
theorem BE {l o:List Dom} {cs:List Cel} {k:Nat} (h:k<cs.length) (hg:gF l (cs.take k)=some o) (hc:cS o (gC cs k).x (gC cs k).y=true):gF l (cs.take (k+1))=some (aR o (gC cs k)):=by
 unfold gF at*
 rw[List.take_succ_eq_append_getElem h,List.foldlM_append,hg,←gk h]
 simp [hc]
theorem Ee {l o:List Dom} {cs:List Cel} {k:Nat} (h:k<cs.length) (hg:gF l (cs.take k)=some o) (hc:cS o (gC cs k).x (gC cs k).y=false):gF l cs=none:=by
 have e:cs=cs.take k++gC cs k::cs.drop (k+1):=by
  rw[gk h,←List.drop_eq_getElem_cons h,List.take_append_drop]
 unfold gF at*
 rw[e,List.foldlM_append,hg]
 simp [hc]
theorem Ag {l o:List Dom} {cs:List Cel} {k:Nat} (h:k<cs.length) (hg:gF l (cs.take k)=some o) (hc:cS o (gC cs k).x (gC cs k).y=false):l=lG l cs∧false=fOk l cs:=by
 have:=Ee h hg hc
 unfold lG fOk;rw[this];simp
theorem BD (cs:List Cel):∀ (l o:List Dom),gF l cs=some o→o.length≤l.length+2*cs.length:=by
  induction cs with
  | nil=>intro l o h;simp [gF]at h;subst h;simp
  | cons c cs ih=>
    intro l o h
    unfold gF at h
    rw[List.foldlM_cons]at h
    by_cases hc:cS l c.x c.y=true
    · simp only[hc,if_true,Option.bind_eq_bind,Option.bind_some]at h
      have h1:=ih _ _ h
      have h2:=nO l c
      simp;omega
    · simp [hc]at h
theorem DP (l:List Dom) (cs:List Cel):(lG l cs).length≤l.length+400:=by
 unfold lG
 split
 ·omega
 ·cases h:gF l cs with
  | none=>simp
  | some o=>have:=BD cs l o h;simp;omega
theorem ux {l:List Dom} {cs:List Cel} (h:200<cs.length):l=lG l cs∧false=fOk l cs:=by
 unfold lG fOk;simp [h]
theorem xp {l o:List Dom} {cs:List Cel} {k:Nat} (hk:¬(k:Int)<(cs.length:Int)) (h2:cs.length≤200) (hg:gF l (cs.take k)=some o):o=lG l cs∧true=fOk l cs:=by
 rw[List.take_of_length_le (by omega)]at hg
 unfold lG fOk;rw[hg];simp;omega
theorem xA {s:Nat} {a:List (List Dom)} (hA:FlipA s a) {P T:List Dom} (hP:P∈a) (hT:T∈a):∀ j:Nat,(j:Int)≤dsD (lkM a) (ixT a T) (ixT a P)→gF P (wyL a (ixT a T) P j)=some (wyP a (ixT a T) P j)
  | 0,_=>rfl
  | j+1,h=>by
    obtain⟨h1,h2⟩:=wT hA hP hT j (by omega)
    have hc:=iR (Gj hA h1 hT (by omega)).1
    have ih:=xA hA hP hT j (by omega)
    unfold gF at ih⊢
    rw[wyL,List.foldlM_append,ih]
    simp [hc,wyP]
theorem GI {s:Nat} {a:List (List Dom)} (hA:FlipA s a) {P T:List Dom} (hP:P∈a) (hT:T∈a) (h0:0≤dsD (lkM a) (ixT a T) (ixT a P)) (h:dsD (lkM a) (ixT a T) (ixT a P)≤200):
  lG P (wyL a (ixT a T) P (dsD (lkM a) (ixT a T) (ixT a P)).toNat)=T∧fOk P (wyL a (ixT a T) P (dsD (lkM a) (ixT a T) (ixT a P)).toNat)=true:=by
 have hg:=xA hA hP hT (dsD (lkM a) (ixT a T) (ixT a P)).toNat (by omega)
 obtain⟨h1,h2⟩:=wT hA hP hT (dsD (lkM a) (ixT a T) (ixT a P)).toNat (by omega)
 have h3:=oT h1 hT ((oI hA h1 hT).1 (by omega))
 have hl:=nv a (ixT a T) P (dsD (lkM a) (ixT a T) (ixT a P)).toNat
 unfold lG fOk
 rw[hg,hl,if_neg (by omega),h3]
 exact⟨rfl,by simp;omega⟩
theorem wj {a:List (List Dom)} (hn:a.Nodup) {k:Nat} (hk:k<a.length):ixT a (gLd a k)=(k:Int):=by
 have hm:gLd a k∈a:=by rw[cI hk];exact List.getElem_mem hk
 have h0:=cC hm
 obtain⟨h1,h2⟩:=jV h0
 have:=Ap hn h1 hk h2
 omega
theorem FW.app {n m:Nat} {P Q R:List Dom} (h:FW n P Q):FW m Q R→FW (n+m) P R:=by
 induction h with
 | nil P=>intro h;rw[Nat.zero_add];exact h
 | step n P Q c hc _ ih=>intro h;rw[Nat.add_right_comm];exact .step _ _ _ c hc (ih h)
theorem yF {l:List Int} {p q:List Dom} (hp:p∈ltR l) (hq:q∈ltR l):fdR l p q=fdR l q p:=by
 have h1:=cC hp;have h2:=cC hq
 rw[fI (by omega) (by omega),fI (by omega) (by omega),xo (FlipA.of l) hq hp]
theorem CV {l:List Int} {p q:List Dom} (hp:p∈ltR l) (hq:q∈ltR l):fdR l p q=0↔p=q:=by
 have h1:=cC hp;have h2:=cC hq
 rw[fI (by omega) (by omega),oI (FlipA.of l) hp hq]
 exact⟨fun h=>oT hp hq h,fun h=>by rw[h]⟩
theorem CU {l:List Int} (ho:bj l=true) (hh:gK (ao l)=1) (hn:0<(ltR l).length):prN (lkM (ltR l)) (ltR l).length=1:=by
 refine HG hn fun j hj=> ?_
 have hA:=FlipA.of l
 have m0:gLd (ltR l) 0∈ltR l:=by rw[cI hn];exact List.getElem_mem hn
 have mj:gLd (ltR l) j∈ltR l:=by rw[cI hj];exact List.getElem_mem hj
 have e0:=wj hA.nd hn
 have ej:=wj hA.nd hj
 have:=JJ ho hh mj m0
 rw[fI (by omega) (by omega),e0,ej]at this
 rw[show((0:Nat):Int)=0 from rfl]at this
 rw[this];omega
theorem IB {l:List Int} (hn:0<(ltR l).length) (h:prN (lkM (ltR l)) (ltR l).length=1) {p q:List Dom} (hp:p∈ltR l) (hq:q∈ltR l):0≤fdR l p q:=by
 have hA:=FlipA.of l
 have m0:gLd (ltR l) 0∈ltR l:=by rw[cI hn];exact List.getElem_mem hn
 have e0:=wj hA.nd hn
 have hw:∀ x∈ltR l,∃ n,FW n (gLd (ltR l) 0) x:=fun x hx=>by
  have h1:=cC hx
  have h2:=(gp (ltR l) x).1
  have h3:=EU hn h (ixT (ltR l) x).toNat (by omega)
  rw[show(((ixT (ltR l) x).toNat:Nat):Int)=ixT (ltR l) x by omega]at h3
  have h4:=kf h3
  generalize (dsD (lkM (ltR l)) 0 (ixT (ltR l) x)).toNat=n at h4
  rw[show(0:Int)=((0:Nat):Int) from rfl,←e0]at h4
  exact⟨n,(it hA m0 hx).1 h4⟩
 obtain⟨m,hm⟩:=hw q hq
 obtain⟨k,hk⟩:=hw p hp
 have h1:=cC hp;have h2:=cC hq
 rw[fI (by omega) (by omega)]
 exact(st ((it hA hq hp).2 ((hm.back (hA.ti _ m0)).app hk))).1
theorem Gc {l:List Int} {p q:List Dom} (hp:p∈ltR l) (hq:q∈ltR l):ixT (ltR l) q∈fnR l p↔fdR l p q=1:=by
 have hA:=FlipA.of l
 have h1:=cC hp;have h2:=cC hq
 rw[yF hp hq,fI (by omega) (by omega),Aj (by omega),(my _).mem_iff,←tB hA hp]
 constructor
 ·intro h
  have h3:=su (M:=lkM (ltR l)) (t:=ixT (ltR l) p) (u:=ixT (ltR l) p) (w:=ixT (ltR l) q) (by rw[jk];omega) h
  rw[jk]at h3
  have h4:dsD (lkM (ltR l)) (ixT (ltR l) p) (ixT (ltR l) q)≠0:=fun e=>by
   have:=oT hq hp ((oI hA hq hp).1 e)
   subst this
   rw[tB hA hp]at h
   obtain⟨c,hc,e2⟩:=List.mem_map.1 h
   exact GO (hA.ti _ hp) (iR hc) (oT (hA.flip hp hc) hp e2)
  omega
 ·intro h
  have:=kf (M:=lkM (ltR l)) (t:=ixT (ltR l) p) (v:=ixT (ltR l) q) (by omega)
  rw[h]at this
  cases this with
  | snoc _ _ v _ h3 hw=>cases h3;exact hw
theorem Cn:(Tryz.prog.info? 70).map (·.size)=some 2:=by kernel_rfl
theorem Co:TI Tryz.prog 70 true 2:=⟨⟨_,Tryz.underlying70,rfl⟩,by kernel_rfl⟩
theorem jb:Tryz.prog.underlying 31=some (.slice 62):=Tryz.underlying31
theorem qs:Tryz.prog.underlying 36=some (.slice 70):=Tryz.underlying36
theorem jc:ZI Tryz.prog 62 (.agg #[.int .i64 0,.int .i64 0,.bool false]) 3 24:=by unfold ZI;kernel_rfl
theorem rz (l:List Dom) (cs:List Cel) (hl:l.length≤1024) (hc:cs.length≤1024):Fn Tryz.prog 26 [.a (.slv l.length 3 (dsl l)),.a (.slv cs.length 2 (csl cs))] [.row 62 3 (lG l cs).length (dsl (lG l cs)),.val (.bool (fOk l cs))]:=by
 refine bm (N:=40) Tryz.func26 rfl (by kernel_rfl) rfl (Nat.le_of_ble_eq_true rfl) [10,12,15,25,32,35,37] (ret2 rfl rfl (by intro u hu;injection hu with hu;subst hu;rfl)) (fun W=> ?_)
 show Wp _ _ _ [kV 0 (V.b (.a (.slv l.length 3 (dsl l)))),kV 1 (V.b (.a (.slv cs.length 2 (csl cs)))),kF 10,kF 12,kF 15,kF 25,kF 32,kF 35,kF 37]
 refine sq (rg (zk (zk (nl (sq (rg ?_))))))
 refine z ?_ (h:=fun Z=>b0D (h:=10) Z jb jc)
 refine zm ?_
 refine z ?_ (h:=fun Z=>gf (h2:=12) (m:=l.length) (nm:=l.length) (X:= .slv l.length 3 (dsl l)) (xs:=dsl []) (ys:=dsl l) (zs:=dsl l) Z jb jc rfl (by decide) (by decide) (by exact cc _) xt (Src.slv _ _ _) (kg _) (by omega) (by exact(dv _ _).symm) (by(simp;done)))
 refine za (nl (sq (sq (rg (zk (nl (bkk ?_)))))))
 refine bg (fun((k,out):Nat × (List Dom))=>k≤cs.length∧gF l (cs.take k)=some out∧out.length≤l.length+2*k∧(k=0∨cs.length≤200)) (fun((k,out):Nat × (List Dom))=>[kV 0 (V.b (.a (.slv l.length 3 (dsl l)))),kV 1 (V.b (.a (.slv cs.length 2 (csl cs)))),kS 6 12 0 out.length,kI 7 ((k:Nat):Int),kO 12 62 3 true (pl (dsl out)),kF 15,kF 25,kF 32,kF 35,kF 37]) (fun((k,out):Nat × (List Dom))=>cs.length-k) ((0:Nat),(l:List Dom)) (by exact⟨Nat.zero_le _,rfl,by omega,.inl rfl⟩) (wkf id (wS<|wS<|wS<|wE (e:=(be (by rfl)))<|wP<|wF<|wF<|wF<|wF<|wF<|wN)) ?_
 rintro⟨k,out⟩ inv1
 replace inv1:k≤cs.length∧gF l (cs.take k)=some out∧out.length≤l.length+2*k∧(k=0∨cs.length≤200):=inv1
 obtain⟨inv1_0,inv1_1,inv1_2,inv1_3⟩:=inv1
 refine sq (sq (rg (zm (zm ?_))))
 refine z ?_ (h:=fun Z=>lnV Z qs)
 refine z ?_ (h:=fun Z=>aa Z vt vt (bA rfl))
 refine nl ?_
 refine wi (fun c2=> ?_) (fun c2=> ?_)
 ·skip
  have c2P:=of_decide_eq_true c2
  refine sk (sq (bkk (sq (rg (zm (zm (zm ?_)))))))
  refine z ?_ (h:=fun Z=>ixv Z qs Cn vt)
  refine z ?_ (h:=fun Z=>uC Z Co)
  refine z ?_ (h:=fun Z=>cH Z (tL out (gC cs k) (by omega)) (ac (ci (by exact cc _)) (ac (ArgV.va va) an)) (ResV.row _ _ _ _ 25) rv)
  refine zm ?_
  refine z ?_ (h:=fun Z=>ba Z (by exact rfl))
  refine z ?_ (h:=fun Z=>ba Z (by exact rfl))
  refine za (za (nl (sq (sq ?_))))
  rcases Bool.eq_false_or_eq_true ((cS out (gC cs k).x (gC cs k).y))with c3 |c3
  ·skip
   rw[c3]
   refine rg (zm ?_)
   refine z ?_ (h:=fun Z=>bn Z vt (bS (c:=false) rfl))
   refine zm ?_
   refine zg ?_ (h:=fun Z=>ae rfl rfl (mt Z))
   refine zg ?_ (h:=fun Z=>ae rfl rfl (lnV Z qs))
   refine zg ?_ (h:=fun Z=>ae rfl rfl (aa Z vt vc (vz rfl)))
   refine z ?_ (h:=fun Z=>ar Z vt xt)
   refine nl ?_
   refine wi (fun c4=> ?_) (fun c4=> ?_)
   ·skip
    have c4P:=of_decide_eq_true c4
    refine sq (rg ?_)
    refine z ?_ (h:=fun Z=>b0D (h:=35) Z jb jc)
    refine zm ?_
    refine z ?_ (h:=fun Z=>gf (h2:=37) (m:=l.length) (nm:=l.length) (X:= .slv l.length 3 (dsl l)) (xs:=dsl []) (ys:=dsl l) (zs:=dsl l) Z jb jc rfl (by decide) (by decide) (by exact cc _) xt (Src.slv _ _ _) (kg _) (by omega) (by exact(dv _ _).symm) (by(simp;done)))
    refine za (zk (nl (aC ?_)))
    exact⟨VRes.tmp _ _ _ (by exact rfl) (fg (h:=37) (L:=l) (by kernel_rfl) (by exact(ux (by omega)).1) (by rfl)),VRes.tmp _ _ _ (by exact rfl) (ce (congrArg Value.bool (by exact(ux (by omega)).2)))⟩
   ·skip
    have c4P:=of_decide_eq_false c4
    refine sk (rg (zm (za (nl (rg (zm ?_))))))
    refine z ?_ (h:=fun Z=>aa Z vt vc rA)
    refine za (nl ?_)
    exact aA ((k+1),(aR out (gC cs k))) (by refine⟨by omega,BE (by omega) (by assumption) (by assumption),?_,by omega⟩;have:=nO out (gC cs k);omega) (by show cs.length-(k+1)<cs.length-k;omega) (wkf (aX [(12,25)]) (wS<|wS<|wS<|wE (e:=(be (by rfl)))<|wP<|wF<|wF<|wF<|wF<|wF<|wN))
  ·skip
   rw[c3]
   refine rg (zm ?_)
   refine z ?_ (h:=fun Z=>bn Z vt (bS (c:=true) rfl))
   refine zm (zo (zo (zo ?_)))
   refine z ?_ (h:=fun Z=>au Z vt xc)
   refine nl (wt (sq (rg ?_)))
   refine z ?_ (h:=fun Z=>b0D (h:=35) Z jb jc)
   refine zm ?_
   refine z ?_ (h:=fun Z=>gf (h2:=37) (m:=l.length) (nm:=l.length) (X:= .slv l.length 3 (dsl l)) (xs:=dsl []) (ys:=dsl l) (zs:=dsl l) Z jb jc rfl (by decide) (by decide) (by exact cc _) xt (Src.slv _ _ _) (kg _) (by omega) (by exact(dv _ _).symm) (by(simp;done)))
   refine za (zk (nl (aC ?_)))
   exact⟨VRes.tmp _ _ _ (by exact rfl) (fg (h:=37) (L:=l) (by kernel_rfl) (by exact(Ag (k:=k) (by omega) (by assumption) (by assumption)).1) (by rfl)),VRes.tmp _ _ _ (by exact rfl) (ce (congrArg Value.bool (by exact(Ag (k:=k) (by omega) (by assumption) (by assumption)).2)))⟩
 ·skip
  have c2P:=of_decide_eq_false c2
  refine aU (sq (rg (zm (za (zk (nl (aC ?_)))))))
  exact⟨VRes.tmp _ _ _ (by exact rfl) (fg (h:=12) (L:=out) (by kernel_rfl) (by exact(xp (k:=k) (by omega) (by omega) (by assumption)).1) (by rfl)),VRes.tmp _ _ _ (by exact rfl) (ce (congrArg Value.bool (by exact(xp (k:=k) (by omega) (by omega) (by assumption)).2)))⟩
end Cl
end Go.Proofs.YtgmkkfdnmdohlaaGreatDoor
