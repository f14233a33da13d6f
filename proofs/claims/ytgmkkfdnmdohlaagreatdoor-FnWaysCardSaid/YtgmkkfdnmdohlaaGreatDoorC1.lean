/- Walks. -/
import Derived.Test.YtgmkkfdnmdohlaaGreatDoorC0
import Derived.Test.YtgmkkfdnmdohlaaGreatDoorClB
set_option linter.unusedSimpArgs false
set_option linter.unusedVariables false
set_option maxHeartbeats 4000000
set_option maxRecDepth 100000
namespace Go.Proofs.YtgmkkfdnmdohlaaGreatDoor
namespace Cl
open Go.ChangeShapes Go.WideShapes Go.ChangeAt Go.RowKit
theorem zG {l:List Int} {k:Nat} (hk:k<l.length) (h:inB (gI l k) 0 255=false):bj l=false:=by
 unfold bj fE
 have:l.all (fun x=>inB x 0 255)=false:=by
  rw[List.all_eq_false];exact⟨l[k],List.getElem_mem hk,by rw[dh hk]at h;simp [h]⟩
 rw[this];simp
theorem yw {l:List Int} (h:fE l 0 255=true):bj l=decide (l.length≤8):=by unfold bj;rw[h];simp
theorem yL {l:List Int} {k:Nat} (hk:k<l.length) (h:fE (l.take k) 0 255=true) (h2:inB (gI l k) 0 255=true):fE (l.take (k+1)) 0 255=true:=by
 unfold fE at*;rw[List.take_succ_eq_append_getElem hk,List.all_append,h];simp [←dh hk,h2]
theorem Bq {l:List Int} {k:Nat} (hk:¬(k:Int)<(l.length:Int)) (h:fE (l.take k) 0 255=true):fE l 0 255=true:=by rwa [List.take_of_length_le (by omega)]at h
theorem dE:bK Tryz.prog 29 0=some 0:=by kernel_rfl
theorem ya:bK Tryz.prog 70 0=some 0:=by kernel_rfl
theorem mf:bK Tryz.prog 70 1=some 1:=by kernel_rfl
theorem te:(Tryz.prog.info? 3).map (·.size)=some 1:=by kernel_rfl
theorem eE:TI Tryz.prog 22 false 1:=⟨⟨_,Tryz.underlying22,rfl⟩,by kernel_rfl⟩
theorem iV:TI Tryz.prog 29 true 1:=⟨⟨_,Tryz.underlying29,rfl⟩,by kernel_rfl⟩
theorem js:TI Tryz.prog 3 false 1:=⟨⟨_,Tryz.underlying3,rfl⟩,by kernel_rfl⟩
theorem dm:TI Tryz.prog 70 true 2:=⟨⟨_,Tryz.underlying70,rfl⟩,by kernel_rfl⟩
theorem eF:Tryz.prog.underlying 22=some (.slice 3):=Tryz.underlying22
theorem Fa:Tryz.prog.underlying 3=some (.int .i64):=Tryz.underlying3
theorem iW:Tryz.prog.underlying 36=some (.slice 70):=Tryz.underlying36
theorem BV:Tryz.prog.underlying 82=some (.int .u64):=Tryz.underlying82
theorem fS:ZI Tryz.prog 70 (.agg #[.int .i64 0,.int .i64 0]) 2 16:=by unfold ZI;kernel_rfl
theorem nB (c:Cel):Fn Tryz.prog 105 [.agg ([vI c.x,vI c.y].map A.val)] [.row 70 2 (nbs c).length (csl (nbs c))]:=by
 refine bm (N:=25) Tryz.func105 rfl (by kernel_rfl) rfl (Nat.le_of_ble_eq_true rfl) [1,5,7,14,19,22,23] (dN rfl) (fun W=> ?_)
 show Wp _ _ _ [kV 0 (V.av [vI c.x,vI c.y]),kF 1,kF 5,kF 7,kF 14,kF 19,kF 22,kF 23]
 refine sq (rg ?_)
 refine z ?_ (h:=fun Z=>bo (h:=1) Z xt (by exact ob1 rfl))
 refine zk (nl (sq (rg ?_)))
 refine z ?_ (h:=fun Z=>b0C (h:=7) Z iW fS)
 refine za (nl (sq (sq (rg (zk (nl (bkk ?_)))))))
 refine bg (fun(k:Nat)=>k≤64) (fun(k:Nat)=>[kP 1 1 0,kS 3 7 0 ((((List.range k).filter (fun i=>nbr c (cN i))).map cN).length),kI 4 ((k:Nat):Int),kO 1 70 2 true [aI c.x,aI c.y],kO 7 70 2 true (pl (csl (((List.range k).filter (fun i=>nbr c (cN i))).map cN))),kF 5,kF 14,kF 19,kF 22,kF 23]) (fun(k:Nat)=>64-k) ((0:Nat)) (by exact(by omega:0≤64)) (wkf id (wS<|wE (e:=(vsl (by rfl) rfl))<|wE (e:=(be (by rfl)))<|wX<|wO (e:=aJ (fun h=>h) (congrArg csl (by rfl)))<|wF<|wF<|wF<|wF<|wF<|wN)) ?_
 rintro k inv1
 replace inv1:k≤64:=inv1
 have inv:=inv1
 have hfl:=nq (fun i=>nbr c (cN i)) k
 refine sq (sq (rg (zm ?_)))
 refine z ?_ (h:=fun Z=>aa Z vt vc (bA rfl))
 refine nl ?_
 refine wi (fun c2=> ?_) (fun c2=> ?_)
 ·skip
  have c2P:=of_decide_eq_true c2
  refine sk (sq (bkk (sq (rg (zm ?_)))))
  refine z ?_ (h:=fun Z=>cH Z (gx k (by omega)) (ac (ArgV.v vt) an) (ResV.agg [vI ((cN k).x),vI ((cN k).y)]) rv)
  refine zm ?_
  refine z ?_ (h:=fun Z=>ba Z (by exact rfl))
  refine z ?_ (h:=fun Z=>ba Z (by exact rfl))
  refine z ?_ (h:=fun Z=>aL (h:=5) (cap:=1) (s:=2) (cells:=[aI 0,aI 0]) Z fS rfl rfl (by decide))
  refine z ?_ (h:=fun _=>aE (cells:=[aI ((cN k).x),aI ((cN k).y)]) dm xt (by exact rfl) (by decide) (by exact ob1 rfl) (by exact Nat.le_of_ble_eq_true rfl) (by exact rfl))
  refine za (nl (sq (rg ?_)))
  refine z ?_ (h:=fun Z=>ab (xs:=[vI c.x,vI c.y].map A.val) Z dm rfl (by decide) rfl)
  refine z ?_ (h:=fun Z=>ab (xs:=[vI ((cN k).x),vI ((cN k).y)].map A.val) Z dm rfl (by decide) rfl)
  refine z ?_ (h:=fun Z=>ag Z (mu c (cN k) ) (ac (ArgV.va va) (ac (ArgV.va va) an)) rv)
  refine nl ?_
  refine wi (b:=(nbr c (cN k))) (fun c3=> ?_) (fun c3=> ?_)
  ·skip
   refine rg (zm ?_)
   refine z ?_ (h:=fun Z=>ab (xs:=[vI ((cN k).x),vI ((cN k).y)].map A.val) Z dm rfl (by decide) rfl)
   refine z ?_ (h:=fun Z=>aP (h:=22) (xs:=csl ([(cN k)]:List Cel)) Z iW fS (.cons va OpVs.nil) (by decide) (by decide) (by kernel_rfl) rfl)
   refine z ?_ (h:=fun Z=>aC_ (h2:=23) (L3:=((((List.range k).filter (fun i=>nbr c (cN i))).map cN)++[(cN k)])) Z iW fS (by exact rfl) rfl (by exact rfl) (by(simp at*;omega)))
   refine za (nl (rg (zm ?_)))
   refine z ?_ (h:=fun Z=>aa Z vt vc rA)
   refine za (nl ?_)
   exact aA ((k+1)) (by show _≤_;omega) (by show 64-(k+1)<64-k;omega) (wkf (aX [(7,23)]) (wS<|wE (e:=(vsl (by(exact congrArg List.length (by first |rfl |exact fq (p:=fun i=>nbr c (cN i)) (by assumption) |exact gu (p:=fun i=>nbr c (cN i)) (by assumption) |omega))) rfl))<|wE (e:=(be (by rfl)))<|wX<|wO (e:=aJ (fun h=>h) (congrArg csl (by exact fq (p:=fun i=>nbr c (cN i)) (by assumption))))<|wF<|wF<|wF<|wF<|wF<|wN))
  ·skip
   refine sk (rg (zm ?_))
   refine z ?_ (h:=fun Z=>aa Z vt vc rA)
   refine za (nl ?_)
   exact aA ((k+1)) (by show _≤_;omega) (by show 64-(k+1)<64-k;omega) (wkf id (wS<|wE (e:=(vsl (by(exact congrArg List.length (by first |rfl |exact fq (p:=fun i=>nbr c (cN i)) (by assumption) |exact gu (p:=fun i=>nbr c (cN i)) (by assumption) |omega))) rfl))<|wE (e:=(be (by rfl)))<|wX<|wO (e:=aJ (fun h=>h) (congrArg csl (by exact gu (p:=fun i=>nbr c (cN i)) (by assumption))))<|wF<|wF<|wF<|wF<|wF<|wN))
 ·skip
  have c2P:=of_decide_eq_false c2
  refine aU (sq (rg (zm (za (nl (aC ?_))))))
  exact VRes.tmp _ _ _ (by exact rfl) (iQ (h:=7) (L:=(((List.range k).filter (fun i=>nbr c (cN i))).map cN)) (by kernel_rfl) (by(have e:k=64:=by omega);subst e;exact xN c) (by rfl))
theorem bX (s:Nat) (c:Cel) (hs:s<18446744073709551616):Fn Tryz.prog 122 [.a (.val (.int .u64 ((s:Nat):Int))),.agg ([vI c.x,vI c.y].map A.val)] [.val (.bool (bO s c))]:=by
 refine bm (N:=15) Tryz.func122 rfl (by kernel_rfl) rfl (Nat.le_of_ble_eq_true rfl) [3,6,10] (dN rfl) (fun W=> ?_)
 show Wp _ _ _ [kU 0 ((s:Nat):Int),kV 1 (V.av [vI c.x,vI c.y]),kF 3,kF 6,kF 10]
 refine sq (rg ?_)
 refine z ?_ (h:=fun Z=>bo (h:=3) Z xt (by exact ob1 rfl))
 refine zk (nl (sq ?_))
 rcases Bool.eq_false_or_eq_true ((okc c.x c.y))with c1 |c1
 ·skip
  have c1Q:=bL.1 c1
  refine rg ?_
  refine z ?_ (h:=fun Z=>ab (xs:=[vI c.x,vI c.y].map A.val) Z dm rfl (by decide) rfl)
  refine z ?_ (h:=fun Z=>ag Z (jl c ) (ac (ArgV.va va) an) (bi (congrArg Value.bool c1)))
  refine zm ?_
  refine zg ?_ (h:=fun Z=>ae rfl rfl (mt Z))
  refine zg ?_ (h:=fun Z=>ae rfl rfl (ab (xs:=[vI c.x,vI c.y].map A.val) Z dm rfl (by decide) rfl))
  refine zg ?_ (h:=fun Z=>ae rfl rfl (ag Z (jJ c (by omega)) (ac (ArgV.va va) an) rv))
  refine zg ?_ (h:=fun Z=>ae rfl rfl (aa Z vt vt (ml (c:=(((s>>>(idx c)):Nat):Int)) (by omega) (wH (m:=s) (n:=(idx c)) rfl rfl (by(first |omega |assumption |exact eV (by assumption))) rfl))))
  refine zg ?_ (h:=fun Z=>ae rfl rfl (aa Z vt vc (io (c:=((((s>>>(idx c))&&&1):Nat):Int)) (andU (m:=(s>>>(idx c))) (n:=1) rfl rfl (by exact Nat.lt_of_le_of_lt (jA _ _) (by first |omega |assumption |(first |omega |assumption |exact eV (by assumption)))) (by omega)))))
  refine zg ?_ (h:=fun Z=>ae rfl rfl (aa Z vt vc (ct (c:=(s.testBit (idx c))) (mD _ _))))
  refine z ?_ (h:=fun Z=>au Z vt xt)
  refine za (nl (aC ?_))
  exact VRes.tmp _ _ _ (by exact rfl) (ce (congrArg Value.bool (by(simp_all [bO];done))))
 ·skip
  have c1Q:=mP.1 c1
  refine rg ?_
  refine z ?_ (h:=fun Z=>ab (xs:=[vI c.x,vI c.y].map A.val) Z dm rfl (by decide) rfl)
  refine z ?_ (h:=fun Z=>ag Z (jl c ) (ac (ArgV.va va) an) (bi (congrArg Value.bool c1)))
  refine zm (zo (zo (zo (zo (zo (zo ?_))))))
  refine z ?_ (h:=fun Z=>ar Z vt xc)
  refine za (nl (aC ?_))
  exact VRes.tmp _ _ _ (by exact rfl) (ce (congrArg Value.bool (by(simp_all [bO];done))))
theorem jK (s:Nat) (c:Cel) (hs:s<18446744073709551616) (hc:okc c.x c.y=true):Fn Tryz.prog 113 [.a (.val (.int .u64 ((s:Nat):Int))),.agg ([vI c.x,vI c.y].map A.val)] [.val (.int .u64 (((nw s c):Nat):Int))]:=by
 refine bm (N:=10) Tryz.func113 rfl (by kernel_rfl) rfl (Nat.le_of_ble_eq_true rfl) [3,7] (dN rfl) (fun W=> ?_)
 show Wp _ _ _ [kU 0 ((s:Nat):Int),kV 1 (V.av [vI c.x,vI c.y]),kF 3,kF 7]
 refine sq (rg ?_)
 refine z ?_ (h:=fun Z=>bo (h:=3) Z xt (by exact ob1 rfl))
 refine zk (nl (sq (rg (zm ?_))))
 refine z ?_ (h:=fun Z=>ab (xs:=[vI c.x,vI c.y].map A.val) Z dm rfl (by decide) rfl)
 refine z ?_ (h:=fun Z=>ag Z (jJ c (by omega)) (ac (ArgV.va va) an) rv)
 refine z ?_ (h:=fun Z=>aa Z vc vt (fw (c:=(((2^ (idx c)):Nat):Int)) (by omega) (shl1U (n:=(idx c)) rfl (by(first |omega |assumption |exact eV (by assumption) |exact nu (eV (by assumption)) |exact mC (by assumption) (by assumption) |exact Ab (by assumption) _)))))
 refine z ?_ (h:=fun Z=>aa Z vt vt (pu (c:=(((s|||(2^ (idx c))):Nat):Int)) (orU (m:=s) (n:=(2^ (idx c))) rfl rfl (by omega) (by(first |omega |assumption |exact eV (by assumption) |exact nu (eV (by assumption)) |exact mC (by assumption) (by assumption) |exact Ab (by assumption) _)))))
 refine za (nl (aC ?_))
 exact VRes.tmp _ _ _ (by exact rfl) (ce (congrArg (Value.int .u64) (by rfl)))
theorem iB (l:List Int) (ho:bj l=true):Fn Tryz.prog 63 [.agg [(.slv l.length 1 (isl l):A)]] [.val (.int .u64 (((ao l):Nat):Int))]:=by
 obtain⟨h8,hr⟩:=ez ho
 refine bm (N:=23) Tryz.func63 rfl (by kernel_rfl) rfl (Nat.le_of_ble_eq_true rfl) [1,8] (dN rfl) (fun W=> ?_)
 show Wp _ _ _ [kV 0 (V.b (.agg [(.slv l.length 1 (isl l):A)])),kF 1,kF 8]
 refine sq (rg ?_)
 refine z ?_ (h:=fun Z=>bo (h:=1) Z xt (by exact ob1 rfl))
 refine zk (nl (sq (rg (zk (nl (sq (sq (rg ?_))))))))
 refine z ?_ (h:=fun Z=>aq (off':=0) Z dE rfl)
 refine z ?_ (h:=fun Z=>ah (x:= .slv l.length 1 (isl l)) Z eE (by exact rfl))
 refine z ?_ (h:=fun Z=>lnV Z eF)
 refine z ?_ (h:=fun Z=>mc Z)
 refine nl (bkk ?_)
 refine bg (fun(k:Nat)=>k≤l.length) (fun(k:Nat)=>[kU 3 (((rs l k):Nat):Int),kV 7 (V.b (.a (.slv l.length 1 (isl l)))),kI 8 ((l.length:Nat):Int),kI 9 ((k:Nat):Int),kF 1,kF 8]) (fun(k:Nat)=>l.length-k) ((0:Nat)) (by exact(Nat.zero_le _:0≤_)) (wkf id (wE (e:=(be (by rfl)))<|wS<|wS<|wE (e:=(be (by rfl)))<|wF<|wF<|wN)) ?_
 rintro k inv1
 replace inv1:k≤l.length:=inv1
 have inv:=inv1
 have hrs:=Jg ho inv
 refine sq (rg ?_)
 refine z ?_ (h:=fun Z=>aa Z vt vt (bA rfl))
 refine nl (sq ?_)
 refine wi (fun c2=> ?_) (fun c2=> ?_)
 ·skip
  have c2P:=of_decide_eq_true c2
  refine sk (sq (bkk (sq (rg (zm ?_)))))
  refine z ?_ (h:=fun Z=>ixv Z eF te vt (hlt:=(by omega)))
  refine z ?_ (h:=fun Z=>uI Z js (by omega))
  refine za (za (nl (rg (zm (zm ?_)))))
  refine z ?_ (h:=fun Z=>gH Z vt (oh (c:=(gI l k)) Fa BV (w_u64 (by(have:=hr k (by omega);omega)) (by(have:=hr k (by omega);omega)))))
  refine zm ?_
  refine z ?_ (h:=fun Z=>aa Z vc vt (rM (by omega) (by omega)))
  refine z ?_ (h:=fun Z=>aa Z vt vt (fw (c:=(((((gI l k).toNat)<<<(8*k)):Nat):Int)) (by omega) (shlU (m:=((gI l k).toNat)) (n:=(8*k)) (Int.toNat_of_nonneg (by(have:=hr k (by omega);omega))).symm (by rfl) (by omega) (by(first |omega |assumption |(have:=hr k (by omega);exact Jh (by omega) (by omega)))))))
  refine z ?_ (h:=fun Z=>aa Z vt vt (pu (c:=((((rs l k)|||(((gI l k).toNat)<<<(8*k))):Nat):Int)) (orU (m:=(rs l k)) (n:=(((gI l k).toNat)<<<(8*k))) rfl rfl (by omega) (by(first |omega |assumption |(have:=hr k (by omega);exact Jh (by omega) (by omega)))))))
  refine za (nl (rg ?_))
  refine z ?_ (h:=fun Z=>aa Z vt vc (rA (by omega) (by omega)))
  refine zm (nl ?_)
  exact aA ((k+1)) (by show _≤_;omega) (by show l.length-(k+1)<l.length-k;omega) (wkf id (wE (e:=(be (by rfl)))<|wS<|wS<|wE (e:=(be (by rfl)))<|wF<|wF<|wN))
 ·skip
  have c2P:=of_decide_eq_false c2
  refine aU (sq (rg (zm (za (nl (aC ?_))))))
  exact VRes.tmp _ _ _ (by exact rfl) (ce (congrArg (Value.int .u64) (by(have e:k=l.length:=by omega);subst e;rfl)))
theorem qk (l:List Int) (hl:l.length≤4194304):Fn Tryz.prog 88 [.agg [(.slv l.length 1 (isl l):A)]] [.val (.bool (bj l))]:=by
 refine bm (N:=12) Tryz.func88 rfl (by kernel_rfl) rfl (Nat.le_of_ble_eq_true rfl) [1,5,10] (dN rfl) (fun W=> ?_)
 show Wp _ _ _ [kV 0 (V.b (.agg [(.slv l.length 1 (isl l):A)])),kF 1,kF 5,kF 10]
 refine sq (rg ?_)
 refine z ?_ (h:=fun Z=>bo (h:=1) Z xt (by exact ob1 rfl))
 refine zk (nl (sq ?_))
 rcases Bool.eq_false_or_eq_true (decide (((l.length:Nat):Int)≤8))with c1 |c1
 ·skip
  have c1P:=of_decide_eq_true c1
  refine rg ?_
  refine z ?_ (h:=fun Z=>aq (off':=0) Z dE rfl)
  refine z ?_ (h:=fun Z=>ah (x:= .slv l.length 1 (isl l)) Z eE (by exact rfl))
  refine z ?_ (h:=fun Z=>lnV Z eF)
  refine z ?_ (h:=fun Z=>aa Z vt vc (qZ (c:=true) c1))
  refine zm ?_
  refine zg ?_ (h:=fun Z=>ae rfl rfl (aq (off':=0) Z dE rfl))
  refine zg ?_ (h:=fun Z=>ae rfl rfl (ah (x:= .slv l.length 1 (isl l)) Z eE (by exact rfl)))
  refine zg ?_ (h:=fun Z=>ae rfl rfl (ag Z (oQ l 0 255 (by omega)) (ac (ArgV.slv _ _ _ _) (ac (ArgV.v vc) (ac (ArgV.v vc) an))) rv))
  refine z ?_ (h:=fun Z=>au Z vt xt)
  refine za (nl (aC ?_))
  exact VRes.tmp _ _ _ (by exact rfl) (ce (congrArg Value.bool (by(unfold bj;simp_all;(try intros);omega))))
 ·skip
  have c1P:=of_decide_eq_false c1
  refine rg ?_
  refine z ?_ (h:=fun Z=>aq (off':=0) Z dE rfl)
  refine z ?_ (h:=fun Z=>ah (x:= .slv l.length 1 (isl l)) Z eE (by exact rfl))
  refine z ?_ (h:=fun Z=>lnV Z eF)
  refine z ?_ (h:=fun Z=>aa Z vt vc (qZ (c:=false) c1))
  refine zm (zo (zo (zo ?_)))
  refine z ?_ (h:=fun Z=>ar Z vt xc)
  refine za (nl (aC ?_))
  exact VRes.tmp _ _ _ (by exact rfl) (ce (congrArg Value.bool (by(unfold bj;simp_all;(try intros);omega))))
theorem bH (l:List Int) (hl:l.length≤4194304):Fn Tryz.prog 51 [.agg [(.slv l.length 1 (isl l):A)]] [.val (.bool (bj l))]:=by
 refine bm (N:=22) Tryz.func51 rfl (by kernel_rfl) rfl (Nat.le_of_ble_eq_true rfl) [1,7,16,20] (dN rfl) (fun W=> ?_)
 show Wp _ _ _ [kV 0 (V.b (.agg [(.slv l.length 1 (isl l):A)])),kF 1,kF 7,kF 16,kF 20]
 refine sq (rg ?_)
 refine z ?_ (h:=fun Z=>bo (h:=1) Z xt (by exact ob1 rfl))
 refine zk (nl (sq (sq (rg (zk (nl (bkk ?_)))))))
 refine bg (fun(k:Nat)=>k≤l.length∧fE (l.take k) 0 255=true) (fun(k:Nat)=>[kP 1 1 0,kI 3 ((k:Nat):Int),kO 1 29 1 true [(.slv l.length 1 (isl l):A)],kF 7,kF 16,kF 20]) (fun(k:Nat)=>l.length-k) ((0:Nat)) (by exact⟨Nat.zero_le _,rfl⟩) (wkf id (wS<|wE (e:=(be (by rfl)))<|wX<|wF<|wF<|wF<|wN)) ?_
 rintro k inv1
 replace inv1:k≤l.length∧fE (l.take k) 0 255=true:=inv1
 obtain⟨inv1_0,inv1_1⟩:=inv1
 refine sq (sq (rg (zm ?_)))
 refine z ?_ (h:=fun Z=>aq (off':=0) Z dE rfl)
 refine z ?_ (h:=fun Z=>ah (x:= .slv l.length 1 (isl l)) Z eE (by exact rfl))
 refine z ?_ (h:=fun Z=>lnV Z eF)
 refine z ?_ (h:=fun Z=>aa Z vt vt (bA rfl))
 refine nl ?_
 refine wi (fun c2=> ?_) (fun c2=> ?_)
 ·skip
  have c2P:=of_decide_eq_true c2
  refine sk (sq (bkk (sq (rg ?_))))
  refine z ?_ (h:=fun Z=>aq (off':=0) Z dE rfl)
  refine z ?_ (h:=fun Z=>ah (x:= .slv l.length 1 (isl l)) Z eE (by exact rfl))
  refine zm ?_
  refine z ?_ (h:=fun Z=>ixv Z eF te vt)
  refine z ?_ (h:=fun Z=>uI Z js)
  refine z ?_ (h:=fun Z=>ag Z (cd (gI l k) 0 255 ) (ac (ArgV.v vt) (ac (ArgV.v vc) (ac (ArgV.v vc) an))) rv)
  refine z ?_ (h:=fun Z=>bn Z vt (bS rfl))
  refine nl ?_
  refine wi (b:=(!(inB (gI l k) 0 255))) (fun c3=> ?_) (fun c3=> ?_)
  ·skip
   have c4:(inB (gI l k) 0 255)=false:=by first |(rw[←Bool.not_eq_true'];exact c3) |simpa using c3
   have c4Q:=uG.1 c4
   refine sq (rg (zk (nl (aC ?_))))
   exact VRes.tmp _ _ _ (by exact rfl) (ce (congrArg Value.bool (by exact(zG (k:=k) (by omega) (by assumption)).symm)))
  ·skip
   have c5:(inB (gI l k) 0 255)=true:=by first |(rw[←Bool.not_eq_false'];exact c3) |simpa using c3
   have c5Q:=bP.1 c5
   refine sk (rg (zm ?_))
   refine z ?_ (h:=fun Z=>aa Z vt vc rA)
   refine za (nl ?_)
   exact aA ((k+1)) (by exact⟨by omega,yL (by omega) (by assumption) (by assumption)⟩) (by show l.length-(k+1)<l.length-k;omega) (wkf id (wS<|wE (e:=(be (by rfl)))<|wX<|wF<|wF<|wF<|wN))
 ·skip
  have c2P:=of_decide_eq_false c2
  refine aU (sq (rg ?_))
  refine z ?_ (h:=fun Z=>aq (off':=0) Z dE rfl)
  refine z ?_ (h:=fun Z=>ah (x:= .slv l.length 1 (isl l)) Z eE (by exact rfl))
  refine z ?_ (h:=fun Z=>lnV Z eF)
  refine z ?_ (h:=fun Z=>aa Z vt vc (qZ rfl))
  refine za (nl (aC ?_))
  exact VRes.tmp _ _ _ (by exact rfl) (ce (congrArg Value.bool (by rw[yw (Bq (by omega) (by assumption))];simp;omega)))
theorem bE (l:List Int) (c:Cel) (ho:bj l=true) (hc:okc c.x c.y=true):Fn Tryz.prog 77 [.agg [(.slv l.length 1 (isl l):A)],.agg ([vI c.x,vI c.y].map A.val)] [.val (.bool (cu l c))]:=by
 obtain⟨h8,hr⟩:=ez ho
 have hq:=bL.1 hc
 refine bm (N:=24) Tryz.func77 rfl (by kernel_rfl) rfl (Nat.le_of_ble_eq_true rfl) [2,3,9] (dN rfl) (fun W=> ?_)
 show Wp _ _ _ [kV 0 (V.b (.agg [(.slv l.length 1 (isl l):A)])),kV 1 (V.av [vI c.x,vI c.y]),kF 2,kF 3,kF 9]
 refine sq (rg ?_)
 refine z ?_ (h:=fun Z=>bo (h:=2) Z xt (by exact ob1 rfl))
 refine z ?_ (h:=fun Z=>bo (h:=3) Z xt (by exact ob1 rfl))
 refine zk (nl (sq ?_))
 rcases Bool.eq_false_or_eq_true (decide (c.y<((l.length:Nat):Int)))with c1 |c1
 ·skip
  have c1P:=of_decide_eq_true c1
  refine ch ?_
  refine zd ?_ (h:=fun Z=>aq (off':=1) Z mf rfl)
  refine zd ?_ (h:=fun Z=>ah (x:= .val (.int .i64 c.y)) Z js (by exact rfl))
  refine zd ?_ (h:=fun Z=>aq (off':=0) Z dE rfl)
  refine zd ?_ (h:=fun Z=>ah (x:= .slv l.length 1 (isl l)) Z eE (by exact rfl))
  refine zd ?_ (h:=fun Z=>lnV Z eF)
  refine zd ?_ (h:=fun Z=>aa Z vt vt (bA (c:=true) c1))
  refine zdm ?_
  refine zdg ?_ (h:=fun Z=>ae rfl rfl (aq (off':=0) Z dE rfl))
  refine zdg ?_ (h:=fun Z=>ae rfl rfl (ah (x:= .slv l.length 1 (isl l)) Z eE (by exact rfl)))
  refine zdg ?_ (h:=fun Z=>ae rfl rfl (aq (off':=1) Z mf rfl))
  refine zdg ?_ (h:=fun Z=>ae rfl rfl (ah (x:= .val (.int .i64 c.y)) Z js (by exact rfl)))
  refine zdg ?_ (h:=fun Z=>ae rfl rfl (ixv (k:=c.y.toNat) Z eF te vt (Int.toNat_of_nonneg (by omega)).symm (by omega)))
  refine zdg ?_ (h:=fun Z=>ae rfl rfl (uI Z js (by omega)))
  refine zdg ?_ (h:=fun Z=>ae rfl rfl (aq (off':=0) Z ya rfl))
  refine zdg ?_ (h:=fun Z=>ae rfl rfl (ah (x:= .val (.int .i64 c.x)) Z js (by exact rfl)))
  refine zdg ?_ (h:=fun Z=>ae rfl rfl (aa Z vt vt (ml (c:=(((((gI l c.y.toNat).toNat)>>>c.x.toNat):Nat):Int)) (by omega) (wH (m:=((gI l c.y.toNat).toNat)) (n:=c.x.toNat) (Int.toNat_of_nonneg (by(have:=hr c.y.toNat (by omega);omega))).symm (Int.toNat_of_nonneg (by omega)).symm (by omega) rfl))))
  refine zdg ?_ (h:=fun Z=>ae rfl rfl (aa Z vt vc (io (c:=((((((gI l c.y.toNat).toNat)>>>c.x.toNat)&&&1):Nat):Int)) (pN (m:=(((gI l c.y.toNat).toNat)>>>c.x.toNat)) (n:=1) rfl rfl (by exact Nat.lt_of_le_of_lt (jA _ _) (by first |omega |assumption |(first |omega |(have:=hr c.y.toNat (by omega);omega)))) (by omega)))))
  refine zdg ?_ (h:=fun Z=>ae rfl rfl (aa Z vt vc (ct (c:=(((gI l c.y.toNat).toNat).testBit c.x.toNat)) (mD _ _))))
  refine zd ?_ (h:=fun Z=>au Z vt xt)
  refine zd ?_ (h:=fun Z=>gt Z)
  refine bG (aC ?_)
  exact VRes.tmp _ _ _ (by exact rfl) (ce (congrArg Value.bool (by(simp_all [cu];done))))
 ·skip
  have c1P:=of_decide_eq_false c1
  refine ch ?_
  refine zd ?_ (h:=fun Z=>aq (off':=1) Z mf rfl)
  refine zd ?_ (h:=fun Z=>ah (x:= .val (.int .i64 c.y)) Z js (by exact rfl))
  refine zd ?_ (h:=fun Z=>aq (off':=0) Z dE rfl)
  refine zd ?_ (h:=fun Z=>ah (x:= .slv l.length 1 (isl l)) Z eE (by exact rfl))
  refine zd ?_ (h:=fun Z=>lnV Z eF)
  refine zd ?_ (h:=fun Z=>aa Z vt vt (bA (c:=false) c1))
  refine zdm ?_
  refine zdg ?_ (h:=fun Z=>aG rfl rfl (by decide) rfl Z)
  refine zdg ?_ (h:=fun Z=>aG rfl rfl (by decide) rfl Z)
  refine zdg ?_ (h:=fun Z=>aG rfl rfl (by decide) rfl Z)
  refine zdg ?_ (h:=fun Z=>aG rfl rfl (by decide) rfl Z)
  refine zdg ?_ (h:=fun Z=>aG rfl rfl (by decide) rfl Z)
  refine zdg ?_ (h:=fun Z=>aG rfl rfl (by decide) rfl Z)
  refine zdg ?_ (h:=fun Z=>aG rfl rfl (by decide) rfl Z)
  refine zdg ?_ (h:=fun Z=>aG rfl rfl (by decide) rfl Z)
  refine zdg ?_ (h:=fun Z=>aG rfl rfl (by decide) rfl Z)
  refine zdg ?_ (h:=fun Z=>aG rfl rfl (by decide) rfl Z)
  refine zdg ?_ (h:=fun Z=>aG rfl rfl (by decide) rfl Z)
  refine zd ?_ (h:=fun Z=>ar Z vt xc)
  refine zd ?_ (h:=fun Z=>gt Z)
  refine bG (aC ?_)
  exact VRes.tmp _ _ _ (by exact rfl) (ce (congrArg Value.bool (by(unfold cu;simp_all;(try intros);omega))))
theorem eC (l:List Int) (c:Cel) (hl:l.length≤4194304):Fn Tryz.prog 83 [.agg [(.slv l.length 1 (isl l):A)],.agg ([vI c.x,vI c.y].map A.val)] [.val (.bool (gA l c))]:=by
 refine bm (N:=16) Tryz.func83 rfl (by kernel_rfl) rfl (Nat.le_of_ble_eq_true rfl) [2,3,6,9,14] (dN rfl) (fun W=> ?_)
 show Wp _ _ _ [kV 0 (V.b (.agg [(.slv l.length 1 (isl l):A)])),kV 1 (V.av [vI c.x,vI c.y]),kF 2,kF 3,kF 6,kF 9,kF 14]
 refine sq (rg ?_)
 refine z ?_ (h:=fun Z=>bo (h:=2) Z xt (by exact ob1 rfl))
 refine z ?_ (h:=fun Z=>bo (h:=3) Z xt (by exact ob1 rfl))
 refine zk (nl (sq ?_))
 rcases Bool.eq_false_or_eq_true ((bj l))with c1 |c1
 ·skip
  rcases Bool.eq_false_or_eq_true ((okc c.x c.y))with c2 |c2
  ·skip
   have c2Q:=bL.1 c2
   refine rg ?_
   refine z ?_ (h:=fun Z=>ab (xs:=[(.slv l.length 1 (isl l):A)]) Z iV rfl (by decide) rfl)
   refine z ?_ (h:=fun Z=>ag Z (bH l (by omega)) (ac (ArgV.regv _ _ 1 _) an) (bi (congrArg Value.bool c1)))
   refine zm ?_
   refine zg ?_ (h:=fun Z=>ae rfl rfl (ab (xs:=[vI c.x,vI c.y].map A.val) Z dm rfl (by decide) rfl))
   refine zg ?_ (h:=fun Z=>ae rfl rfl (ag Z (bB c ) (ac (ArgV.va va) an) (bi (congrArg Value.bool c2))))
   refine z ?_ (h:=fun Z=>au Z vt xt)
   refine zm ?_
   refine zg ?_ (h:=fun Z=>ae rfl rfl (ab (xs:=[(.slv l.length 1 (isl l):A)]) Z iV rfl (by decide) rfl))
   refine zg ?_ (h:=fun Z=>ae rfl rfl (ab (xs:=[vI c.x,vI c.y].map A.val) Z dm rfl (by decide) rfl))
   refine zg ?_ (h:=fun Z=>ae rfl rfl (ag Z (bE l c (by omega) (by omega)) (ac (ArgV.regv _ _ 1 _) (ac (ArgV.va va) an)) rv))
   refine z ?_ (h:=fun Z=>au Z vt xt)
   refine za (nl (aC ?_))
   exact VRes.tmp _ _ _ (by exact rfl) (ce (congrArg Value.bool (by exact BI (by assumption) (by assumption))))
  ·skip
   have c2Q:=mP.1 c2
   refine rg ?_
   refine z ?_ (h:=fun Z=>ab (xs:=[(.slv l.length 1 (isl l):A)]) Z iV rfl (by decide) rfl)
   refine z ?_ (h:=fun Z=>ag Z (bH l (by omega)) (ac (ArgV.regv _ _ 1 _) an) (bi (congrArg Value.bool c1)))
   refine zm ?_
   refine zg ?_ (h:=fun Z=>ae rfl rfl (ab (xs:=[vI c.x,vI c.y].map A.val) Z dm rfl (by decide) rfl))
   refine zg ?_ (h:=fun Z=>ae rfl rfl (ag Z (bB c ) (ac (ArgV.va va) an) (bi (congrArg Value.bool c2))))
   refine z ?_ (h:=fun Z=>au Z vt xt)
   refine zm (zo (zo (zo ?_)))
   refine z ?_ (h:=fun Z=>ar Z vt xc)
   refine za (nl (aC ?_))
   exact VRes.tmp _ _ _ (by exact rfl) (ce (congrArg Value.bool (by(simp_all [gA];done))))
 ·skip
  refine rg ?_
  refine z ?_ (h:=fun Z=>ab (xs:=[(.slv l.length 1 (isl l):A)]) Z iV rfl (by decide) rfl)
  refine z ?_ (h:=fun Z=>ag Z (bH l (by omega)) (ac (ArgV.regv _ _ 1 _) an) (bi (congrArg Value.bool c1)))
  refine zm (zo (zo ?_))
  refine z ?_ (h:=fun Z=>ar Z vt xc)
  refine zm (zo (zo (zo ?_)))
  refine z ?_ (h:=fun Z=>ar Z vt xc)
  refine za (nl (aC ?_))
  exact VRes.tmp _ _ _ (by exact rfl) (ce (congrArg Value.bool (by(simp_all [gA];done))))
theorem lD (l:List Int) (hl:l.length≤4194304):Fn Tryz.prog 81 [.agg [(.slv l.length 1 (isl l):A)]] [.row 70 2 (cellsOf l).length (csl (cellsOf l))]:=by
 refine bm (N:=29) Tryz.func81 rfl (by kernel_rfl) rfl (Nat.le_of_ble_eq_true rfl) [1,5,7,12,18,23,26,27] (dN rfl) (fun W=> ?_)
 show Wp _ _ _ [kV 0 (V.b (.agg [(.slv l.length 1 (isl l):A)])),kF 1,kF 5,kF 7,kF 12,kF 18,kF 23,kF 26,kF 27]
 refine sq (rg ?_)
 refine z ?_ (h:=fun Z=>bo (h:=1) Z xt (by exact ob1 rfl))
 refine zk (nl (sq (rg ?_)))
 refine z ?_ (h:=fun Z=>b0C (h:=7) Z iW fS)
 refine za (nl (sq (sq (rg (zk (nl (bkk ?_)))))))
 refine bg (fun(k:Nat)=>k≤64∧(k=0∨bj l=true)) (fun(k:Nat)=>[kP 1 1 0,kS 3 7 0 ((((List.range k).filter (fun i=>cu l (cN i))).map cN).length),kI 4 ((k:Nat):Int),kO 1 29 1 true [(.slv l.length 1 (isl l):A)],kO 7 70 2 true (pl (csl (((List.range k).filter (fun i=>cu l (cN i))).map cN))),kF 5,kF 12,kF 18,kF 23,kF 26,kF 27]) (fun(k:Nat)=>64-k) ((0:Nat)) (by exact⟨by omega,.inl rfl⟩) (wkf id (wS<|wE (e:=(vsl (by rfl) rfl))<|wE (e:=(be (by rfl)))<|wX<|wO (e:=aJ (fun h=>h) (congrArg csl (by rfl)))<|wF<|wF<|wF<|wF<|wF<|wF<|wN)) ?_
 rintro k inv1
 replace inv1:k≤64∧(k=0∨bj l=true):=inv1
 obtain⟨inv1_0,inv1_1⟩:=inv1
 have hfl:=nq (fun i=>cu l (cN i)) k
 refine sq (sq ?_)
 rcases Bool.eq_false_or_eq_true (decide (((k:Nat):Int)<64))with c2 |c2
 ·skip
  have c2P:=of_decide_eq_true c2
  refine rg (zm ?_)
  refine z ?_ (h:=fun Z=>aa Z vt vc (bA (c:=true) c2))
  refine zm ?_
  refine zg ?_ (h:=fun Z=>ae rfl rfl (ab (xs:=[(.slv l.length 1 (isl l):A)]) Z iV rfl (by decide) rfl))
  refine zg ?_ (h:=fun Z=>ae rfl rfl (ag Z (bH l (by omega)) (ac (ArgV.regv _ _ 1 _) an) rv))
  refine z ?_ (h:=fun Z=>au Z vt xt)
  refine nl ?_
  refine wi (b:=(bj l)) (fun c3=> ?_) (fun c3=> ?_)
  ·skip
   refine sk (sq (bkk (sq (rg (zm ?_)))))
   refine z ?_ (h:=fun Z=>cH Z (gx k (by omega)) (ac (ArgV.v vt) an) (ResV.agg [vI ((cN k).x),vI ((cN k).y)]) rv)
   refine zm ?_
   refine z ?_ (h:=fun Z=>ba Z (by exact rfl))
   refine z ?_ (h:=fun Z=>ba Z (by exact rfl))
   refine z ?_ (h:=fun Z=>aL (h:=5) (cap:=1) (s:=2) (cells:=[aI 0,aI 0]) Z fS rfl rfl (by decide))
   refine z ?_ (h:=fun _=>aE (cells:=[aI ((cN k).x),aI ((cN k).y)]) dm xt (by exact rfl) (by decide) (by exact ob1 rfl) (by exact Nat.le_of_ble_eq_true rfl) (by exact rfl))
   refine za (nl (sq (rg ?_)))
   refine z ?_ (h:=fun Z=>ab (xs:=[(.slv l.length 1 (isl l):A)]) Z iV rfl (by decide) rfl)
   refine z ?_ (h:=fun Z=>ab (xs:=[vI ((cN k).x),vI ((cN k).y)].map A.val) Z dm rfl (by decide) rfl)
   refine z ?_ (h:=fun Z=>ag Z (bE l (cN k) (by omega) (by exact fP (by omega))) (ac (ArgV.regv _ _ 1 _) (ac (ArgV.va va) an)) rv)
   refine nl ?_
   refine wi (b:=(cu l (cN k))) (fun c4=> ?_) (fun c4=> ?_)
   ·skip
    refine rg (zm ?_)
    refine z ?_ (h:=fun Z=>ab (xs:=[vI ((cN k).x),vI ((cN k).y)].map A.val) Z dm rfl (by decide) rfl)
    refine z ?_ (h:=fun Z=>aP (h:=26) (xs:=csl ([(cN k)]:List Cel)) Z iW fS (.cons va OpVs.nil) (by decide) (by decide) (by kernel_rfl) rfl)
    refine z ?_ (h:=fun Z=>aC_ (h2:=27) (L3:=((((List.range k).filter (fun i=>cu l (cN i))).map cN)++[(cN k)])) Z iW fS (by exact rfl) rfl (by exact rfl) (by(simp at*;omega)))
    refine za (nl (rg (zm ?_)))
    refine z ?_ (h:=fun Z=>aa Z vt vc (rA (by omega) (by omega)))
    refine za (nl ?_)
    exact aA ((k+1)) (by exact⟨by omega,.inr (by assumption)⟩) (by show 64-(k+1)<64-k;omega) (wkf (aX [(7,27)]) (wS<|wE (e:=(vsl (by(exact congrArg List.length (by first |rfl |exact fq (p:=fun i=>cu l (cN i)) (by assumption) |exact gu (p:=fun i=>cu l (cN i)) (by assumption) |omega))) rfl))<|wE (e:=(be (by rfl)))<|wX<|wO (e:=aJ (fun h=>h) (congrArg csl (by exact fq (p:=fun i=>cu l (cN i)) (by assumption))))<|wF<|wF<|wF<|wF<|wF<|wF<|wN))
   ·skip
    refine sk (rg (zm ?_))
    refine z ?_ (h:=fun Z=>aa Z vt vc (rA (by omega) (by omega)))
    refine za (nl ?_)
    exact aA ((k+1)) (by exact⟨by omega,.inr (by assumption)⟩) (by show 64-(k+1)<64-k;omega) (wkf id (wS<|wE (e:=(vsl (by(exact congrArg List.length (by first |rfl |exact fq (p:=fun i=>cu l (cN i)) (by assumption) |exact gu (p:=fun i=>cu l (cN i)) (by assumption) |omega))) rfl))<|wE (e:=(be (by rfl)))<|wX<|wO (e:=aJ (fun h=>h) (congrArg csl (by exact gu (p:=fun i=>cu l (cN i)) (by assumption))))<|wF<|wF<|wF<|wF<|wF<|wF<|wN))
  ·skip
   refine aU (sq (rg (zm (za (nl (aC ?_))))))
   exact VRes.tmp _ _ _ (by exact rfl) (iQ (h:=7) (L:=(((List.range k).filter (fun i=>cu l (cN i))).map cN)) (by kernel_rfl) (by(have e:k=0:=by simp_all);subst e;unfold cellsOf;simp_all) (by rfl))
 ·skip
  have c2P:=of_decide_eq_false c2
  refine rg (zm ?_)
  refine z ?_ (h:=fun Z=>aa Z vt vc (bA (c:=false) c2))
  refine zm (zo (zo ?_))
  refine z ?_ (h:=fun Z=>ar Z vt xc)
  refine nl (wf (aU (sq (rg (zm (za (nl (aC ?_))))))))
  exact VRes.tmp _ _ _ (by exact rfl) (iQ (h:=7) (L:=(((List.range k).filter (fun i=>cu l (cN i))).map cN)) (by kernel_rfl) (by(have e:k=64:=by omega);subst e;exact vS (by simp_all)) (by rfl))
end Cl
end Go.Proofs.YtgmkkfdnmdohlaaGreatDoor
