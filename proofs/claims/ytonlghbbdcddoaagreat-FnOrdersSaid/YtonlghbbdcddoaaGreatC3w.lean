/- Walks. -/
import Derived.Test.YtonlghbbdcddoaaGreatC3
import Derived.Test.YtonlghbbdcddoaaGreatClB
set_option maxHeartbeats 4000000
set_option maxRecDepth 100000
namespace Go.Proofs.YtonlghbbdcddoaaGreat
namespace Cl
open Go.ChangeShapes Go.WideShapes Go.ChangeAt Go.RowKit
theorem Nx {l:List Int} {ds:List Dom} {k:Nat} (hk:k<ds.length) (h:((!(okD (gD ds k)))||(decide (0<((k:Nat):Int))&& !(bef (gD ds (((k:Nat):Int)-1).toNat) (gD ds k))))=true):fg l ds=false:=by
 refine sf hk fun _=> ?_
 have e:(((k:Nat):Int)-1).toNat=k-1:=by omega
 rw[e]at h
 unfold stepOk
 cases h1:okD (gD ds k)
 ·rfl
 ·rw[h1]at h
  simp only[Bool.not_true,Bool.false_or,Bool.and_eq_true,decide_eq_true_eq,Bool.not_eq_true']at h
  rw[h.2,decide_eq_false (by omega)];simp
theorem Ny {l:List Int} {ds:List Dom} {k:Nat} (hk:k<ds.length) (ho:okD (gD ds k)=true) (h:((!(eJ l (ca (gD ds k))))||((!(eJ l (cb (gD ds k))))||(gB (dP (dl (ds.take k))) (idx (ca (gD ds k)))||gB (dP (dl (ds.take k))) (idx (cb (gD ds k))))))=true):fg l ds=false:=by
 refine sf hk fun hr=> ?_
 rw[DZ hr ho]
 revert h
 cases eJ l (ca (gD ds k))<;>cases eJ l (cb (gD ds k))<;>cases gB (dP (dl (ds.take k))) (idx (ca (gD ds k)))<;>cases gB (dP (dl (ds.take k))) (idx (cb (gD ds k)))<;>simp
theorem im_ex {l:List Int} {ds:List Dom} {k:Nat} (hk:k<ds.length) (h:((!(okD (gD ds k)))||(decide (((andn (ag l) (dl (ds.take k))&&&domS (gD ds k):Nat):Int)≠((domS (gD ds k):Nat):Int))||(decide (((k:Nat):Int)>0)&& !(bef (gD ds (((k:Nat):Int)-1).toNat) (gD ds k)))))=true):fg l ds=false:=by
 refine sf hk fun _=> ?_
 have e:(((k:Nat):Int)-1).toNat=k-1:=by omega
 rw[e]at h
 unfold stepOk fits
 cases h1:okD (gD ds k)
 ·rfl
 ·rw[h1]at h
  simp only[Bool.not_true,Bool.false_or,Bool.or_eq_true,Bool.and_eq_true,decide_eq_true_eq,Bool.not_eq_true']at h
  rcases h with h |h
  ·rw[decide_eq_false (fun e=>h (by rw[e]))];rfl
  ·rw[h.2,decide_eq_false (p:=k=0) (by omega)];simp
theorem gl:∀ (a b:Int),Tryz.prog.built 67 [(0,.int .i64 a),(1,.int .i64 b)]=some ([.int .i64 a,.int .i64 b]:List Value).toArray:=fun _ _=>rfl
theorem qi:Tryz.prog.eqGuardType Tryz.prog.depth 67=false:=by kernel_rfl
theorem dZ:ce Tryz.prog 54 0=some 0:=by kernel_rfl
theorem ec:ce Tryz.prog 54 1=some 1:=by kernel_rfl
theorem gA:ce Tryz.prog 54 2=some 2:=by kernel_rfl
theorem me:(Tryz.prog.info? 4).map (·.size)=some 1:=by kernel_rfl
theorem eH:(Tryz.prog.info? 54).map (·.size)=some 3:=by kernel_rfl
theorem vD:(Tryz.prog.info? 67).map (·.size)=some 2:=by kernel_rfl
theorem db:TI Tryz.prog 26 true 1:=⟨⟨_,Tryz.underlying26,rfl⟩,by kernel_rfl⟩
theorem cZ:TI Tryz.prog 3 false 1:=⟨⟨_,Tryz.underlying3,rfl⟩,by kernel_rfl⟩
theorem fq:TI Tryz.prog 4 false 1:=⟨⟨_,Tryz.underlying4,rfl⟩,by kernel_rfl⟩
theorem bp:TI Tryz.prog 54 true 3:=⟨⟨_,Tryz.underlying54,rfl⟩,by kernel_rfl⟩
theorem bj:TI Tryz.prog 67 true 2:=⟨⟨_,Tryz.underlying67,rfl⟩,by kernel_rfl⟩
theorem dn:Tryz.prog.underlying 27=some (.slice 54):=Tryz.underlying27
theorem jr:Tryz.prog.underlying 63=some (.slice 67):=Tryz.underlying63
theorem js:Tryz.prog.underlying 70=some (.slice 4):=Tryz.underlying70
theorem Fq:ZI Tryz.prog 4 (.bool false) 1 1:=by unfold ZI;kernel_rfl
theorem vF:ZI Tryz.prog 54 (.agg #[.int .i64 0,.int .i64 0,.bool false]) 3 24:=by unfold ZI;kernel_rfl
theorem dJ:ZI Tryz.prog 67 (.agg #[.int .i64 0,.int .i64 0]) 2 16:=by unfold ZI;kernel_rfl
theorem cp (d:Dom):Fn Tryz.prog 90 [.agg ([vI d.x,vI d.y,.bool d.d].map A.val)] [.val (.bool (okD d))]:=by
  refine⟨⟨_,Tryz.func90,by kernel_rfl,by kernel_rfl⟩,fun w args h=> ?_⟩
  match args,eA.1 h with
  | [u0],⟨h0,_⟩=>
    obtain rfl:=oD h0
    refine Calls.mono (wy d.x d.y d.d w) ?_
    rintro e w' ⟨rfl,hb⟩
    exact⟨_,rfl,rfl,hb⟩
theorem cE (d:Dom):Fn Tryz.prog 41 [.agg ([vI d.x,vI d.y,.bool d.d].map A.val)] [.val (.bool (okD d))]:=by
  refine⟨⟨_,Tryz.func41,by kernel_rfl,by kernel_rfl⟩,fun w args h=> ?_⟩
  match args,eA.1 h with
  | [u0],⟨h0,_⟩=>
    obtain rfl:=oD h0
    refine Calls.mono (jF d.x d.y d.d w) ?_
    rintro e w' ⟨rfl,hb⟩
    exact⟨_,rfl,rfl,hb⟩
theorem nV (d:Dom) (ho:okD d=true):Fn Tryz.prog 104 [.agg ([vI d.x,vI d.y,.bool d.d].map A.val)] [.val (.agg ([.int .i64 (ca d).x,.int .i64 (ca d).y]:List Value).toArray),.val (.agg ([.int .i64 (cb d).x,.int .i64 (cb d).y]:List Value).toArray)]:=by
 have hq:=eK ho
 refine aN (N:=28) Tryz.func104 rfl (by kernel_rfl) rfl (Nat.le_of_ble_eq_true rfl) [1,2,3] (vO rfl rfl (by intro u hu;injection hu with hu;subst hu;rfl)) (fun W=> ?_)
 show Wp _ _ _ [kV 0 (V.av [vI d.x,vI d.y,.bool d.d]),kF 1,kF 2,kF 3]
 refine sq (rg ?_)
 refine z ?_ (h:=fun Z=>aM (h:=1) Z xt (by exact ob1 rfl))
 refine z ?_ (h:=fun Z=>aF (h:=2) (cap:=1) (s:=2) (cells:=[aI 0,aI 0]) Z dJ rfl rfl (by decide))
 refine z ?_ (h:=fun Z=>aF (h:=3) (cap:=1) (s:=2) (cells:=[aI 0,aI 0]) Z dJ rfl rfl (by decide))
 refine nl (sq (sq (rg ?_)))
 refine z ?_ (h:=fun Z=>ak (off':=2) Z gA rfl)
 refine z ?_ (h:=fun Z=>ai (x:= .val (.bool d.d)) Z fq (by exact rfl))
 refine nl ?_
 refine wi (b:=d.d) (fun c1=> ?_) (fun c1=> ?_)
 ·skip
  refine sq (cg ?_)
  refine zd ?_ (h:=fun Z=>ak (off':=0) Z dZ rfl)
  refine zd ?_ (h:=fun Z=>ai (x:= .val (.int .i64 d.x)) Z cZ (by exact rfl))
  refine zd ?_ (h:=fun Z=>ak (off':=1) Z ec rfl)
  refine zd ?_ (h:=fun Z=>ai (x:= .val (.int .i64 d.y)) Z cZ (by exact rfl))
  refine zd ?_ (h:=fun Z=>bC Z gl vt vt)
  refine zd ?_ (h:=fun Z=>ak (off':=0) Z dZ rfl)
  refine zd ?_ (h:=fun Z=>ai (x:= .val (.int .i64 d.x)) Z cZ (by exact rfl))
  refine zd ?_ (h:=fun Z=>ak (off':=1) Z ec rfl)
  refine zd ?_ (h:=fun Z=>ai (x:= .val (.int .i64 d.y)) Z cZ (by exact rfl))
  refine zd ?_ (h:=fun Z=>ab Z vt vc rA)
  refine zd ?_ (h:=fun Z=>bC Z gl vt vt)
  refine zd ?_ (h:=fun _=>aw (cells:=[aI d.x,aI d.y]) bj xt (by exact rfl) (by decide) (by exact ob1 rfl) (by exact Nat.le_of_ble_eq_true rfl) (by exact rfl))
  refine zd ?_ (h:=fun _=>aw (cells:=[aI d.x,aI (d.y+1)]) bj xt (by exact rfl) (by decide) (by exact ob1 rfl) (by exact Nat.le_of_ble_eq_true rfl) (by exact rfl))
  refine bJ (aq ?_)
  exact⟨VRes.cells 2 67 2 ⟨67,2,true,[aI d.x,aI d.y]⟩ _ (by kernel_rfl) (by kernel_rfl) bj (Nat.le_of_ble_eq_true rfl) (nL (vs:=[vI d.x,vI d.y]) (by rfl)),VRes.cells 3 67 3 ⟨67,2,true,[aI d.x,aI (d.y+1)]⟩ _ (by kernel_rfl) (by kernel_rfl) bj (Nat.le_of_ble_eq_true rfl) (nL (vs:=[vI d.x,vI (d.y+1)]) (by(unfold cb;simp_all;done)))⟩
 ·skip
  refine sk (sq (cg ?_))
  refine zd ?_ (h:=fun Z=>ak (off':=0) Z dZ rfl)
  refine zd ?_ (h:=fun Z=>ai (x:= .val (.int .i64 d.x)) Z cZ (by exact rfl))
  refine zd ?_ (h:=fun Z=>ak (off':=1) Z ec rfl)
  refine zd ?_ (h:=fun Z=>ai (x:= .val (.int .i64 d.y)) Z cZ (by exact rfl))
  refine zd ?_ (h:=fun Z=>bC Z gl vt vt)
  refine zd ?_ (h:=fun Z=>ak (off':=0) Z dZ rfl)
  refine zd ?_ (h:=fun Z=>ai (x:= .val (.int .i64 d.x)) Z cZ (by exact rfl))
  refine zd ?_ (h:=fun Z=>ab Z vt vc rA)
  refine zd ?_ (h:=fun Z=>ak (off':=1) Z ec rfl)
  refine zd ?_ (h:=fun Z=>ai (x:= .val (.int .i64 d.y)) Z cZ (by exact rfl))
  refine zd ?_ (h:=fun Z=>bC Z gl vt vt)
  refine zd ?_ (h:=fun _=>aw (cells:=[aI d.x,aI d.y]) bj xt (by exact rfl) (by decide) (by exact ob1 rfl) (by exact Nat.le_of_ble_eq_true rfl) (by exact rfl))
  refine zd ?_ (h:=fun _=>aw (cells:=[aI (d.x+1),aI d.y]) bj xt (by exact rfl) (by decide) (by exact ob1 rfl) (by exact Nat.le_of_ble_eq_true rfl) (by exact rfl))
  refine bJ (aq ?_)
  exact⟨VRes.cells 2 67 2 ⟨67,2,true,[aI d.x,aI d.y]⟩ _ (by kernel_rfl) (by kernel_rfl) bj (Nat.le_of_ble_eq_true rfl) (nL (vs:=[vI d.x,vI d.y]) (by rfl)),VRes.cells 3 67 3 ⟨67,2,true,[aI (d.x+1),aI d.y]⟩ _ (by kernel_rfl) (by kernel_rfl) bj (Nat.le_of_ble_eq_true rfl) (nL (vs:=[vI (d.x+1),vI d.y]) (by(unfold cb;simp_all;done)))⟩
theorem ru (d:Dom) (ho:okD d=true):Fn Tryz.prog 77 [.agg ([vI d.x,vI d.y,.bool d.d].map A.val)] [.val (.agg ([.int .i64 (cb d).x,.int .i64 (cb d).y]:List Value).toArray)]:=by
 have hq:=eK ho
 refine aN (N:=17) Tryz.func77 rfl (by kernel_rfl) rfl (Nat.le_of_ble_eq_true rfl) [1,2] (dB rfl) (fun W=> ?_)
 show Wp _ _ _ [kV 0 (V.av [vI d.x,vI d.y,.bool d.d]),kF 1,kF 2]
 refine sq (rg ?_)
 refine z ?_ (h:=fun Z=>aM (h:=1) Z xt (by exact ob1 rfl))
 refine z ?_ (h:=fun Z=>aF (h:=2) (cap:=1) (s:=2) (cells:=[aI 0,aI 0]) Z dJ rfl rfl (by decide))
 refine nl (sq (sq (rg ?_)))
 refine z ?_ (h:=fun Z=>ak (off':=2) Z gA rfl)
 refine z ?_ (h:=fun Z=>ai (x:= .val (.bool d.d)) Z fq (by exact rfl))
 refine nl ?_
 refine wi (b:=d.d) (fun c1=> ?_) (fun c1=> ?_)
 ·skip
  refine sq (rg ?_)
  refine z ?_ (h:=fun Z=>ak (off':=0) Z dZ rfl)
  refine z ?_ (h:=fun Z=>ai (x:= .val (.int .i64 d.x)) Z cZ (by exact rfl))
  refine z ?_ (h:=fun Z=>ak (off':=1) Z ec rfl)
  refine z ?_ (h:=fun Z=>ai (x:= .val (.int .i64 d.y)) Z cZ (by exact rfl))
  refine z ?_ (h:=fun Z=>ab Z vt vc rA)
  refine z ?_ (h:=fun Z=>bC Z gl vt vt)
  refine z ?_ (h:=fun _=>aw (cells:=[aI d.x,aI (d.y+1)]) bj xt (by exact rfl) (by decide) (by exact ob1 rfl) (by exact Nat.le_of_ble_eq_true rfl) (by exact rfl))
  refine nl (aq ?_)
  exact VRes.cells 2 67 2 ⟨67,2,true,[aI d.x,aI (d.y+1)]⟩ _ (by kernel_rfl) (by kernel_rfl) bj (Nat.le_of_ble_eq_true rfl) (nL (vs:=[vI d.x,vI (d.y+1)]) (by(unfold cb;simp_all;done)))
 ·skip
  refine sk (sq (rg ?_))
  refine z ?_ (h:=fun Z=>ak (off':=0) Z dZ rfl)
  refine z ?_ (h:=fun Z=>ai (x:= .val (.int .i64 d.x)) Z cZ (by exact rfl))
  refine z ?_ (h:=fun Z=>ab Z vt vc rA)
  refine z ?_ (h:=fun Z=>ak (off':=1) Z ec rfl)
  refine z ?_ (h:=fun Z=>ai (x:= .val (.int .i64 d.y)) Z cZ (by exact rfl))
  refine z ?_ (h:=fun Z=>bC Z gl vt vt)
  refine z ?_ (h:=fun _=>aw (cells:=[aI (d.x+1),aI d.y]) bj xt (by exact rfl) (by decide) (by exact ob1 rfl) (by exact Nat.le_of_ble_eq_true rfl) (by exact rfl))
  refine nl (aq ?_)
  exact VRes.cells 2 67 2 ⟨67,2,true,[aI (d.x+1),aI d.y]⟩ _ (by kernel_rfl) (by kernel_rfl) bj (Nat.le_of_ble_eq_true rfl) (nL (vs:=[vI (d.x+1),vI d.y]) (by(unfold cb;simp_all;done)))
theorem cf (d:Dom) (ho:okD d=true):Fn Tryz.prog 91 [.agg ([vI d.x,vI d.y,.bool d.d].map A.val)] [.val (.int .u64 (((domS d):Nat):Int))]:=by
 refine aN (N:=14) Tryz.func91 rfl (by kernel_rfl) rfl (Nat.le_of_ble_eq_true rfl) [1,3,4,7,11,13] (dB rfl) (fun W=> ?_)
 show Wp _ _ _ [kV 0 (V.av [vI d.x,vI d.y,.bool d.d]),kF 1,kF 3,kF 4,kF 7,kF 11,kF 13]
 refine sq (rg ?_)
 refine z ?_ (h:=fun Z=>aM (h:=1) Z xt (by exact ob1 rfl))
 refine zk (nl (sq (rg ?_)))
 refine z ?_ (h:=fun Z=>aa (xs:=[vI d.x,vI d.y,.bool d.d].map A.val) Z bp rfl (by decide) rfl)
 refine z ?_ (h:=fun Z=>cS Z (nV d (by omega)) (ac (ArgV.va va) an) (ResV.agg [vI ((ca d).x),vI ((ca d).y)]) (ResV.agg [vI ((cb d).x),vI ((cb d).y)]))
 refine zm ?_
 refine z ?_ (h:=fun Z=>az Z (by exact rfl))
 refine z ?_ (h:=fun Z=>az Z (by exact rfl))
 refine z ?_ (h:=fun Z=>aF (h:=3) (cap:=1) (s:=2) (cells:=[aI 0,aI 0]) Z dJ rfl rfl (by decide))
 refine z ?_ (h:=fun Z=>aF (h:=4) (cap:=1) (s:=2) (cells:=[aI 0,aI 0]) Z dJ rfl rfl (by decide))
 refine z ?_ (h:=fun _=>aw (cells:=[aI ((ca d).x),aI ((ca d).y)]) bj xt (by exact rfl) (by decide) (by exact ob1 rfl) (by exact Nat.le_of_ble_eq_true rfl) (by exact rfl))
 refine z ?_ (h:=fun _=>aw (cells:=[aI ((cb d).x),aI ((cb d).y)]) bj xt (by exact rfl) (by decide) (by exact ob1 rfl) (by exact Nat.le_of_ble_eq_true rfl) (by exact rfl))
 refine nl (sq (cg ?_))
 refine zd ?_ (h:=fun Z=>aa (xs:=[vI ((ca d).x),vI ((ca d).y)].map A.val) Z bj rfl (by decide) rfl)
 refine zd ?_ (h:=fun Z=>ah Z (fT 0 (ca d) (by omega) (by exact eX ho)) (ac (ArgV.v vc) (ac (ArgV.va va) an)) rv)
 refine zd ?_ (h:=fun Z=>aa (xs:=[vI ((cb d).x),vI ((cb d).y)].map A.val) Z bj rfl (by decide) rfl)
 refine zd ?_ (h:=fun Z=>ah Z (fT (pu 0 (ca d)) (cb d) (by exact oC (by decide) (eX ho)) (by exact fU ho)) (ac (ArgV.v vt) (ac (ArgV.va va) an)) rv)
 refine zd ?_ (h:=fun Z=>gt Z)
 refine bJ (aq ?_)
 exact VRes.tmp _ _ _ (by exact rfl) (cc (congrArg (Value.int .u64) (by rfl)))
theorem lj (d:Dom) (ho:okD d=true):Fn Tryz.prog 43 [.agg ([vI d.x,vI d.y,.bool d.d].map A.val)] [.val (.agg ([.int .i64 (ca d).x,.int .i64 (ca d).y]:List Value).toArray),.val (.agg ([.int .i64 (cb d).x,.int .i64 (cb d).y]:List Value).toArray)]:=by
 refine aN (N:=16) Tryz.func43 rfl (by kernel_rfl) rfl (Nat.le_of_ble_eq_true rfl) [1,2,3,5,15] (vO rfl rfl (by intro u hu;injection hu with hu;subst hu;rfl)) (fun W=> ?_)
 show Wp _ _ _ [kV 0 (V.av [vI d.x,vI d.y,.bool d.d]),kF 1,kF 2,kF 3,kF 5,kF 15]
 refine sq (rg ?_)
 refine z ?_ (h:=fun Z=>aM (h:=1) Z xt (by exact ob1 rfl))
 refine z ?_ (h:=fun Z=>aF (h:=2) (cap:=1) (s:=2) (cells:=[aI 0,aI 0]) Z dJ rfl rfl (by decide))
 refine z ?_ (h:=fun Z=>aF (h:=3) (cap:=1) (s:=2) (cells:=[aI 0,aI 0]) Z dJ rfl rfl (by decide))
 refine nl (sq (sq (rg ?_)))
 refine z ?_ (h:=fun Z=>aa (xs:=[vI d.x,vI d.y,.bool d.d].map A.val) Z bp rfl (by decide) rfl)
 refine z ?_ (h:=fun Z=>ah Z (cE d ) (ac (ArgV.va va) an) (aH (congrArg Value.bool ho)))
 refine z ?_ (h:=fun Z=>aK Z vt (bE (c:=false) rfl))
 refine nl (wf (sk (sq (cg ?_))))
 refine zd ?_ (h:=fun Z=>ak (off':=0) Z dZ rfl)
 refine zd ?_ (h:=fun Z=>ai (x:= .val (.int .i64 d.x)) Z cZ (by exact rfl))
 refine zd ?_ (h:=fun Z=>ak (off':=1) Z ec rfl)
 refine zd ?_ (h:=fun Z=>ai (x:= .val (.int .i64 d.y)) Z cZ (by exact rfl))
 refine zd ?_ (h:=fun Z=>bC Z gl vt vt)
 refine zd ?_ (h:=fun Z=>aa (xs:=[vI d.x,vI d.y,.bool d.d].map A.val) Z bp rfl (by decide) rfl)
 refine zd ?_ (h:=fun Z=>ah Z (ru d (by omega)) (ac (ArgV.va va) an) (ResV.agg [vI ((cb d).x),vI ((cb d).y)]))
 refine zd ?_ (h:=fun _=>aw (cells:=[aI d.x,aI d.y]) bj xt (by exact rfl) (by decide) (by exact ob1 rfl) (by exact Nat.le_of_ble_eq_true rfl) (by exact rfl))
 refine zd ?_ (h:=fun _=>aw (cells:=[aI ((cb d).x),aI ((cb d).y)]) bj xt (by exact rfl) (by decide) (by exact ob1 rfl) (by exact Nat.le_of_ble_eq_true rfl) (by exact rfl))
 refine bJ (aq ?_)
 exact⟨VRes.cells 2 67 2 ⟨67,2,true,[aI d.x,aI d.y]⟩ _ (by kernel_rfl) (by kernel_rfl) bj (Nat.le_of_ble_eq_true rfl) (nL (vs:=[vI d.x,vI d.y]) (by rfl)),VRes.cells 3 67 3 ⟨67,2,true,[aI ((cb d).x),aI ((cb d).y)]⟩ _ (by kernel_rfl) (by kernel_rfl) bj (Nat.le_of_ble_eq_true rfl) (nL (vs:=[vI ((cb d).x),vI ((cb d).y)]) (by rfl))⟩
theorem iY (d:Dom) (ho:okD d=true):Fn Tryz.prog 110 [.agg ([vI d.x,vI d.y,.bool d.d].map A.val)] [.val (.int .i64 (((ord d):Nat):Int))]:=by
 have hi:idx (⟨d.x,d.y⟩:Cel)<64:=cn (eX ho)
 refine aN (N:=16) Tryz.func110 rfl (by kernel_rfl) rfl (Nat.le_of_ble_eq_true rfl) [1,9] (dB rfl) (fun W=> ?_)
 show Wp _ _ _ [kV 0 (V.av [vI d.x,vI d.y,.bool d.d]),kF 1,kF 9]
 refine sq (rg ?_)
 refine z ?_ (h:=fun Z=>aM (h:=1) Z xt (by exact ob1 rfl))
 refine zk (nl (sq (rg ?_)))
 refine z ?_ (h:=fun Z=>ak (off':=0) Z dZ rfl)
 refine z ?_ (h:=fun Z=>ai (x:= .val (.int .i64 d.x)) Z cZ (by exact rfl))
 refine z ?_ (h:=fun Z=>ak (off':=1) Z ec rfl)
 refine z ?_ (h:=fun Z=>ai (x:= .val (.int .i64 d.y)) Z cZ (by exact rfl))
 refine z ?_ (h:=fun Z=>bC Z gl vt vt)
 refine z ?_ (h:=fun Z=>ah Z (fS (⟨d.x,d.y⟩:Cel) (by exact eX ho)) (ac (ArgV.va va) an) rv)
 refine z ?_ (h:=fun Z=>ab Z vc vt (rM (by omega) (by omega)))
 refine za (nl (sq (sq (rg ?_))))
 refine z ?_ (h:=fun Z=>ak (off':=2) Z gA rfl)
 refine z ?_ (h:=fun Z=>ai (x:= .val (.bool d.d)) Z fq (by exact rfl))
 refine nl ?_
 refine wi (b:=d.d) (fun c1=> ?_) (fun c1=> ?_)
 ·skip
  refine rg (zm ?_)
  refine z ?_ (h:=fun Z=>ab Z vt vc (rA (by omega) (by omega)))
  refine za (nl (sq (rg (zm (za (nl (aq ?_)))))))
  exact VRes.tmp _ _ _ (by exact rfl) (cc (congrArg (Value.int .i64) (by unfold ord ca;simp_all)))
 ·skip
  refine sk (sq (rg (zm (za (nl (aq ?_))))))
  exact VRes.tmp _ _ _ (by exact rfl) (cc (congrArg (Value.int .i64) (by unfold ord ca;simp_all)))
theorem mJ (d e:Dom):Fn Tryz.prog 107 [.agg ([vI d.x,vI d.y,.bool d.d].map A.val),.agg ([vI e.x,vI e.y,.bool e.d].map A.val)] [.val (.bool (bef d e))]:=by
 refine aN (N:=18) Tryz.func107 rfl (by kernel_rfl) rfl (Nat.le_of_ble_eq_true rfl) [2,3,6,9,13,15] (dB rfl) (fun W=> ?_)
 show Wp _ _ _ [kV 0 (V.av [vI d.x,vI d.y,.bool d.d]),kV 1 (V.av [vI e.x,vI e.y,.bool e.d]),kF 2,kF 3,kF 6,kF 9,kF 13,kF 15]
 refine sq (rg ?_)
 refine z ?_ (h:=fun Z=>aM (h:=2) Z xt (by exact ob1 rfl))
 refine z ?_ (h:=fun Z=>aM (h:=3) Z xt (by exact ob1 rfl))
 refine zk (nl (sq ?_))
 rcases Bool.eq_false_or_eq_true ((okD d))with c1 |c1
 ·skip
  rcases Bool.eq_false_or_eq_true ((okD e))with c2 |c2
  ·skip
   refine cg ?_
   refine zd ?_ (h:=fun Z=>aa (xs:=[vI d.x,vI d.y,.bool d.d].map A.val) Z bp rfl (by decide) rfl)
   refine zd ?_ (h:=fun Z=>ah Z (cp d ) (ac (ArgV.va va) an) (aH (congrArg Value.bool c1)))
   refine zdm ?_
   refine zdg ?_ (h:=fun Z=>ae rfl rfl (aa (xs:=[vI e.x,vI e.y,.bool e.d].map A.val) Z bp rfl (by decide) rfl))
   refine zdg ?_ (h:=fun Z=>ae rfl rfl (ah Z (cp e ) (ac (ArgV.va va) an) (aH (congrArg Value.bool c2))))
   refine zd ?_ (h:=fun Z=>al Z vt xt)
   refine zdm ?_
   refine zdg ?_ (h:=fun Z=>ae rfl rfl (aa (xs:=[vI d.x,vI d.y,.bool d.d].map A.val) Z bp rfl (by decide) rfl))
   refine zdg ?_ (h:=fun Z=>ae rfl rfl (ah Z (iY d (by omega)) (ac (ArgV.va va) an) rv))
   refine zdg ?_ (h:=fun Z=>ae rfl rfl (aa (xs:=[vI e.x,vI e.y,.bool e.d].map A.val) Z bp rfl (by decide) rfl))
   refine zdg ?_ (h:=fun Z=>ae rfl rfl (ah Z (iY e (by omega)) (ac (ArgV.va va) an) rv))
   refine zdg ?_ (h:=fun Z=>ae rfl rfl (ab Z vt vt (bP rfl)))
   refine zd ?_ (h:=fun Z=>al Z vt xt)
   refine zd ?_ (h:=fun Z=>gt Z)
   refine bJ (aq ?_)
   exact VRes.tmp _ _ _ (by exact rfl) (cc (congrArg Value.bool (by(simp_all [bef];done))))
  ·skip
   refine cg ?_
   refine zd ?_ (h:=fun Z=>aa (xs:=[vI d.x,vI d.y,.bool d.d].map A.val) Z bp rfl (by decide) rfl)
   refine zd ?_ (h:=fun Z=>ah Z (cp d ) (ac (ArgV.va va) an) (aH (congrArg Value.bool c1)))
   refine zdm ?_
   refine zdg ?_ (h:=fun Z=>ae rfl rfl (aa (xs:=[vI e.x,vI e.y,.bool e.d].map A.val) Z bp rfl (by decide) rfl))
   refine zdg ?_ (h:=fun Z=>ae rfl rfl (ah Z (cp e ) (ac (ArgV.va va) an) (aH (congrArg Value.bool c2))))
   refine zd ?_ (h:=fun Z=>al Z vt xt)
   refine zdm ?_
   refine zdg ?_ (h:=fun Z=>am rfl rfl (by decide) rfl Z)
   refine zdg ?_ (h:=fun Z=>am rfl rfl (by decide) rfl Z)
   refine zdg ?_ (h:=fun Z=>am rfl rfl (by decide) rfl Z)
   refine zdg ?_ (h:=fun Z=>am rfl rfl (by decide) rfl Z)
   refine zdg ?_ (h:=fun Z=>am rfl rfl (by decide) rfl Z)
   refine zd ?_ (h:=fun Z=>ao Z vt xc)
   refine zd ?_ (h:=fun Z=>gt Z)
   refine bJ (aq ?_)
   exact VRes.tmp _ _ _ (by exact rfl) (cc (congrArg Value.bool (by(simp_all [bef];done))))
 ·skip
  refine cg ?_
  refine zd ?_ (h:=fun Z=>aa (xs:=[vI d.x,vI d.y,.bool d.d].map A.val) Z bp rfl (by decide) rfl)
  refine zd ?_ (h:=fun Z=>ah Z (cp d ) (ac (ArgV.va va) an) (aH (congrArg Value.bool c1)))
  refine zdm ?_
  refine zdg ?_ (h:=fun Z=>am rfl rfl (by decide) rfl Z)
  refine zdg ?_ (h:=fun Z=>am rfl rfl (by decide) rfl Z)
  refine zd ?_ (h:=fun Z=>ao Z vt xc)
  refine zdm ?_
  refine zdg ?_ (h:=fun Z=>am rfl rfl (by decide) rfl Z)
  refine zdg ?_ (h:=fun Z=>am rfl rfl (by decide) rfl Z)
  refine zdg ?_ (h:=fun Z=>am rfl rfl (by decide) rfl Z)
  refine zdg ?_ (h:=fun Z=>am rfl rfl (by decide) rfl Z)
  refine zdg ?_ (h:=fun Z=>am rfl rfl (by decide) rfl Z)
  refine zd ?_ (h:=fun Z=>ao Z vt xc)
  refine zd ?_ (h:=fun Z=>gt Z)
  refine bJ (aq ?_)
  exact VRes.tmp _ _ _ (by exact rfl) (cc (congrArg Value.bool (by(simp_all [bef];done))))
theorem np (d e:Dom):Fn Tryz.prog 42 [.agg ([vI d.x,vI d.y,.bool d.d].map A.val),.agg ([vI e.x,vI e.y,.bool e.d].map A.val)] [.val (.bool (bef d e))]:=by
 refine aN (N:=44) Tryz.func42 rfl (by kernel_rfl) rfl (Nat.le_of_ble_eq_true rfl) [2,3,8,12] (dB rfl) (fun W=> ?_)
 show Wp _ _ _ [kV 0 (V.av [vI d.x,vI d.y,.bool d.d]),kV 1 (V.av [vI e.x,vI e.y,.bool e.d]),kF 2,kF 3,kF 8,kF 12]
 refine sq (rg ?_)
 refine z ?_ (h:=fun Z=>aM (h:=2) Z xt (by exact ob1 rfl))
 refine z ?_ (h:=fun Z=>aM (h:=3) Z xt (by exact ob1 rfl))
 refine zk (nl (sq (sq ?_)))
 rcases Bool.eq_false_or_eq_true ((okD d))with c1 |c1
 ·skip
  refine rg ?_
  refine z ?_ (h:=fun Z=>aa (xs:=[vI d.x,vI d.y,.bool d.d].map A.val) Z bp rfl (by decide) rfl)
  refine z ?_ (h:=fun Z=>ah Z (cE d ) (ac (ArgV.va va) an) (aH (congrArg Value.bool c1)))
  refine z ?_ (h:=fun Z=>aK Z vt (bE (c:=false) rfl))
  refine zm ?_
  refine zg ?_ (h:=fun Z=>ae rfl rfl (aa (xs:=[vI e.x,vI e.y,.bool e.d].map A.val) Z bp rfl (by decide) rfl))
  refine zg ?_ (h:=fun Z=>ae rfl rfl (ah Z (cE e ) (ac (ArgV.va va) an) rv))
  refine zg ?_ (h:=fun Z=>ae rfl rfl (aK Z vt (bE rfl)))
  refine z ?_ (h:=fun Z=>ao Z vt xt)
  refine nl ?_
  refine wi (b:=(!(okD e))) (fun c2=> ?_) (fun c2=> ?_)
  ·skip
   have c3:(okD e)=false:=by first |(rw[←Bool.not_eq_true'];exact c2) |simpa using c2
   refine sq (rg (zk (nl (aq ?_))))
   exact VRes.tmp _ _ _ (by exact rfl) (cc (congrArg Value.bool (by(simp_all [bef];done))))
  ·skip
   have c4:(okD e)=true:=by first |(rw[←Bool.not_eq_false'];exact c2) |simpa using c2
   refine sk (sq (rg ?_))
   refine z ?_ (h:=fun Z=>ak (off':=1) Z ec rfl)
   refine z ?_ (h:=fun Z=>ai (x:= .val (.int .i64 d.y)) Z cZ (by exact rfl))
   refine z ?_ (h:=fun Z=>ab Z vt vc (rM (by(have q1:=eK (d:=d) (by assumption);have q2:=eK (d:=e) (by assumption);omega)) (by(have q1:=eK (d:=d) (by assumption);have q2:=eK (d:=e) (by assumption);omega))))
   refine z ?_ (h:=fun Z=>ak (off':=0) Z dZ rfl)
   refine z ?_ (h:=fun Z=>ai (x:= .val (.int .i64 d.x)) Z cZ (by exact rfl))
   refine z ?_ (h:=fun Z=>ab Z vt vt (rA (by(have q1:=eK (d:=d) (by assumption);have q2:=eK (d:=e) (by assumption);omega)) (by(have q1:=eK (d:=d) (by assumption);have q2:=eK (d:=e) (by assumption);omega))))
   refine za (nl (sq (rg ?_)))
   refine z ?_ (h:=fun Z=>ak (off':=1) Z ec rfl)
   refine z ?_ (h:=fun Z=>ai (x:= .val (.int .i64 e.y)) Z cZ (by exact rfl))
   refine z ?_ (h:=fun Z=>ab Z vt vc (rM (by(have q1:=eK (d:=d) (by assumption);have q2:=eK (d:=e) (by assumption);omega)) (by(have q1:=eK (d:=d) (by assumption);have q2:=eK (d:=e) (by assumption);omega))))
   refine z ?_ (h:=fun Z=>ak (off':=0) Z dZ rfl)
   refine z ?_ (h:=fun Z=>ai (x:= .val (.int .i64 e.x)) Z cZ (by exact rfl))
   refine z ?_ (h:=fun Z=>ab Z vt vt (rA (by(have q1:=eK (d:=d) (by assumption);have q2:=eK (d:=e) (by assumption);omega)) (by(have q1:=eK (d:=d) (by assumption);have q2:=eK (d:=e) (by assumption);omega))))
   refine za (nl (sq ?_))
   rcases Bool.eq_false_or_eq_true (decide (((d.y*8)+d.x)<((e.y*8)+e.x)))with c5 |c5
   ·skip
    have c5P:=of_decide_eq_true c5
    refine rg (zm (zm ?_))
    refine z ?_ (h:=fun Z=>ab Z vt vt (bP (c:=true) c5))
    refine zm (zo (zo (zo ?_)))
    refine zg ?_ (h:=fun Z=>mr rfl rfl (by decide) rfl Z)
    refine zg ?_ (h:=fun Z=>bV rfl rfl rfl Z)
    refine zg ?_ (h:=fun Z=>bV rfl rfl rfl Z)
    refine zg ?_ (h:=fun Z=>bV rfl rfl rfl Z)
    refine zo ?_
    refine zg ?_ (h:=fun Z=>mr rfl rfl (by decide) rfl Z)
    refine zg ?_ (h:=fun Z=>bV rfl rfl rfl Z)
    refine zg ?_ (h:=fun Z=>bV rfl rfl rfl Z)
    refine zo ?_
    refine z ?_ (h:=fun Z=>al Z vt xc)
    refine za (nl (aq ?_))
    exact VRes.tmp _ _ _ (by exact rfl) (cc (congrArg Value.bool (by(have q1:=kr (d:=d) (by assumption);have q2:=kr (d:=e) (by assumption);unfold bef;cases hd1:d.d<;>cases he1:e.d<;>simp_all<;>omega))))
   ·skip
    have c5P:=of_decide_eq_false c5
    rcases Bool.eq_false_or_eq_true (decide (((d.y*8)+d.x)=((e.y*8)+e.x)))with c6 |c6
    ·skip
     have c6P:=of_decide_eq_true c6
     rcases Bool.eq_false_or_eq_true (d.d)with c7 |c7
     ·skip
      refine rg (zm (zm ?_))
      refine z ?_ (h:=fun Z=>ab Z vt vt (bP (c:=false) c5))
      refine zm ?_
      refine zg ?_ (h:=fun Z=>ae rfl rfl (mt Z))
      refine zg ?_ (h:=fun Z=>ae rfl rfl (mt Z))
      refine zg ?_ (h:=fun Z=>ae rfl rfl (ab Z vt vt (cW (c:=true) c6)))
      refine zg ?_ (h:=fun Z=>ae rfl rfl (mt Z))
      refine zg ?_ (h:=fun Z=>ae rfl rfl (ak (off':=2) Z gA rfl))
      refine zg ?_ (h:=fun Z=>ae rfl rfl (ai (x:= .val (.bool d.d)) Z fq (by exact rfl)))
      refine zg ?_ (h:=fun Z=>ae rfl rfl (aK Z vt (bE (c:=false) (by(rw[c7];rfl)))))
      refine zg ?_ (h:=fun Z=>ae rfl rfl (al Z vt xt))
      refine zg ?_ (h:=fun Z=>ae rfl rfl (mt Z))
      refine zo (zo ?_)
      refine zg ?_ (h:=fun Z=>ae rfl rfl (ao Z vt xc))
      refine z ?_ (h:=fun Z=>ao Z vt xt)
      refine za (nl (aq ?_))
      exact VRes.tmp _ _ _ (by exact rfl) (cc (congrArg Value.bool (by(have q1:=kr (d:=d) (by assumption);have q2:=kr (d:=e) (by assumption);unfold bef;cases hd1:d.d<;>cases he1:e.d<;>simp_all<;>omega))))
     ·skip
      refine rg (zm (zm ?_))
      refine z ?_ (h:=fun Z=>ab Z vt vt (bP (c:=false) c5))
      refine zm ?_
      refine zg ?_ (h:=fun Z=>ae rfl rfl (mt Z))
      refine zg ?_ (h:=fun Z=>ae rfl rfl (mt Z))
      refine zg ?_ (h:=fun Z=>ae rfl rfl (ab Z vt vt (cW (c:=true) c6)))
      refine zg ?_ (h:=fun Z=>ae rfl rfl (mt Z))
      refine zg ?_ (h:=fun Z=>ae rfl rfl (ak (off':=2) Z gA rfl))
      refine zg ?_ (h:=fun Z=>ae rfl rfl (ai (x:= .val (.bool d.d)) Z fq (by exact rfl)))
      refine zg ?_ (h:=fun Z=>ae rfl rfl (aK Z vt (bE (c:=true) (by(rw[c7];rfl)))))
      refine zg ?_ (h:=fun Z=>ae rfl rfl (al Z vt xt))
      refine zg ?_ (h:=fun Z=>ae rfl rfl (mt Z))
      refine zg ?_ (h:=fun Z=>ae rfl rfl (ak (off':=2) Z gA rfl))
      refine zg ?_ (h:=fun Z=>ae rfl rfl (ai (x:= .val (.bool e.d)) Z fq (by exact rfl)))
      refine zg ?_ (h:=fun Z=>ae rfl rfl (al Z vt xt))
      refine z ?_ (h:=fun Z=>ao Z vt xt)
      refine za (nl (aq ?_))
      exact VRes.tmp _ _ _ (by exact rfl) (cc (congrArg Value.bool (by(have q1:=kr (d:=d) (by assumption);have q2:=kr (d:=e) (by assumption);unfold bef;cases hd1:d.d<;>cases he1:e.d<;>simp_all<;>omega))))
    ·skip
     have c6P:=of_decide_eq_false c6
     refine rg (zm (zm ?_))
     refine z ?_ (h:=fun Z=>ab Z vt vt (bP (c:=false) c5))
     refine zm ?_
     refine zg ?_ (h:=fun Z=>ae rfl rfl (mt Z))
     refine zg ?_ (h:=fun Z=>ae rfl rfl (mt Z))
     refine zg ?_ (h:=fun Z=>ae rfl rfl (ab Z vt vt (cW (c:=false) c6)))
     refine zg ?_ (h:=fun Z=>ae rfl rfl (mt Z))
     refine zo (zo (zo ?_))
     refine zg ?_ (h:=fun Z=>ae rfl rfl (ao Z vt xc))
     refine zg ?_ (h:=fun Z=>ae rfl rfl (mt Z))
     refine zo (zo ?_)
     refine zg ?_ (h:=fun Z=>ae rfl rfl (ao Z vt xc))
     refine z ?_ (h:=fun Z=>ao Z vt xt)
     refine za (nl (aq ?_))
     exact VRes.tmp _ _ _ (by exact rfl) (cc (congrArg Value.bool (by(have q1:=kr (d:=d) (by assumption);have q2:=kr (d:=e) (by assumption);unfold bef;cases hd1:d.d<;>cases he1:e.d<;>simp_all<;>omega))))
 ·skip
  refine rg ?_
  refine z ?_ (h:=fun Z=>aa (xs:=[vI d.x,vI d.y,.bool d.d].map A.val) Z bp rfl (by decide) rfl)
  refine z ?_ (h:=fun Z=>ah Z (cE d ) (ac (ArgV.va va) an) (aH (congrArg Value.bool c1)))
  refine z ?_ (h:=fun Z=>aK Z vt (bE (c:=true) rfl))
  refine zm (zo (zo (zo ?_)))
  refine z ?_ (h:=fun Z=>al Z vt xc)
  refine nl (wt (sq (rg (zk (nl (aq ?_))))))
  exact VRes.tmp _ _ _ (by exact rfl) (cc (congrArg Value.bool (by(simp_all [bef];done))))
theorem tK (ds:List Dom) (hd:ds.length≤2097152):Fn Tryz.prog 96 [.a (.slv ds.length 3 (dsl ds))] [.val (.int .u64 (((dl ds):Nat):Int))]:=by
 refine aN (N:=20) Tryz.func96 rfl (by kernel_rfl) rfl (Nat.le_of_ble_eq_true rfl) [5,7,13,16] (dB rfl) (fun W=> ?_)
 show Wp _ _ _ [kV 0 (V.b (.a (.slv ds.length 3 (dsl ds)))),kF 5,kF 7,kF 13,kF 16]
 refine sq (rg (zk (nl (sq (rg (zk (nl (sq (sq (rg (zm ?_)))))))))))
 refine z ?_ (h:=fun Z=>lnV Z dn)
 refine z ?_ (h:=fun Z=>mc Z)
 refine nl (bkk ?_)
 refine bf (fun(k:Nat)=>k≤ds.length) (fun(k:Nat)=>[kU 3 (((dl (ds.take k)):Nat):Int),kV 6 (V.b (.a (.slv ds.length 3 (dsl ds)))),kI 7 ((ds.length:Nat):Int),kI 8 ((k:Nat):Int),kF 5,kF 7,kF 13,kF 16]) (fun(k:Nat)=>ds.length-k) ((0:Nat)) (by exact(Nat.zero_le _:0≤_)) (wkf id (wE (e:=(aO (by rfl)))<|wS<|wS<|wE (e:=(aO (by rfl)))<|wF<|wF<|wF<|wF<|wN)) ?_
 rintro k inv1
 replace inv1:k≤ds.length:=inv1
 have inv:=inv1
 have hcl:=CY (ds.take k)
 refine sq (rg ?_)
 refine z ?_ (h:=fun Z=>ab Z vt vt (bP rfl))
 refine nl (sq ?_)
 refine wi (fun c2=> ?_) (fun c2=> ?_)
 ·skip
  have c2P:=of_decide_eq_true c2
  refine sk (sq (bkk (sq (rg ?_))))
  refine z ?_ (h:=fun Z=>ixv Z dn eH vt (hlt:=(by omega)))
  refine z ?_ (h:=fun Z=>uD Z bp (by omega))
  refine z ?_ (h:=fun Z=>aF (h:=5) (cap:=1) (s:=3) (cells:=[aI 0,aI 0,aB false]) Z vF rfl rfl (by decide))
  refine z ?_ (h:=fun _=>aw (cells:=[aI ((gD ds k).x),aI ((gD ds k).y),aB ((gD ds k).d)]) bp xt (by exact rfl) (by decide) (by exact ob1 rfl) (by exact Nat.le_of_ble_eq_true rfl) (by exact rfl))
  refine nl (sq (rg ?_))
  refine z ?_ (h:=fun Z=>aa (xs:=[vI ((gD ds k).x),vI ((gD ds k).y),.bool ((gD ds k).d)].map A.val) Z bp rfl (by decide) rfl)
  refine z ?_ (h:=fun Z=>ah Z (cp (gD ds k) ) (ac (ArgV.va va) an) rv)
  refine nl ?_
  refine wi (b:=(okD (gD ds k))) (fun c3=> ?_) (fun c3=> ?_)
  ·skip
   refine rg (zm ?_)
   refine z ?_ (h:=fun Z=>aa (xs:=[vI ((gD ds k).x),vI ((gD ds k).y),.bool ((gD ds k).d)].map A.val) Z bp rfl (by decide) rfl)
   refine z ?_ (h:=fun Z=>ah Z (cf (gD ds k) (by omega)) (ac (ArgV.va va) an) rv)
   refine z ?_ (h:=fun Z=>ab Z vt vt (qk (c:=((((dl (ds.take k))|||(domS (gD ds k))):Nat):Int)) (orU (m:=(dl (ds.take k))) (n:=(domS (gD ds k))) rfl rfl (by omega) (by(first |omega |assumption |exact iP (by assumption))))))
   refine za (nl (rg ?_))
   refine z ?_ (h:=fun Z=>ab Z vt vc (rA (by omega) (by omega)))
   refine zm (nl ?_)
   exact ar ((k+1)) (by show _≤_;omega) (by show ds.length-(k+1)<ds.length-k;omega) (wkf id (wE (e:=(aO (by exact congrArg _ (qD (by omega) (by assumption)))))<|wS<|wS<|wE (e:=(aO (by rfl)))<|wF<|wF<|wF<|wF<|wN))
  ·skip
   refine sk (rg ?_)
   refine z ?_ (h:=fun Z=>ab Z vt vc (rA (by omega) (by omega)))
   refine zm (nl ?_)
   exact ar ((k+1)) (by show _≤_;omega) (by show ds.length-(k+1)<ds.length-k;omega) (wkf id (wE (e:=(aO (by exact congrArg _ (Jx (by omega) (by assumption)))))<|wS<|wS<|wE (e:=(aO (by rfl)))<|wF<|wF<|wF<|wF<|wN))
 ·skip
  have c2P:=of_decide_eq_false c2
  refine aJ (sq (rg (zm (za (nl (aq ?_))))))
  exact VRes.tmp _ _ _ (by exact rfl) (cc (congrArg (Value.int .u64) (by rw[Gw (by assumption)])))
theorem lx (l:List Int) (ds:List Dom) (hl:l.length≤4194304) (hd:ds.length≤2097152):Fn Tryz.prog 95 [.agg [(.slv l.length 1 (isl l):A)],.a (.slv ds.length 3 (dsl ds))] [.val (.bool (fg l ds))]:=by
 refine aN (N:=51) Tryz.func95 rfl (by kernel_rfl) rfl (Nat.le_of_ble_eq_true rfl) [2,7,9,12,14,21,26,29,42,48] (dB rfl) (fun W=> ?_)
 show Wp _ _ _ [kV 0 (V.b (.agg [(.slv l.length 1 (isl l):A)])),kV 1 (V.b (.a (.slv ds.length 3 (dsl ds)))),kF 2,kF 7,kF 9,kF 12,kF 14,kF 21,kF 26,kF 29,kF 42,kF 48]
 refine sq (rg ?_)
 refine z ?_ (h:=fun Z=>aM (h:=2) Z xt (by exact ob1 rfl))
 refine zk (nl (sq (sq (rg ?_))))
 refine z ?_ (h:=fun Z=>aa (xs:=[(.slv l.length 1 (isl l):A)]) Z db rfl (by decide) rfl)
 refine z ?_ (h:=fun Z=>ah Z (df l (by omega)) (ac (ArgV.regv _ _ 1 _) an) rv)
 refine z ?_ (h:=fun Z=>aK Z vt (bE rfl))
 refine nl ?_
 refine wi (b:=(!(aU l))) (fun c1=> ?_) (fun c1=> ?_)
 ·skip
  have c2:(aU l)=false:=by first |(rw[←Bool.not_eq_true'];exact c1) |simpa using c1
  refine sq (rg (zk (nl (aq ?_))))
  exact VRes.tmp _ _ _ (by exact rfl) (cc (congrArg Value.bool (by(simp_all [fg];done))))
 ·skip
  have c3:(aU l)=true:=by first |(rw[←Bool.not_eq_false'];exact c1) |simpa using c1
  refine sk (sq (rg ?_))
  refine z ?_ (h:=fun Z=>aa (xs:=[(.slv l.length 1 (isl l):A)]) Z db rfl (by decide) rfl)
  refine z ?_ (h:=fun Z=>ah Z (cA l (by omega)) (ac (ArgV.regv _ _ 1 _) an) rv)
  refine za (nl (sq (sq (rg (zm ?_)))))
  refine z ?_ (h:=fun Z=>lnV Z dn)
  refine z ?_ (h:=fun Z=>mc Z)
  refine nl (bkk ?_)
  refine bf (fun(k:Nat)=>k≤ds.length∧pC (ag l) ds k=true) (fun(k:Nat)=>[kV 1 (V.b (.a (.slv ds.length 3 (dsl ds)))),kU 5 (((andn (ag l) (dl (ds.take k))):Nat):Int),kV 13 (V.b (.a (.slv ds.length 3 (dsl ds)))),kI 14 ((ds.length:Nat):Int),kI 15 ((k:Nat):Int),kF 2,kF 7,kF 9,kF 12,kF 14,kF 21,kF 26,kF 29,kF 42,kF 48]) (fun(k:Nat)=>ds.length-k) ((0:Nat)) (by exact⟨Nat.zero_le _,xx _ _⟩) (wkf id (wS<|wE (e:=(aO (by(rw[wV]))))<|wS<|wS<|wE (e:=(aO (by rfl)))<|by(iterate 10 refine wF ?_);exact wN)) ?_
  rintro k inv4
  replace inv4:k≤ds.length∧pC (ag l) ds k=true:=inv4
  obtain⟨inv4_0,inv4_1⟩:=inv4
  refine sq (rg ?_)
  refine z ?_ (h:=fun Z=>ab Z vt vt (bP rfl))
  refine nl (sq ?_)
  refine wi (fun c5=> ?_) (fun c5=> ?_)
  ·skip
   have c5P:=of_decide_eq_true c5
   refine sk (sq (bkk (sq (rg (zm ?_)))))
   refine z ?_ (h:=fun Z=>ixv Z dn eH vt (hlt:=(by omega)))
   refine z ?_ (h:=fun Z=>uD Z bp (by omega))
   refine z ?_ (h:=fun Z=>aF (h:=7) (cap:=1) (s:=3) (cells:=[aI 0,aI 0,aB false]) Z vF rfl rfl (by decide))
   refine za ?_
   refine z ?_ (h:=fun _=>aw (cells:=[aI ((gD ds k).x),aI ((gD ds k).y),aB ((gD ds k).d)]) bp xt (by exact rfl) (by decide) (by exact ob1 rfl) (by exact Nat.le_of_ble_eq_true rfl) (by exact rfl))
   refine nl (sq (sq ?_))
   refine fj [kB 45 ((!(okD (gD ds k)))||((decide (((((andn (ag l) (dl (ds.take k)))&&&(domS (gD ds k))):Nat):Int)≠(((domS (gD ds k)):Nat):Int)))||((decide (0<((k:Nat):Int)))&&(!(bef (gD ds ((((k:Nat):Int)-1).toNat)) (gD ds k)))))),kV 1 (V.b (.a (.slv ds.length 3 (dsl ds)))),kU 5 (((andn (ag l) (dl (ds.take k))):Nat):Int),kP 7 7 0,kV 13 (V.b (.a (.slv ds.length 3 (dsl ds)))),kI 14 ((ds.length:Nat):Int),kI 15 ((k:Nat):Int),kO 7 54 3 true [aI ((gD ds k).x),aI ((gD ds k).y),aB ((gD ds k).d)],kF 2,kF 9,kF 12,kF 14,kF 21,kF 26,kF 29,kF 42,kF 48] ?_ ?_
   ·skip
    rcases Bool.eq_false_or_eq_true ((okD (gD ds k)))with c6 |c6
    ·skip
     rcases Bool.eq_false_or_eq_true (decide (((((andn (ag l) (dl (ds.take k)))&&&(domS (gD ds k))):Nat):Int)≠(((domS (gD ds k)):Nat):Int)))with c7 |c7
     ·skip
      have c7P:=of_decide_eq_true c7
      refine cg ?_
      refine zd ?_ (h:=fun Z=>aa (xs:=[vI ((gD ds k).x),vI ((gD ds k).y),.bool ((gD ds k).d)].map A.val) Z bp rfl (by decide) rfl)
      refine zd ?_ (h:=fun Z=>ah Z (cp (gD ds k) ) (ac (ArgV.va va) an) (aH (congrArg Value.bool c6)))
      refine zd ?_ (h:=fun Z=>aK Z vt (bE (c:=false) rfl))
      refine zdm ?_
      refine zdg ?_ (h:=fun Z=>ae rfl rfl (mt Z))
      refine zdg ?_ (h:=fun Z=>ae rfl rfl (aa (xs:=[vI ((gD ds k).x),vI ((gD ds k).y),.bool ((gD ds k).d)].map A.val) Z bp rfl (by decide) rfl))
      refine zdg ?_ (h:=fun Z=>ae rfl rfl (ah Z (cf (gD ds k) (by omega)) (ac (ArgV.va va) an) rv))
      refine zdg ?_ (h:=fun Z=>ae rfl rfl (ab Z vt vt (iK (c:=((((andn (ag l) (dl (ds.take k)))&&&(domS (gD ds k))):Nat):Int)) (andU (m:=(andn (ag l) (dl (ds.take k)))) (n:=(domS (gD ds k))) rfl rfl (by(first |omega |assumption |exact bb (by assumption) |exact iP (by assumption) |exact dQ (bb (by assumption)))) (by(first |omega |assumption |exact bb (by assumption) |exact iP (by assumption) |exact dQ (bb (by assumption))))))))
      refine zdg ?_ (h:=fun Z=>ae rfl rfl (aa (xs:=[vI ((gD ds k).x),vI ((gD ds k).y),.bool ((gD ds k).d)].map A.val) Z bp rfl (by decide) rfl))
      refine zdg ?_ (h:=fun Z=>ae rfl rfl (ah Z (cf (gD ds k) (by omega)) (ac (ArgV.va va) an) rv))
      refine zdg ?_ (h:=fun Z=>ae rfl rfl (ab Z vt vt (iZ (c:=true) c7)))
      refine zd ?_ (h:=fun Z=>ao Z vt xt)
      refine zdm ?_
      refine zdg ?_ (h:=fun Z=>am rfl rfl (by decide) rfl Z)
      refine zdg ?_ (h:=fun Z=>am rfl rfl (by decide) rfl Z)
      refine zdg ?_ (h:=fun Z=>mr rfl rfl (by decide) rfl Z)
      refine zdg ?_ (h:=fun Z=>bV rfl rfl rfl Z)
      refine zdg ?_ (h:=fun Z=>bV rfl rfl rfl Z)
      refine zdg ?_ (h:=fun Z=>bV rfl rfl rfl Z)
      refine zdg ?_ (h:=fun Z=>bV rfl rfl rfl Z)
      refine zdg ?_ (h:=fun Z=>bV rfl rfl rfl Z)
      refine zdg ?_ (h:=fun Z=>bV rfl rfl rfl Z)
      refine zdg ?_ (h:=fun Z=>bV rfl rfl rfl Z)
      refine zdg ?_ (h:=fun Z=>bV rfl rfl rfl Z)
      refine zdg ?_ (h:=fun Z=>am rfl rfl (by decide) rfl Z)
      refine zd ?_ (h:=fun Z=>al Z vt xc)
      refine bJ ?_
      exact⟨rfl,bm ⟨(by simp only[c6,c7];first |done |kernel_rfl),(by repeat(first |exact trivial |refine⟨by kernel_rfl,?_⟩))⟩⟩
     ·skip
      have c7P:=of_decide_eq_false c7
      rcases Bool.eq_false_or_eq_true (decide (0<((k:Nat):Int)))with c8 |c8
      ·skip
       have c8P:=of_decide_eq_true c8
       refine cg ?_
       refine zd ?_ (h:=fun Z=>aa (xs:=[vI ((gD ds k).x),vI ((gD ds k).y),.bool ((gD ds k).d)].map A.val) Z bp rfl (by decide) rfl)
       refine zd ?_ (h:=fun Z=>ah Z (cp (gD ds k) ) (ac (ArgV.va va) an) (aH (congrArg Value.bool c6)))
       refine zd ?_ (h:=fun Z=>aK Z vt (bE (c:=false) rfl))
       refine zdm ?_
       refine zdg ?_ (h:=fun Z=>ae rfl rfl (mt Z))
       refine zdg ?_ (h:=fun Z=>ae rfl rfl (aa (xs:=[vI ((gD ds k).x),vI ((gD ds k).y),.bool ((gD ds k).d)].map A.val) Z bp rfl (by decide) rfl))
       refine zdg ?_ (h:=fun Z=>ae rfl rfl (ah Z (cf (gD ds k) (by omega)) (ac (ArgV.va va) an) rv))
       refine zdg ?_ (h:=fun Z=>ae rfl rfl (ab Z vt vt (iK (c:=((((andn (ag l) (dl (ds.take k)))&&&(domS (gD ds k))):Nat):Int)) (andU (m:=(andn (ag l) (dl (ds.take k)))) (n:=(domS (gD ds k))) rfl rfl (by(first |omega |assumption |exact bb (by assumption) |exact iP (by assumption) |exact dQ (bb (by assumption)))) (by(first |omega |assumption |exact bb (by assumption) |exact iP (by assumption) |exact dQ (bb (by assumption))))))))
       refine zdg ?_ (h:=fun Z=>ae rfl rfl (aa (xs:=[vI ((gD ds k).x),vI ((gD ds k).y),.bool ((gD ds k).d)].map A.val) Z bp rfl (by decide) rfl))
       refine zdg ?_ (h:=fun Z=>ae rfl rfl (ah Z (cf (gD ds k) (by omega)) (ac (ArgV.va va) an) rv))
       refine zdg ?_ (h:=fun Z=>ae rfl rfl (ab Z vt vt (iZ (c:=false) c7)))
       refine zd ?_ (h:=fun Z=>ao Z vt xt)
       refine zdm ?_
       refine zdg ?_ (h:=fun Z=>ae rfl rfl (mt Z))
       refine zdg ?_ (h:=fun Z=>ae rfl rfl (ab Z vt vc (oi (c:=true) c8)))
       refine zdg ?_ (h:=fun Z=>ae rfl rfl (mt Z))
       refine zdg ?_ (h:=fun Z=>ae rfl rfl (mt Z))
       refine zdg ?_ (h:=fun Z=>ae rfl rfl (mt Z))
       refine zdg ?_ (h:=fun Z=>ae rfl rfl (ab Z vt vc (rS (by omega) (by omega))))
       refine zdg ?_ (h:=fun Z=>ae rfl rfl (ixv (k:=(((k:Nat):Int)-1).toNat) Z dn eH vt (Int.toNat_of_nonneg (by omega)).symm (by omega)))
       refine zdg ?_ (h:=fun Z=>ae rfl rfl (uD Z bp (by omega)))
       refine zdg ?_ (h:=fun Z=>ae rfl rfl (aa (xs:=[vI ((gD ds k).x),vI ((gD ds k).y),.bool ((gD ds k).d)].map A.val) Z bp rfl (by decide) rfl))
       refine zdg ?_ (h:=fun Z=>ae rfl rfl (ah Z (mJ (gD ds ((((k:Nat):Int)-1).toNat)) (gD ds k) ) (ac (ArgV.va va) (ac (ArgV.va va) an)) rv))
       refine zdg ?_ (h:=fun Z=>ae rfl rfl (aK Z vt (bE rfl)))
       refine zdg ?_ (h:=fun Z=>ae rfl rfl (al Z vt xt))
       refine zd ?_ (h:=fun Z=>ao Z vt xt)
       refine bJ ?_
       exact⟨rfl,bm ⟨(by simp only[c6,c7,c8];first |done |kernel_rfl),(by repeat(first |exact trivial |refine⟨by kernel_rfl,?_⟩))⟩⟩
      ·skip
       have c8P:=of_decide_eq_false c8
       refine cg ?_
       refine zd ?_ (h:=fun Z=>aa (xs:=[vI ((gD ds k).x),vI ((gD ds k).y),.bool ((gD ds k).d)].map A.val) Z bp rfl (by decide) rfl)
       refine zd ?_ (h:=fun Z=>ah Z (cp (gD ds k) ) (ac (ArgV.va va) an) (aH (congrArg Value.bool c6)))
       refine zd ?_ (h:=fun Z=>aK Z vt (bE (c:=false) rfl))
       refine zdm ?_
       refine zdg ?_ (h:=fun Z=>ae rfl rfl (mt Z))
       refine zdg ?_ (h:=fun Z=>ae rfl rfl (aa (xs:=[vI ((gD ds k).x),vI ((gD ds k).y),.bool ((gD ds k).d)].map A.val) Z bp rfl (by decide) rfl))
       refine zdg ?_ (h:=fun Z=>ae rfl rfl (ah Z (cf (gD ds k) (by omega)) (ac (ArgV.va va) an) rv))
       refine zdg ?_ (h:=fun Z=>ae rfl rfl (ab Z vt vt (iK (c:=((((andn (ag l) (dl (ds.take k)))&&&(domS (gD ds k))):Nat):Int)) (andU (m:=(andn (ag l) (dl (ds.take k)))) (n:=(domS (gD ds k))) rfl rfl (by(first |omega |assumption |exact bb (by assumption) |exact iP (by assumption) |exact dQ (bb (by assumption)))) (by(first |omega |assumption |exact bb (by assumption) |exact iP (by assumption) |exact dQ (bb (by assumption))))))))
       refine zdg ?_ (h:=fun Z=>ae rfl rfl (aa (xs:=[vI ((gD ds k).x),vI ((gD ds k).y),.bool ((gD ds k).d)].map A.val) Z bp rfl (by decide) rfl))
       refine zdg ?_ (h:=fun Z=>ae rfl rfl (ah Z (cf (gD ds k) (by omega)) (ac (ArgV.va va) an) rv))
       refine zdg ?_ (h:=fun Z=>ae rfl rfl (ab Z vt vt (iZ (c:=false) c7)))
       refine zd ?_ (h:=fun Z=>ao Z vt xt)
       refine zdm ?_
       refine zdg ?_ (h:=fun Z=>ae rfl rfl (mt Z))
       refine zdg ?_ (h:=fun Z=>ae rfl rfl (ab Z vt vc (oi (c:=false) c8)))
       refine zdg ?_ (h:=fun Z=>ae rfl rfl (mt Z))
       refine zdg ?_ (h:=fun Z=>am rfl rfl (by decide) rfl Z)
       refine zdg ?_ (h:=fun Z=>am rfl rfl (by decide) rfl Z)
       refine zdg ?_ (h:=fun Z=>am rfl rfl (by decide) rfl Z)
       refine zdg ?_ (h:=fun Z=>am rfl rfl (by decide) rfl Z)
       refine zdg ?_ (h:=fun Z=>am rfl rfl (by decide) rfl Z)
       refine zdg ?_ (h:=fun Z=>am rfl rfl (by decide) rfl Z)
       refine zdg ?_ (h:=fun Z=>am rfl rfl (by decide) rfl Z)
       refine zdg ?_ (h:=fun Z=>am rfl rfl (by decide) rfl Z)
       refine zdg ?_ (h:=fun Z=>ae rfl rfl (ao Z vt xc))
       refine zd ?_ (h:=fun Z=>ao Z vt xt)
       refine bJ ?_
       exact⟨rfl,bm ⟨(by simp only[c6,c7,c8];first |done |kernel_rfl),(by repeat(first |exact trivial |refine⟨by kernel_rfl,?_⟩))⟩⟩
    ·skip
     refine cg ?_
     refine zd ?_ (h:=fun Z=>aa (xs:=[vI ((gD ds k).x),vI ((gD ds k).y),.bool ((gD ds k).d)].map A.val) Z bp rfl (by decide) rfl)
     refine zd ?_ (h:=fun Z=>ah Z (cp (gD ds k) ) (ac (ArgV.va va) an) (aH (congrArg Value.bool c6)))
     refine zd ?_ (h:=fun Z=>aK Z vt (bE (c:=true) rfl))
     refine zdm ?_
     refine zdg ?_ (h:=fun Z=>am rfl rfl (by decide) rfl Z)
     refine zdg ?_ (h:=fun Z=>am rfl rfl (by decide) rfl Z)
     refine zdg ?_ (h:=fun Z=>am rfl rfl (by decide) rfl Z)
     refine zdg ?_ (h:=fun Z=>am rfl rfl (by decide) rfl Z)
     refine zdg ?_ (h:=fun Z=>am rfl rfl (by decide) rfl Z)
     refine zdg ?_ (h:=fun Z=>am rfl rfl (by decide) rfl Z)
     refine zdg ?_ (h:=fun Z=>am rfl rfl (by decide) rfl Z)
     refine zd ?_ (h:=fun Z=>al Z vt xc)
     refine zdm ?_
     refine zdg ?_ (h:=fun Z=>am rfl rfl (by decide) rfl Z)
     refine zdg ?_ (h:=fun Z=>am rfl rfl (by decide) rfl Z)
     refine zdg ?_ (h:=fun Z=>mr rfl rfl (by decide) rfl Z)
     refine zdg ?_ (h:=fun Z=>bV rfl rfl rfl Z)
     refine zdg ?_ (h:=fun Z=>bV rfl rfl rfl Z)
     refine zdg ?_ (h:=fun Z=>bV rfl rfl rfl Z)
     refine zdg ?_ (h:=fun Z=>bV rfl rfl rfl Z)
     refine zdg ?_ (h:=fun Z=>bV rfl rfl rfl Z)
     refine zdg ?_ (h:=fun Z=>bV rfl rfl rfl Z)
     refine zdg ?_ (h:=fun Z=>bV rfl rfl rfl Z)
     refine zdg ?_ (h:=fun Z=>bV rfl rfl rfl Z)
     refine zdg ?_ (h:=fun Z=>am rfl rfl (by decide) rfl Z)
     refine zd ?_ (h:=fun Z=>al Z vt xc)
     refine bJ ?_
     exact⟨rfl,bm ⟨(by simp only[c6];first |done |kernel_rfl),(by repeat(first |exact trivial |refine⟨by kernel_rfl,?_⟩))⟩⟩
   refine wi (b:=((!(okD (gD ds k)))||((decide (((((andn (ag l) (dl (ds.take k)))&&&(domS (gD ds k))):Nat):Int)≠(((domS (gD ds k)):Nat):Int)))||((decide (0<((k:Nat):Int)))&&(!(bef (gD ds ((((k:Nat):Int)-1).toNat)) (gD ds k))))))) (fun c9=> ?_) (fun c9=> ?_)
   ·skip
    have c10:=tj c9
    refine sq (rg (zk (nl (aq ?_))))
    exact VRes.tmp _ _ _ (by exact rfl) (cc (congrArg Value.bool (by exact(im_ex (k:=k) (by omega) (by assumption)).symm)))
   ·skip
    obtain⟨c11,c12⟩:=ly c9
    have c13:(okD (gD ds k))=true:=by first |(rw[←Bool.not_eq_false'];exact c11) |simpa using c11
    obtain⟨c14,c15⟩:=ly c12
    have c14P:=of_decide_eq_false c14
    have c16:=lM c15
    refine sk (rg (zm ?_))
    refine z ?_ (h:=fun Z=>aa (xs:=[vI ((gD ds k).x),vI ((gD ds k).y),.bool ((gD ds k).d)].map A.val) Z bp rfl (by decide) rfl)
    refine z ?_ (h:=fun Z=>ah Z (cf (gD ds k) (by omega)) (ac (ArgV.va va) an) rv)
    refine z ?_ (h:=fun Z=>ab Z vt vt (rf (c:=(((andn (andn (ag l) (dl (ds.take k))) (domS (gD ds k))):Nat):Int)) (Gj (m:=(andn (ag l) (dl (ds.take k)))) (n:=(domS (gD ds k))) rfl rfl (by(first |omega |assumption |exact bb (by assumption) |exact iP (by assumption) |exact dQ (bb (by assumption)))) (by(first |omega |assumption |exact bb (by assumption) |exact iP (by assumption) |exact dQ (bb (by assumption)))))))
    refine za (nl (rg ?_))
    refine z ?_ (h:=fun Z=>ab Z vt vc (rA (by omega) (by omega)))
    refine zm (nl ?_)
    exact ar ((k+1)) (by refine⟨by omega,xw (by assumption) ?_⟩;unfold stepOk fits;simp_all [natI];(try omega)) (by show ds.length-(k+1)<ds.length-k;omega) (wkf id (wS<|wE (e:=(aO (by(rw[qD (by omega) (by assumption),CR]))))<|wS<|wS<|wE (e:=(aO (by rfl)))<|by(iterate 10 refine wF ?_);exact wN))
  ·skip
   have c5P:=of_decide_eq_false c5
   refine aJ (sq (rg (zk (nl (aq ?_)))))
   exact VRes.tmp _ _ _ (by exact rfl) (cc (congrArg Value.bool (by exact(Fe (by omega) (by omega) (by assumption) (by assumption)).symm)))
theorem lJ (l:List Int) (ds:List Dom) (hl:l.length≤4194304) (hd:ds.length≤2097152):Fn Tryz.prog 27 [.agg [(.slv l.length 1 (isl l):A)],.a (.slv ds.length 3 (dsl ds))] [.val (.bool (fg l ds))]:=by
 refine aN (N:=81) Tryz.func27 rfl (by kernel_rfl) rfl (Nat.le_of_ble_eq_true rfl) [2,7,8,9,12,20,35,44,49,54,60,67,73,77,80] (dB rfl) (fun W=> ?_)
 show Wp _ _ _ [kV 0 (V.b (.agg [(.slv l.length 1 (isl l):A)])),kV 1 (V.b (.a (.slv ds.length 3 (dsl ds)))),kF 2,kF 7,kF 8,kF 9,kF 12,kF 20,kF 35,kF 44,kF 49,kF 54,kF 60,kF 67,kF 73,kF 77,kF 80]
 refine sq (rg ?_)
 refine z ?_ (h:=fun Z=>aM (h:=2) Z xt (by exact ob1 rfl))
 refine zk (nl (sq (rg ?_)))
 refine z ?_ (h:=fun Z=>fW (h:=9) (n:=64) (xs:=bsl (List.replicate 64 false)) Z js Fq vc vc rfl rfl (by decide) (by omega) (vd 64))
 refine za (nl (sq (sq (rg (zk (nl (bkk ?_)))))))
 refine bf (fun(k:Nat)=>k≤ds.length∧(k=0∨aU l=true)∧pC (ag l) ds k=true) (fun(k:Nat)=>[kV 1 (V.b (.a (.slv ds.length 3 (dsl ds)))),kP 2 2 0,kS 5 9 0 ((dP (dl (ds.take k))).length),kI 6 ((k:Nat):Int),kO 2 26 1 true [(.slv l.length 1 (isl l):A)],kO 9 4 1 true (pl (bsl (dP (dl (ds.take k))))),kF 7,kF 8,kF 12,kF 20,kF 35,kF 44,kF 49,kF 54,kF 60,kF 67,kF 73,kF 77,kF 80]) (fun(k:Nat)=>ds.length-k) ((0:Nat)) (by exact⟨Nat.zero_le _,.inl rfl,xx _ _⟩) (wkf id (wS<|wS<|wE (e:=(vsl (by rfl) rfl))<|wE (e:=(aO (by rfl)))<|wX<|wO (e:=aG (fun h=>h) (congrArg bsl (by exact(ED _).symm)))<|by(iterate 13 refine wF ?_);exact wN)) ?_
 rintro k inv1
 replace inv1:k≤ds.length∧(k=0∨aU l=true)∧pC (ag l) ds k=true:=inv1
 obtain⟨inv1_0,inv1_1,inv1_2⟩:=inv1
 refine sq (sq (rg (zm (zm ?_))))
 refine z ?_ (h:=fun Z=>lnV Z dn)
 refine z ?_ (h:=fun Z=>ab Z vt vt (bP rfl))
 refine nl ?_
 refine wi (fun c2=> ?_) (fun c2=> ?_)
 ·skip
  have c2P:=of_decide_eq_true c2
  refine sk (sq (bkk (sq (sq ?_))))
  refine fj [kB 38 ((!(okD (gD ds k)))||((decide (0<((k:Nat):Int)))&&(!(bef (gD ds ((((k:Nat):Int)-1).toNat)) (gD ds k))))),kV 1 (V.b (.a (.slv ds.length 3 (dsl ds)))),kP 2 2 0,kS 5 9 0 ((dP (dl (ds.take k))).length),kI 6 ((k:Nat):Int),kO 2 26 1 true [(.slv l.length 1 (isl l):A)],kO 9 4 1 true (pl (bsl (dP (dl (ds.take k))))),kF 7,kF 8,kF 12,kF 20,kF 35,kF 44,kF 49,kF 54,kF 60,kF 67,kF 73,kF 77,kF 80] ?_ ?_
  ·skip
   rcases Bool.eq_false_or_eq_true ((okD (gD ds k)))with c3 |c3
   ·skip
    rcases Bool.eq_false_or_eq_true (decide (0<((k:Nat):Int)))with c4 |c4
    ·skip
     have c4P:=of_decide_eq_true c4
     refine cg (zdm (zdm ?_))
     refine zd ?_ (h:=fun Z=>ixv Z dn eH vt (hlt:=(by omega)))
     refine zd ?_ (h:=fun Z=>uD Z bp (by omega))
     refine zd ?_ (h:=fun Z=>ah Z (cE (gD ds k) ) (ac (ArgV.va va) an) (aH (congrArg Value.bool c3)))
     refine zd ?_ (h:=fun Z=>aK Z vt (bE (c:=false) rfl))
     refine zdm ?_
     refine zdg ?_ (h:=fun Z=>ae rfl rfl (mt Z))
     refine zdg ?_ (h:=fun Z=>ae rfl rfl (ab Z vt vc (oi (c:=true) c4)))
     refine zdg ?_ (h:=fun Z=>ae rfl rfl (mt Z))
     refine zdg ?_ (h:=fun Z=>ae rfl rfl (mt Z))
     refine zdg ?_ (h:=fun Z=>ae rfl rfl (mt Z))
     refine zdg ?_ (h:=fun Z=>ae rfl rfl (ab Z vt vc (rS (by omega) (by omega))))
     refine zdg ?_ (h:=fun Z=>ae rfl rfl (ixv (k:=(((k:Nat):Int)-1).toNat) Z dn eH vt (Int.toNat_of_nonneg (by omega)).symm (by omega)))
     refine zdg ?_ (h:=fun Z=>ae rfl rfl (uD Z bp (by omega)))
     refine zdg ?_ (h:=fun Z=>ae rfl rfl (mt Z))
     refine zdg ?_ (h:=fun Z=>ae rfl rfl (mt Z))
     refine zdg ?_ (h:=fun Z=>ae rfl rfl (ixv Z dn eH vt (hlt:=(by omega))))
     refine zdg ?_ (h:=fun Z=>ae rfl rfl (uD Z bp (by omega)))
     refine zdg ?_ (h:=fun Z=>ae rfl rfl (ah Z (np (gD ds ((((k:Nat):Int)-1).toNat)) (gD ds k) ) (ac (ArgV.va va) (ac (ArgV.va va) an)) rv))
     refine zdg ?_ (h:=fun Z=>ae rfl rfl (aK Z vt (bE rfl)))
     refine zdg ?_ (h:=fun Z=>ae rfl rfl (al Z vt xt))
     refine zd ?_ (h:=fun Z=>ao Z vt xt)
     refine bJ ?_
     exact⟨rfl,bm ⟨(by simp only[c3,c4];first |done |kernel_rfl),(by repeat(first |exact trivial |refine⟨by kernel_rfl,?_⟩))⟩⟩
    ·skip
     have c4P:=of_decide_eq_false c4
     refine cg (zdm (zdm ?_))
     refine zd ?_ (h:=fun Z=>ixv Z dn eH vt (hlt:=(by omega)))
     refine zd ?_ (h:=fun Z=>uD Z bp (by omega))
     refine zd ?_ (h:=fun Z=>ah Z (cE (gD ds k) ) (ac (ArgV.va va) an) (aH (congrArg Value.bool c3)))
     refine zd ?_ (h:=fun Z=>aK Z vt (bE (c:=false) rfl))
     refine zdm ?_
     refine zdg ?_ (h:=fun Z=>ae rfl rfl (mt Z))
     refine zdg ?_ (h:=fun Z=>ae rfl rfl (ab Z vt vc (oi (c:=false) c4)))
     refine zdg ?_ (h:=fun Z=>ae rfl rfl (mt Z))
     refine zdg ?_ (h:=fun Z=>am rfl rfl (by decide) rfl Z)
     refine zdg ?_ (h:=fun Z=>am rfl rfl (by decide) rfl Z)
     refine zdg ?_ (h:=fun Z=>am rfl rfl (by decide) rfl Z)
     refine zdg ?_ (h:=fun Z=>am rfl rfl (by decide) rfl Z)
     refine zdg ?_ (h:=fun Z=>am rfl rfl (by decide) rfl Z)
     refine zdg ?_ (h:=fun Z=>am rfl rfl (by decide) rfl Z)
     refine zdg ?_ (h:=fun Z=>am rfl rfl (by decide) rfl Z)
     refine zdg ?_ (h:=fun Z=>am rfl rfl (by decide) rfl Z)
     refine zdg ?_ (h:=fun Z=>am rfl rfl (by decide) rfl Z)
     refine zdg ?_ (h:=fun Z=>am rfl rfl (by decide) rfl Z)
     refine zdg ?_ (h:=fun Z=>am rfl rfl (by decide) rfl Z)
     refine zdg ?_ (h:=fun Z=>ae rfl rfl (ao Z vt xc))
     refine zd ?_ (h:=fun Z=>ao Z vt xt)
     refine bJ ?_
     exact⟨rfl,bm ⟨(by simp only[c3,c4];first |done |kernel_rfl),(by repeat(first |exact trivial |refine⟨by kernel_rfl,?_⟩))⟩⟩
   ·skip
    refine cg (zdm (zdm ?_))
    refine zd ?_ (h:=fun Z=>ixv Z dn eH vt (hlt:=(by omega)))
    refine zd ?_ (h:=fun Z=>uD Z bp (by omega))
    refine zd ?_ (h:=fun Z=>ah Z (cE (gD ds k) ) (ac (ArgV.va va) an) (aH (congrArg Value.bool c3)))
    refine zd ?_ (h:=fun Z=>aK Z vt (bE (c:=true) rfl))
    refine zdm ?_
    refine zdg ?_ (h:=fun Z=>am rfl rfl (by decide) rfl Z)
    refine zdg ?_ (h:=fun Z=>am rfl rfl (by decide) rfl Z)
    refine zdg ?_ (h:=fun Z=>mr rfl rfl (by decide) rfl Z)
    refine zdg ?_ (h:=fun Z=>bV rfl rfl rfl Z)
    refine zdg ?_ (h:=fun Z=>bV rfl rfl rfl Z)
    refine zdg ?_ (h:=fun Z=>bV rfl rfl rfl Z)
    refine zdg ?_ (h:=fun Z=>bV rfl rfl rfl Z)
    refine zdg ?_ (h:=fun Z=>bV rfl rfl rfl Z)
    refine zdg ?_ (h:=fun Z=>bV rfl rfl rfl Z)
    refine zdg ?_ (h:=fun Z=>bV rfl rfl rfl Z)
    refine zdg ?_ (h:=fun Z=>bV rfl rfl rfl Z)
    refine zdg ?_ (h:=fun Z=>bV rfl rfl rfl Z)
    refine zdg ?_ (h:=fun Z=>bV rfl rfl rfl Z)
    refine zdg ?_ (h:=fun Z=>bV rfl rfl rfl Z)
    refine zdg ?_ (h:=fun Z=>am rfl rfl (by decide) rfl Z)
    refine zd ?_ (h:=fun Z=>al Z vt xc)
    refine bJ ?_
    exact⟨rfl,bm ⟨(by simp only[c3];first |done |kernel_rfl),(by repeat(first |exact trivial |refine⟨by kernel_rfl,?_⟩))⟩⟩
  refine wi (b:=((!(okD (gD ds k)))||((decide (0<((k:Nat):Int)))&&(!(bef (gD ds ((((k:Nat):Int)-1).toNat)) (gD ds k)))))) (fun c5=> ?_) (fun c5=> ?_)
  ·skip
   have c6:=tj c5
   refine sq (rg (zk (nl (aq ?_))))
   exact VRes.tmp _ _ _ (by exact rfl) (cc (congrArg Value.bool (by exact(Nx (k:=k) (by omega) (by assumption)).symm)))
  ·skip
   obtain⟨c7,c8⟩:=ly c5
   have c9:(okD (gD ds k))=true:=by first |(rw[←Bool.not_eq_false'];exact c7) |simpa using c7
   have c10:=lM c8
   refine sk (sq (rg (zm (zm ?_))))
   refine z ?_ (h:=fun Z=>ixv Z dn eH vt (hlt:=(by omega)))
   refine z ?_ (h:=fun Z=>uD Z bp (by omega))
   refine z ?_ (h:=fun Z=>cS Z (lj (gD ds k) (by omega)) (ac (ArgV.va va) an) (ResV.agg [vI ((ca (gD ds k)).x),vI ((ca (gD ds k)).y)]) (ResV.agg [vI ((cb (gD ds k)).x),vI ((cb (gD ds k)).y)]))
   refine zm ?_
   refine z ?_ (h:=fun Z=>az Z (by exact rfl))
   refine z ?_ (h:=fun Z=>az Z (by exact rfl))
   refine z ?_ (h:=fun Z=>aF (h:=7) (cap:=1) (s:=2) (cells:=[aI 0,aI 0]) Z dJ rfl rfl (by decide))
   refine z ?_ (h:=fun Z=>aF (h:=8) (cap:=1) (s:=2) (cells:=[aI 0,aI 0]) Z dJ rfl rfl (by decide))
   refine z ?_ (h:=fun _=>aw (cells:=[aI ((ca (gD ds k)).x),aI ((ca (gD ds k)).y)]) bj xt (by exact rfl) (by decide) (by exact ob1 rfl) (by exact Nat.le_of_ble_eq_true rfl) (by exact rfl))
   refine z ?_ (h:=fun _=>aw (cells:=[aI ((cb (gD ds k)).x),aI ((cb (gD ds k)).y)]) bj xt (by exact rfl) (by decide) (by exact ob1 rfl) (by exact Nat.le_of_ble_eq_true rfl) (by exact rfl))
   refine nl (sq (sq ?_))
   refine fj [kB 70 ((!(eJ l (ca (gD ds k))))||((!(eJ l (cb (gD ds k))))||((gB (dP (dl (ds.take k))) (idx (ca (gD ds k))))||(gB (dP (dl (ds.take k))) (idx (cb (gD ds k))))))),kV 1 (V.b (.a (.slv ds.length 3 (dsl ds)))),kP 2 2 0,kS 5 9 0 ((dP (dl (ds.take k))).length),kI 6 ((k:Nat):Int),kP 7 7 0,kP 8 8 0,kO 2 26 1 true [(.slv l.length 1 (isl l):A)],kO 7 67 2 true [aI ((ca (gD ds k)).x),aI ((ca (gD ds k)).y)],kO 8 67 2 true [aI ((cb (gD ds k)).x),aI ((cb (gD ds k)).y)],kO 9 4 1 true (pl (bsl (dP (dl (ds.take k))))),kF 12,kF 20,kF 35,kF 44,kF 49,kF 54,kF 60,kF 67,kF 73,kF 77,kF 80] ?_ ?_
   ·skip
    rcases Bool.eq_false_or_eq_true ((eJ l (ca (gD ds k))))with c11 |c11
    ·skip
     rcases Bool.eq_false_or_eq_true ((eJ l (cb (gD ds k))))with c12 |c12
     ·skip
      rcases Bool.eq_false_or_eq_true ((gB (dP (dl (ds.take k))) (idx (ca (gD ds k)))))with c13 |c13
      ·skip
       refine rg ?_
       refine z ?_ (h:=fun Z=>aa (xs:=[(.slv l.length 1 (isl l):A)]) Z db rfl (by decide) rfl)
       refine z ?_ (h:=fun Z=>aa (xs:=[vI ((ca (gD ds k)).x),vI ((ca (gD ds k)).y)].map A.val) Z bj rfl (by decide) rfl)
       refine z ?_ (h:=fun Z=>ah Z (cB l (ca (gD ds k)) (by omega)) (ac (ArgV.regv _ _ 1 _) (ac (ArgV.va va) an)) (aH (congrArg Value.bool c11)))
       refine z ?_ (h:=fun Z=>aK Z vt (bE (c:=false) rfl))
       refine zm ?_
       refine zg ?_ (h:=fun Z=>ae rfl rfl (aa (xs:=[(.slv l.length 1 (isl l):A)]) Z db rfl (by decide) rfl))
       refine zg ?_ (h:=fun Z=>ae rfl rfl (aa (xs:=[vI ((cb (gD ds k)).x),vI ((cb (gD ds k)).y)].map A.val) Z bj rfl (by decide) rfl))
       refine zg ?_ (h:=fun Z=>ae rfl rfl (ah Z (cB l (cb (gD ds k)) (by omega)) (ac (ArgV.regv _ _ 1 _) (ac (ArgV.va va) an)) (aH (congrArg Value.bool c12))))
       refine zg ?_ (h:=fun Z=>ae rfl rfl (aK Z vt (bE (c:=false) rfl)))
       refine z ?_ (h:=fun Z=>ao Z vt xt)
       refine zm ?_
       refine zg ?_ (h:=fun Z=>ae rfl rfl (mt Z))
       refine zg ?_ (h:=fun Z=>ae rfl rfl (aa (xs:=[vI ((ca (gD ds k)).x),vI ((ca (gD ds k)).y)].map A.val) Z bj rfl (by decide) rfl))
       refine zg ?_ (h:=fun Z=>ae rfl rfl (ah Z (dp (ca (gD ds k)) (by exact eX (by assumption))) (ac (ArgV.va va) an) rv))
       refine zg ?_ (h:=fun Z=>ae rfl rfl (ix0 Z js me vt (hlt:=(by(have:=cn (eX (d:=gD ds k) (by assumption));have:=cn (fU (d:=gD ds k) (by assumption));simp [eD]at*;omega)))))
       refine zg ?_ (h:=fun Z=>ae rfl rfl (ai Z fq (by exact la ((nM (k:=(idx (ca (gD ds k)))) (by(have:=cn (eX (d:=gD ds k) (by assumption));have:=cn (fU (d:=gD ds k) (by assumption));simp [eD]at*;omega))).trans (congrArg (fun b:Bool=>some (Value.bool b)) c13)))))
       refine z ?_ (h:=fun Z=>ao Z vt xt)
       refine zm (zo (zo (zo (zo (zo ?_)))))
       refine z ?_ (h:=fun Z=>al Z vt xc)
       refine nl ?_
       exact⟨rfl,bm ⟨(by simp only[c11,c12,c13];first |done |kernel_rfl),(by repeat(first |exact trivial |refine⟨by kernel_rfl,?_⟩))⟩⟩
      ·skip
       refine rg ?_
       refine z ?_ (h:=fun Z=>aa (xs:=[(.slv l.length 1 (isl l):A)]) Z db rfl (by decide) rfl)
       refine z ?_ (h:=fun Z=>aa (xs:=[vI ((ca (gD ds k)).x),vI ((ca (gD ds k)).y)].map A.val) Z bj rfl (by decide) rfl)
       refine z ?_ (h:=fun Z=>ah Z (cB l (ca (gD ds k)) (by omega)) (ac (ArgV.regv _ _ 1 _) (ac (ArgV.va va) an)) (aH (congrArg Value.bool c11)))
       refine z ?_ (h:=fun Z=>aK Z vt (bE (c:=false) rfl))
       refine zm ?_
       refine zg ?_ (h:=fun Z=>ae rfl rfl (aa (xs:=[(.slv l.length 1 (isl l):A)]) Z db rfl (by decide) rfl))
       refine zg ?_ (h:=fun Z=>ae rfl rfl (aa (xs:=[vI ((cb (gD ds k)).x),vI ((cb (gD ds k)).y)].map A.val) Z bj rfl (by decide) rfl))
       refine zg ?_ (h:=fun Z=>ae rfl rfl (ah Z (cB l (cb (gD ds k)) (by omega)) (ac (ArgV.regv _ _ 1 _) (ac (ArgV.va va) an)) (aH (congrArg Value.bool c12))))
       refine zg ?_ (h:=fun Z=>ae rfl rfl (aK Z vt (bE (c:=false) rfl)))
       refine z ?_ (h:=fun Z=>ao Z vt xt)
       refine zm ?_
       refine zg ?_ (h:=fun Z=>ae rfl rfl (mt Z))
       refine zg ?_ (h:=fun Z=>ae rfl rfl (aa (xs:=[vI ((ca (gD ds k)).x),vI ((ca (gD ds k)).y)].map A.val) Z bj rfl (by decide) rfl))
       refine zg ?_ (h:=fun Z=>ae rfl rfl (ah Z (dp (ca (gD ds k)) (by exact eX (by assumption))) (ac (ArgV.va va) an) rv))
       refine zg ?_ (h:=fun Z=>ae rfl rfl (ix0 Z js me vt (hlt:=(by(have:=cn (eX (d:=gD ds k) (by assumption));have:=cn (fU (d:=gD ds k) (by assumption));simp [eD]at*;omega)))))
       refine zg ?_ (h:=fun Z=>ae rfl rfl (ai Z fq (by exact la ((nM (k:=(idx (ca (gD ds k)))) (by(have:=cn (eX (d:=gD ds k) (by assumption));have:=cn (fU (d:=gD ds k) (by assumption));simp [eD]at*;omega))).trans (congrArg (fun b:Bool=>some (Value.bool b)) c13)))))
       refine z ?_ (h:=fun Z=>ao Z vt xt)
       refine zm ?_
       refine zg ?_ (h:=fun Z=>ae rfl rfl (mt Z))
       refine zg ?_ (h:=fun Z=>ae rfl rfl (aa (xs:=[vI ((cb (gD ds k)).x),vI ((cb (gD ds k)).y)].map A.val) Z bj rfl (by decide) rfl))
       refine zg ?_ (h:=fun Z=>ae rfl rfl (ah Z (dp (cb (gD ds k)) (by exact fU (by assumption))) (ac (ArgV.va va) an) rv))
       refine zg ?_ (h:=fun Z=>ae rfl rfl (ix0 Z js me vt (hlt:=(by(have:=cn (eX (d:=gD ds k) (by assumption));have:=cn (fU (d:=gD ds k) (by assumption));simp [eD]at*;omega)))))
       refine zg ?_ (h:=fun Z=>ae rfl rfl (lB Z fq (by(have:=cn (eX (d:=gD ds k) (by assumption));have:=cn (fU (d:=gD ds k) (by assumption));simp [eD]at*;omega))))
       refine z ?_ (h:=fun Z=>ao Z vt xt)
       refine nl ?_
       exact⟨rfl,bm ⟨(by simp only[c11,c12,c13];first |done |kernel_rfl),(by repeat(first |exact trivial |refine⟨by kernel_rfl,?_⟩))⟩⟩
     ·skip
      refine rg ?_
      refine z ?_ (h:=fun Z=>aa (xs:=[(.slv l.length 1 (isl l):A)]) Z db rfl (by decide) rfl)
      refine z ?_ (h:=fun Z=>aa (xs:=[vI ((ca (gD ds k)).x),vI ((ca (gD ds k)).y)].map A.val) Z bj rfl (by decide) rfl)
      refine z ?_ (h:=fun Z=>ah Z (cB l (ca (gD ds k)) (by omega)) (ac (ArgV.regv _ _ 1 _) (ac (ArgV.va va) an)) (aH (congrArg Value.bool c11)))
      refine z ?_ (h:=fun Z=>aK Z vt (bE (c:=false) rfl))
      refine zm ?_
      refine zg ?_ (h:=fun Z=>ae rfl rfl (aa (xs:=[(.slv l.length 1 (isl l):A)]) Z db rfl (by decide) rfl))
      refine zg ?_ (h:=fun Z=>ae rfl rfl (aa (xs:=[vI ((cb (gD ds k)).x),vI ((cb (gD ds k)).y)].map A.val) Z bj rfl (by decide) rfl))
      refine zg ?_ (h:=fun Z=>ae rfl rfl (ah Z (cB l (cb (gD ds k)) (by omega)) (ac (ArgV.regv _ _ 1 _) (ac (ArgV.va va) an)) (aH (congrArg Value.bool c12))))
      refine zg ?_ (h:=fun Z=>ae rfl rfl (aK Z vt (bE (c:=true) rfl)))
      refine z ?_ (h:=fun Z=>ao Z vt xt)
      refine zm (zo (zo (zo (zo (zo ?_)))))
      refine z ?_ (h:=fun Z=>al Z vt xc)
      refine zm (zo (zo (zo (zo (zo ?_)))))
      refine z ?_ (h:=fun Z=>al Z vt xc)
      refine nl ?_
      exact⟨rfl,bm ⟨(by simp only[c11,c12];first |done |kernel_rfl),(by repeat(first |exact trivial |refine⟨by kernel_rfl,?_⟩))⟩⟩
    ·skip
     refine rg ?_
     refine z ?_ (h:=fun Z=>aa (xs:=[(.slv l.length 1 (isl l):A)]) Z db rfl (by decide) rfl)
     refine z ?_ (h:=fun Z=>aa (xs:=[vI ((ca (gD ds k)).x),vI ((ca (gD ds k)).y)].map A.val) Z bj rfl (by decide) rfl)
     refine z ?_ (h:=fun Z=>ah Z (cB l (ca (gD ds k)) (by omega)) (ac (ArgV.regv _ _ 1 _) (ac (ArgV.va va) an)) (aH (congrArg Value.bool c11)))
     refine z ?_ (h:=fun Z=>aK Z vt (bE (c:=true) rfl))
     refine zm (zo (zo (zo (zo ?_))))
     refine z ?_ (h:=fun Z=>al Z vt xc)
     refine zm (zo (zo (zo (zo (zo ?_)))))
     refine z ?_ (h:=fun Z=>al Z vt xc)
     refine zm (zo (zo (zo (zo (zo ?_)))))
     refine z ?_ (h:=fun Z=>al Z vt xc)
     refine nl ?_
     exact⟨rfl,bm ⟨(by simp only[c11];first |done |kernel_rfl),(by repeat(first |exact trivial |refine⟨by kernel_rfl,?_⟩))⟩⟩
   refine wi (b:=((!(eJ l (ca (gD ds k))))||((!(eJ l (cb (gD ds k))))||((gB (dP (dl (ds.take k))) (idx (ca (gD ds k))))||(gB (dP (dl (ds.take k))) (idx (cb (gD ds k)))))))) (fun c14=> ?_) (fun c14=> ?_)
   ·skip
    have c15:=tj c14
    refine sq (rg (zk (nl (aq ?_))))
    exact VRes.tmp _ _ _ (by exact rfl) (cc (congrArg Value.bool (by exact(Ny (k:=k) (by omega) (by assumption) (by assumption)).symm)))
   ·skip
    obtain⟨c16,c17⟩:=ly c14
    have c18:(eJ l (ca (gD ds k)))=true:=by first |(rw[←Bool.not_eq_false'];exact c16) |simpa using c16
    obtain⟨c19,c20⟩:=ly c17
    have c21:(eJ l (cb (gD ds k)))=true:=by first |(rw[←Bool.not_eq_false'];exact c19) |simpa using c19
    obtain⟨c22,c23⟩:=ly c20
    refine sk (sq (rg (zm ?_)))
    refine z ?_ (h:=fun Z=>aa (xs:=[vI ((ca (gD ds k)).x),vI ((ca (gD ds k)).y)].map A.val) Z bj rfl (by decide) rfl)
    refine z ?_ (h:=fun Z=>ah Z (dp (ca (gD ds k)) (by exact eX (by assumption))) (ac (ArgV.va va) an) rv)
    refine z ?_ (h:=fun Z=>ix0 Z js me vt (hlt:=(by(have:=cn (eX (d:=gD ds k) (by assumption));have:=cn (fU (d:=gD ds k) (by assumption));simp [eD]at*;omega))))
    refine z ?_ (h:=fun _=>sB fq xc (by(have:=cn (eX (d:=gD ds k) (by assumption));have:=cn (fU (d:=gD ds k) (by assumption));simp [eD]at*;omega)))
    refine nl (rg (zm ?_))
    refine z ?_ (h:=fun Z=>aa (xs:=[vI ((cb (gD ds k)).x),vI ((cb (gD ds k)).y)].map A.val) Z bj rfl (by decide) rfl)
    refine z ?_ (h:=fun Z=>ah Z (dp (cb (gD ds k)) (by exact fU (by assumption))) (ac (ArgV.va va) an) rv)
    refine z ?_ (h:=fun Z=>ix0 Z js me vt (hlt:=(by(have:=cn (eX (d:=gD ds k) (by assumption));have:=cn (fU (d:=gD ds k) (by assumption));simp [eD]at*;omega))))
    refine z ?_ (h:=fun _=>sB fq xc (by(have:=cn (eX (d:=gD ds k) (by assumption));have:=cn (fU (d:=gD ds k) (by assumption));simp [eD]at*;omega)))
    refine nl (rg (zm ?_))
    refine z ?_ (h:=fun Z=>ab Z vt vc (rA (by omega) (by omega)))
    refine za (nl ?_)
    exact ar ((k+1)) (by refine⟨by omega,.inr (Aa (by assumption)),xw (by assumption) ?_⟩;rw[DZ (Aa (by assumption)) (by assumption)];simp_all;(try omega)) (by show ds.length-(k+1)<ds.length-k;omega) (wkf id (wS<|wS<|wE (e:=(vsl (by rfl) rfl))<|wE (e:=(aO (by rfl)))<|wX<|wO (e:=aG (fun h=>h) (congrArg bsl (by(rw[EE (by omega) (by assumption)]))))<|by(iterate 13 refine wF ?_);exact wN))
 ·skip
  have c2P:=of_decide_eq_false c2
  refine aJ (sq (rg ?_))
  refine z ?_ (h:=fun Z=>aa (xs:=[(.slv l.length 1 (isl l):A)]) Z db rfl (by decide) rfl)
  refine z ?_ (h:=fun Z=>ah Z (cF l (by omega)) (ac (ArgV.regv _ _ 1 _) an) rv)
  refine za (nl (aq ?_))
  exact VRes.tmp _ _ _ (by exact rfl) (cc (congrArg Value.bool (by exact Fd (by omega) (by omega) (by assumption))))
theorem lZ (l:List Int) (ds:List Dom) (hl:l.length≤4194304) (hd:ds.length≤2097152):Fn Tryz.prog 65 [.agg [(.slv l.length 1 (isl l):A)],.a (.slv ds.length 3 (dsl ds))] [.val (.bool (ct l ds))]:=by
 refine aN (N:=15) Tryz.func65 rfl (by kernel_rfl) rfl (Nat.le_of_ble_eq_true rfl) [2,7,10,12] (dB rfl) (fun W=> ?_)
 show Wp _ _ _ [kV 0 (V.b (.agg [(.slv l.length 1 (isl l):A)])),kV 1 (V.b (.a (.slv ds.length 3 (dsl ds)))),kF 2,kF 7,kF 10,kF 12]
 refine sq (rg ?_)
 refine z ?_ (h:=fun Z=>aM (h:=2) Z xt (by exact ob1 rfl))
 refine zk (nl (sq ?_))
 rcases Bool.eq_false_or_eq_true ((fg l ds))with c1 |c1
 ·skip
  refine cg ?_
  refine zd ?_ (h:=fun Z=>aa (xs:=[(.slv l.length 1 (isl l):A)]) Z db rfl (by decide) rfl)
  refine zdm ?_
  refine zd ?_ (h:=fun Z=>ah Z (lx l ds (by omega) (by omega)) (ac (ArgV.regv _ _ 1 _) (ac (ArgV.slv _ _ _ _) an)) (aH (congrArg Value.bool c1)))
  refine zdm ?_
  refine zdg ?_ (h:=fun Z=>ae rfl rfl (mt Z))
  refine zdg ?_ (h:=fun Z=>ae rfl rfl (ah Z (tK ds (by omega)) (ac (ArgV.slv _ _ _ _) an) rv))
  refine zdg ?_ (h:=fun Z=>ae rfl rfl (aa (xs:=[(.slv l.length 1 (isl l):A)]) Z db rfl (by decide) rfl))
  refine zdg ?_ (h:=fun Z=>ae rfl rfl (ah Z (cA l (by exact(mL (by assumption)).1)) (ac (ArgV.regv _ _ 1 _) an) rv))
  refine zdg ?_ (h:=fun Z=>ae rfl rfl (ab Z vt vt (cW rfl)))
  refine zd ?_ (h:=fun Z=>al Z vt xt)
  refine zd ?_ (h:=fun Z=>gt Z)
  refine bJ (aq ?_)
  exact VRes.tmp _ _ _ (by exact rfl) (cc (congrArg Value.bool (by(simp_all [ct,natI];done))))
 ·skip
  refine cg ?_
  refine zd ?_ (h:=fun Z=>aa (xs:=[(.slv l.length 1 (isl l):A)]) Z db rfl (by decide) rfl)
  refine zdm ?_
  refine zd ?_ (h:=fun Z=>ah Z (lx l ds (by omega) (by omega)) (ac (ArgV.regv _ _ 1 _) (ac (ArgV.slv _ _ _ _) an)) (aH (congrArg Value.bool c1)))
  refine zdm ?_
  refine zdg ?_ (h:=fun Z=>am rfl rfl (by decide) rfl Z)
  refine zdg ?_ (h:=fun Z=>am rfl rfl (by decide) rfl Z)
  refine zdg ?_ (h:=fun Z=>am rfl rfl (by decide) rfl Z)
  refine zdg ?_ (h:=fun Z=>am rfl rfl (by decide) rfl Z)
  refine zdg ?_ (h:=fun Z=>am rfl rfl (by decide) rfl Z)
  refine zd ?_ (h:=fun Z=>ao Z vt xc)
  refine zd ?_ (h:=fun Z=>gt Z)
  refine bJ (aq ?_)
  exact VRes.tmp _ _ _ (by exact rfl) (cc (congrArg Value.bool (by(simp_all [ct,natI];done))))
theorem gF (l:List Int) (ds:List Dom) (hl:l.length≤4194304) (hd:ds.length≤2097152):Fn Tryz.prog 12 [.agg [(.slv l.length 1 (isl l):A)],.a (.slv ds.length 3 (dsl ds))] [.val (.bool (ct l ds))]:=by
 have h64:=lq l
 refine aN (N:=16) Tryz.func12 rfl (by kernel_rfl) rfl (Nat.le_of_ble_eq_true rfl) [2,7,10,13] (dB rfl) (fun W=> ?_)
 show Wp _ _ _ [kV 0 (V.b (.agg [(.slv l.length 1 (isl l):A)])),kV 1 (V.b (.a (.slv ds.length 3 (dsl ds)))),kF 2,kF 7,kF 10,kF 13]
 refine sq (rg ?_)
 refine z ?_ (h:=fun Z=>aM (h:=2) Z xt (by exact ob1 rfl))
 refine zk (nl (sq ?_))
 rcases Bool.eq_false_or_eq_true ((fg l ds))with c1 |c1
 ·skip
  refine rg ?_
  refine z ?_ (h:=fun Z=>aa (xs:=[(.slv l.length 1 (isl l):A)]) Z db rfl (by decide) rfl)
  refine zm ?_
  refine z ?_ (h:=fun Z=>ah Z (lJ l ds (by omega) (by omega)) (ac (ArgV.regv _ _ 1 _) (ac (ArgV.slv _ _ _ _) an)) (aH (congrArg Value.bool c1)))
  refine zm ?_
  refine zg ?_ (h:=fun Z=>ae rfl rfl (mt Z))
  refine zg ?_ (h:=fun Z=>ae rfl rfl (lnV Z dn))
  refine zg ?_ (h:=fun Z=>ae rfl rfl (ab Z vc vt (rM (by omega) (by omega))))
  refine zg ?_ (h:=fun Z=>ae rfl rfl (aa (xs:=[(.slv l.length 1 (isl l):A)]) Z db rfl (by decide) rfl))
  refine zg ?_ (h:=fun Z=>ae rfl rfl (ah Z (qn l (by omega)) (ac (ArgV.regv _ _ 1 _) an) rv))
  refine zg ?_ (h:=fun Z=>ae rfl rfl (ab Z vt vt (cW rfl)))
  refine z ?_ (h:=fun Z=>al Z vt xt)
  refine za (nl (aq ?_))
  exact VRes.tmp _ _ _ (by exact rfl) (cc (congrArg Value.bool (by(rw[Ai (by assumption),decide_eq_decide];omega))))
 ·skip
  refine rg ?_
  refine z ?_ (h:=fun Z=>aa (xs:=[(.slv l.length 1 (isl l):A)]) Z db rfl (by decide) rfl)
  refine zm ?_
  refine z ?_ (h:=fun Z=>ah Z (lJ l ds (by omega) (by omega)) (ac (ArgV.regv _ _ 1 _) (ac (ArgV.slv _ _ _ _) an)) (aH (congrArg Value.bool c1)))
  refine zm (zo (zo (zo (zo (zo (zo ?_))))))
  refine z ?_ (h:=fun Z=>ao Z vt xc)
  refine za (nl (aq ?_))
  exact VRes.tmp _ _ _ (by exact rfl) (cc (congrArg Value.bool (by(simp_all [ct];done))))
theorem mo (ds:List Dom) (c:Cel) (hd:ds.length≤2097152):Fn Tryz.prog 78 [.a (.slv ds.length 3 (dsl ds)),.agg ([vI c.x,vI c.y].map A.val)] [.val (.int .i64 (atD ds c))]:=by
 refine aN (N:=37) Tryz.func78 rfl (by kernel_rfl) rfl (Nat.le_of_ble_eq_true rfl) [3,6,7,10,18,25] (dB rfl) (fun W=> ?_)
 show Wp _ _ _ [kV 0 (V.b (.a (.slv ds.length 3 (dsl ds)))),kV 1 (V.av [vI c.x,vI c.y]),kF 3,kF 6,kF 7,kF 10,kF 18,kF 25]
 refine sq (rg ?_)
 refine z ?_ (h:=fun Z=>aM (h:=3) Z xt (by exact ob1 rfl))
 refine zk (nl (sq (sq (rg (zk (nl (bkk ?_)))))))
 refine bf (fun(k:Nat)=>k≤ds.length∧(ds.take k).any (cvr c)=false) (fun(k:Nat)=>[kV 0 (V.b (.a (.slv ds.length 3 (dsl ds)))),kP 3 3 0,kI 5 ((k:Nat):Int),kO 3 67 2 true [aI c.x,aI c.y],kF 6,kF 7,kF 10,kF 18,kF 25]) (fun(k:Nat)=>ds.length-k) ((0:Nat)) (by exact⟨Nat.zero_le _,rfl⟩) (wkf id (wS<|wS<|wE (e:=(aO (by rfl)))<|wX<|wF<|wF<|wF<|wF<|wF<|wN)) ?_
 rintro k inv1
 replace inv1:k≤ds.length∧(ds.take k).any (cvr c)=false:=inv1
 obtain⟨inv1_0,inv1_1⟩:=inv1
 refine sq (sq (rg (zm (zm ?_))))
 refine z ?_ (h:=fun Z=>lnV Z dn)
 refine z ?_ (h:=fun Z=>ab Z vt vt (bP rfl))
 refine nl ?_
 refine wi (fun c2=> ?_) (fun c2=> ?_)
 ·skip
  have c2P:=of_decide_eq_true c2
  refine sk (sq (bkk (sq (sq (rg (zm (zm ?_)))))))
  refine z ?_ (h:=fun Z=>ixv Z dn eH vt (hlt:=(by omega)))
  refine z ?_ (h:=fun Z=>uD Z bp (by omega))
  refine z ?_ (h:=fun Z=>ah Z (cE (gD ds k) ) (ac (ArgV.va va) an) rv)
  refine z ?_ (h:=fun Z=>aK Z vt (bE rfl))
  refine nl ?_
  refine wi (b:=(!(okD (gD ds k)))) (fun c3=> ?_) (fun c3=> ?_)
  ·skip
   have c4:(okD (gD ds k))=false:=by first |(rw[←Bool.not_eq_true'];exact c3) |simpa using c3
   refine aJ (rg (zm ?_))
   refine z ?_ (h:=fun Z=>ab Z vt vc (rA (by omega) (by omega)))
   refine za (nl ?_)
   exact ar ((k+1)) (by refine⟨by omega,rH (by omega) (by assumption) ?_⟩;unfold cvr;simp_all [oG]) (by show ds.length-(k+1)<ds.length-k;omega) (wkf id (wS<|wS<|wE (e:=(aO (by rfl)))<|wX<|wF<|wF<|wF<|wF<|wF<|wN))
  ·skip
   have c5:(okD (gD ds k))=true:=by first |(rw[←Bool.not_eq_false'];exact c3) |simpa using c3
   refine sk (sq (rg (zm (zm ?_))))
   refine z ?_ (h:=fun Z=>ixv Z dn eH vt (hlt:=(by omega)))
   refine z ?_ (h:=fun Z=>uD Z bp (by omega))
   refine z ?_ (h:=fun Z=>cS Z (lj (gD ds k) (by omega)) (ac (ArgV.va va) an) (ResV.agg [vI ((ca (gD ds k)).x),vI ((ca (gD ds k)).y)]) (ResV.agg [vI ((cb (gD ds k)).x),vI ((cb (gD ds k)).y)]))
   refine zm ?_
   refine z ?_ (h:=fun Z=>az Z (by exact rfl))
   refine z ?_ (h:=fun Z=>az Z (by exact rfl))
   refine z ?_ (h:=fun Z=>aF (h:=6) (cap:=1) (s:=2) (cells:=[aI 0,aI 0]) Z dJ rfl rfl (by decide))
   refine z ?_ (h:=fun Z=>aF (h:=7) (cap:=1) (s:=2) (cells:=[aI 0,aI 0]) Z dJ rfl rfl (by decide))
   refine z ?_ (h:=fun _=>aw (cells:=[aI ((ca (gD ds k)).x),aI ((ca (gD ds k)).y)]) bj xt (by exact rfl) (by decide) (by exact ob1 rfl) (by exact Nat.le_of_ble_eq_true rfl) (by exact rfl))
   refine z ?_ (h:=fun _=>aw (cells:=[aI ((cb (gD ds k)).x),aI ((cb (gD ds k)).y)]) bj xt (by exact rfl) (by decide) (by exact ob1 rfl) (by exact Nat.le_of_ble_eq_true rfl) (by exact rfl))
   refine nl (sq ?_)
   rcases Bool.eq_false_or_eq_true ((cEq ((ca (gD ds k)).x) ((ca (gD ds k)).y) c.x c.y))with c6 |c6
   ·skip
    refine rg ?_
    refine z ?_ (h:=fun Z=>aa (xs:=[vI ((ca (gD ds k)).x),vI ((ca (gD ds k)).y)].map A.val) Z bj rfl (by decide) rfl)
    refine z ?_ (h:=fun Z=>aa (xs:=[vI c.x,vI c.y].map A.val) Z bj rfl (by decide) rfl)
    refine z ?_ (h:=fun Z=>ab Z va va (re qi (fun w=>(lF ((ca (gD ds k)).x) ((ca (gD ds k)).y) c.x c.y w).trans (congrArg (fun z=>Result.ok (Value.bool z) w) c6))))
    refine zm (zo (zo (zo ?_)))
    refine z ?_ (h:=fun Z=>al Z vt xc)
    refine nl (wt (sq (rg (zm (za (nl (aq ?_)))))))
    exact VRes.tmp _ _ _ (by exact rfl) (cc (congrArg (Value.int .i64) (by(refine CT (by omega) (by assumption) ?_;unfold cvr;simp_all [oG]))))
   ·skip
    refine rg ?_
    refine z ?_ (h:=fun Z=>aa (xs:=[vI ((ca (gD ds k)).x),vI ((ca (gD ds k)).y)].map A.val) Z bj rfl (by decide) rfl)
    refine z ?_ (h:=fun Z=>aa (xs:=[vI c.x,vI c.y].map A.val) Z bj rfl (by decide) rfl)
    refine z ?_ (h:=fun Z=>ab Z va va (re qi (fun w=>(lF ((ca (gD ds k)).x) ((ca (gD ds k)).y) c.x c.y w).trans (congrArg (fun z=>Result.ok (Value.bool z) w) c6))))
    refine zm ?_
    refine zg ?_ (h:=fun Z=>ae rfl rfl (aa (xs:=[vI ((cb (gD ds k)).x),vI ((cb (gD ds k)).y)].map A.val) Z bj rfl (by decide) rfl))
    refine zg ?_ (h:=fun Z=>ae rfl rfl (aa (xs:=[vI c.x,vI c.y].map A.val) Z bj rfl (by decide) rfl))
    refine zg ?_ (h:=fun Z=>ae rfl rfl (ab Z va va (re qi (fun w=>(lF ((cb (gD ds k)).x) ((cb (gD ds k)).y) c.x c.y w).trans (congrArg (fun z=>Result.ok (Value.bool z) w) (rfl:(cEq ((cb (gD ds k)).x) ((cb (gD ds k)).y) c.x c.y)=(cEq ((cb (gD ds k)).x) ((cb (gD ds k)).y) c.x c.y)))))))
    refine z ?_ (h:=fun Z=>ao Z vt xt)
    refine nl ?_
    refine wi (b:=(cEq ((cb (gD ds k)).x) ((cb (gD ds k)).y) c.x c.y)) (fun c7=> ?_) (fun c7=> ?_)
    ·skip
     refine sq (rg (zm (za (nl (aq ?_)))))
     exact VRes.tmp _ _ _ (by exact rfl) (cc (congrArg (Value.int .i64) (by(refine CT (by omega) (by assumption) ?_;unfold cvr;simp_all [oG]))))
    ·skip
     refine sk (rg (zm ?_))
     refine z ?_ (h:=fun Z=>ab Z vt vc (rA (by omega) (by omega)))
     refine za (nl ?_)
     exact ar ((k+1)) (by refine⟨by omega,rH (by omega) (by assumption) ?_⟩;unfold cvr;simp_all [oG]) (by show ds.length-(k+1)<ds.length-k;omega) (wkf id (wS<|wS<|wE (e:=(aO (by rfl)))<|wX<|wF<|wF<|wF<|wF<|wF<|wN))
 ·skip
  have c2P:=of_decide_eq_false c2
  refine aJ (sq (rg (zk (nl (aq ?_)))))
  exact VRes.tmp _ _ _ (by exact rfl) (cc (congrArg (Value.int .i64) (by exact Mh (by omega) (by assumption))))
theorem pG (l:List Int) (ds:List Dom) (hl:l.length≤4194304) (hd:ds.length≤2097152):Fn Tryz.prog 76 [.agg [(.slv l.length 1 (isl l):A)],.a (.slv ds.length 3 (dsl ds))] [.row 67 2 (unc l ds).length (csl (unc l ds))]:=by
 refine aN (N:=32) Tryz.func76 rfl (by kernel_rfl) rfl (Nat.le_of_ble_eq_true rfl) [2,8,10,13,22,29,30] (dB rfl) (fun W=> ?_)
 show Wp _ _ _ [kV 0 (V.b (.agg [(.slv l.length 1 (isl l):A)])),kV 1 (V.b (.a (.slv ds.length 3 (dsl ds)))),kF 2,kF 8,kF 10,kF 13,kF 22,kF 29,kF 30]
 refine sq (rg ?_)
 refine z ?_ (h:=fun Z=>aM (h:=2) Z xt (by exact ob1 rfl))
 refine zk (nl (sq (rg ?_)))
 refine z ?_ (h:=fun Z=>b0C (h:=8) Z jr dJ)
 refine za (nl (sq (rg ?_)))
 refine z ?_ (h:=fun Z=>aa (xs:=[(.slv l.length 1 (isl l):A)]) Z db rfl (by decide) rfl)
 refine z ?_ (h:=fun Z=>ah Z (kg l (by omega)) (ac (ArgV.regv _ _ 1 _) an) (ResV.row _ _ _ _ 10))
 refine za (nl (sq (sq (rg (zk (nl (bkk ?_)))))))
 refine bf (fun(k:Nat)=>k≤(cellsOf l).length) (fun(k:Nat)=>[kV 1 (V.b (.a (.slv ds.length 3 (dsl ds)))),kS 5 8 0 ((((cellsOf l).take k).filter (fun c=> !(ds.any (cvr c)))).length),kS 6 10 0 ((cellsOf l).length),kI 7 ((k:Nat):Int),kO 8 67 2 true (pl (csl (((cellsOf l).take k).filter (fun c=> !(ds.any (cvr c)))))),kO 10 67 2 true (pl (csl (cellsOf l))),kF 2,kF 13,kF 22,kF 29,kF 30]) (fun(k:Nat)=>(cellsOf l).length-k) ((0:Nat)) (by exact(Nat.zero_le _:0≤_)) (wkf id (wS<|wE (e:=(vsl (by rfl) rfl))<|wS<|wE (e:=(aO (by rfl)))<|wO (e:=aG (fun h=>h) (congrArg csl (by rfl)))<|wP<|wF<|wF<|wF<|wF<|wF<|wN)) ?_
 rintro k inv1
 replace inv1:k≤(cellsOf l).length:=inv1
 have inv:=inv1
 have hlt:=rO (fun c=> !(ds.any (cvr c))) (cellsOf l) k
 have h64:=lq l
 refine sq (sq (rg (zm (zm ?_))))
 refine z ?_ (h:=fun Z=>lnS Z jr)
 refine z ?_ (h:=fun Z=>ab Z vt vt (bP rfl))
 refine nl ?_
 refine wi (fun c2=> ?_) (fun c2=> ?_)
 ·skip
  have c2P:=of_decide_eq_true c2
  refine sk (sq (bkk (sq (rg (zm (zm (zm ?_)))))))
  refine z ?_ (h:=fun Z=>ix0 Z jr vD vt (hlt:=(by omega)))
  refine z ?_ (h:=fun Z=>lC Z bj (by omega))
  refine z ?_ (h:=fun Z=>ah Z (mo ds (gC (cellsOf l) k) (by omega)) (ac (ArgV.slv _ _ _ _) (ac (ArgV.va va) an)) rv)
  refine z ?_ (h:=fun Z=>ab Z vt vc (bP rfl))
  refine nl ?_
  refine wi (fun c3=> ?_) (fun c3=> ?_)
  ·skip
   have c3P:=of_decide_eq_true c3
   refine rg (zm (zm (zm ?_)))
   refine z ?_ (h:=fun Z=>ix0 Z jr vD vt (hlt:=(by omega)))
   refine z ?_ (h:=fun Z=>lC Z bj (by omega))
   refine z ?_ (h:=fun Z=>aR (h:=29) (xs:=csl ([(gC (cellsOf l) k)]:List Cel)) Z jr dJ (.cons va OpVs.nil) (by decide) (by decide) (by kernel_rfl) rfl)
   refine z ?_ (h:=fun Z=>aC_ (h2:=30) (L3:=((((cellsOf l).take k).filter (fun c=> !(ds.any (cvr c))))++[(gC (cellsOf l) k)])) Z jr dJ (by exact rfl) rfl (by exact rfl) (by(simp;omega)))
   refine za (nl (rg (zm ?_)))
   refine z ?_ (h:=fun Z=>ab Z vt vc (rA (by omega) (by omega)))
   refine za (nl ?_)
   exact ar ((k+1)) (by show _≤_;omega) (by show(cellsOf l).length-(k+1)<(cellsOf l).length-k;omega) (wkf (bn [(8,30)]) (wS<|wE (e:=(vsl (by(exact congrArg List.length (by first |rfl |exact je (p:=(fun c=> !(ds.any (cvr c)))) (by omega) (Gl (by assumption)) |exact kL (p:=(fun c=> !(ds.any (cvr c)))) (by omega) (Gk (by assumption)) |omega))) rfl))<|wS<|wE (e:=(aO (by rfl)))<|wO (e:=aG (fun h=>h) (congrArg csl (by exact je (p:=(fun c=> !(ds.any (cvr c)))) (by omega) (Gl (by assumption)))))<|wP<|wF<|wF<|wF<|wF<|wF<|wN))
  ·skip
   have c3P:=of_decide_eq_false c3
   refine sk (rg (zm ?_))
   refine z ?_ (h:=fun Z=>ab Z vt vc (rA (by omega) (by omega)))
   refine za (nl ?_)
   exact ar ((k+1)) (by show _≤_;omega) (by show(cellsOf l).length-(k+1)<(cellsOf l).length-k;omega) (wkf id (wS<|wE (e:=(vsl (by(exact congrArg List.length (by first |rfl |exact je (p:=(fun c=> !(ds.any (cvr c)))) (by omega) (Gl (by assumption)) |exact kL (p:=(fun c=> !(ds.any (cvr c)))) (by omega) (Gk (by assumption)) |omega))) rfl))<|wS<|wE (e:=(aO (by rfl)))<|wO (e:=aG (fun h=>h) (congrArg csl (by exact kL (p:=(fun c=> !(ds.any (cvr c)))) (by omega) (Gk (by assumption)))))<|wP<|wF<|wF<|wF<|wF<|wF<|wN))
 ·skip
  have c2P:=of_decide_eq_false c2
  refine aJ (sq (rg (zm (za (nl (aq ?_))))))
  exact VRes.tmp _ _ _ (by exact rfl) (it (h:=8) (L:=(((cellsOf l).take k).filter (fun c=> !(ds.any (cvr c))))) (by kernel_rfl) (by unfold unc;rw[List.take_of_length_le (by omega)]) (by rfl))
end Cl
end Go.Proofs.YtonlghbbdcddoaaGreat
