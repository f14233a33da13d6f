/- Walks. -/
import Derived.Test.YtonlghbbdcddoaaGreatLt
import Derived.Test.YtonlghbbdcddoaaGreatF1
import Derived.Test.YtonlghbbdcddoaaGreatP15
import Derived.Test.YtonlghbbdcddoaaGreatClB
set_option maxHeartbeats 4000000
set_option maxRecDepth 100000
namespace Go.Proofs.YtonlghbbdcddoaaGreat
namespace Cl
open Go.ChangeShapes Go.WideShapes Go.ChangeAt Go.RowKit
structure OR (R:List Int) (P Q:List Dom):Prop where
 mf:tN false R P Q=true
 mt:tN true R P Q=true
 en:fz R=true
 fd:gJ R P Q=fdR R P Q
 nn:0≤gJ R P Q
 tx:ct R (dq false R P Q)=true
 ty:ct R (dq true R P Q)=true
 b1:kj R (dq false R P Q) P=true
 b2:kj R (dq false R P Q) Q=true
 b3:kj R P (dq true R P Q)=true
 b4:kj R Q (dq true R P Q)=true
 b5:kj R (dc R false) P=true
 b6:kj R Q (dc R true)=true
 st:gJ R P Q=gJ R (dq false R P Q) (dq true R P Q)
 eq:kj R P Q=decide (dq false R P Q=P)
 le:gJ R P Q≤gJ R (dc R false) (dc R true)
theorem OR.of {R:List Int} {P Q:List Dom} (hs:cu R=true) (hP:P∈ltR R) (hQ:Q∈ltR R):OR R P Q:=by
 have hp:0<(ltR R).length:=List.length_pos_of_mem hP
 have tP:=(mQ hP).2
 have tQ:=(mQ hQ).2
 obtain⟨ho,_,hh,_⟩:=dD hs
 obtain⟨a1,a2,_⟩:=oS hs tP tQ false
 obtain⟨a3,a4,_⟩:=oS hs tP tQ true
 obtain⟨c1,c2,c3,c4,c5,c6,c7,c8,c9,c10⟩:=KB hs hp tP tQ
 exact⟨a1,a3,(yo hs hp false).1,by rw[xY hs tP tQ,MF ho hh hP hQ],c10,bO ho a2,bO ho a4,c1,c2,c3,c4,c5,c6,c7,c8,c9⟩
theorem Aw (c:Bool) (l:List Int) (a b:List Dom):(dq c l a b).length≤128:=by
 unfold dq;split
 ·exact IU _ _
 ·simp
theorem bS:TI Tryz.prog 26 true 1:=⟨⟨_,Tryz.underlying26,rfl⟩,by kernel_rfl⟩
theorem xM:Tryz.prog.underlying 4=some .bool:=Tryz.underlying4
theorem CB:ZI Tryz.prog 26 (.agg #[.slice none 0 0]) 1 24:=by unfold ZI;kernel_rfl
theorem tM (b:List Nat) (R:List Int) (cz:Cu) (P Q:List Dom) (hbb:b.length≤9223372036854775807) (hy:∀ x∈b,x<256) (hR:(r13 b 8 (cu0 b)).1=R) (hz:(r13 b 8 (cu0 b)).2=cz) (hP:(gLd (ltR R) (cuX b cz (ltR R).length))=P) (hQ:(gLd (ltR R) (cuX b (cuN b cz (ltR R).length) (ltR R).length))=Q):Fn Tryz.prog 3 [.a (.slv b.length 1 (ysl b))] [.val (.bool true)]:=by
 obtain⟨hT,hsi⟩:=Hy hR
 have h8:=(fD hT.ok).1
 have hlen:=hT.len
 have hpos:=hT.pos
 have hxa:cuX b cz (ltR R).length<(ltR R).length:=lN (by omega)
 have hxb:cuX b (cuN b cz (ltR R).length) (ltR R).length<(ltR R).length:=lN (by omega)
 have hPm:P∈ltR R:=by rw[←hP,ee hxa];exact List.getElem_mem hxa
 have hQm:Q∈ltR R:=by rw[←hQ,ee hxb];exact List.getElem_mem hxb
 have hO:=OR.of hsi hPm hQm
 have hPl:P.length≤33:=hP▸hT.row _ hxa
 have hQl:Q.length≤33:=hQ▸hT.row _ hxb
 have hXl:=Aw false R P Q
 have hYl:=Aw true R P Q
 have hLl:=zQ R false
 have hHl:=zQ R true
 have hk1:decide (gJ R P Q<0)=false:=decide_eq_false (by have:=hO.nn;omega)
 have hk2:decide (gJ R P Q≠fdR R P Q)=false:=decide_eq_false (fun h=>h hO.fd)
 have hk3:=decide_eq_true hO.st
 have hk4:=decide_eq_true hO.le
 refine aN (N:=147) Tryz.func3 rfl (by kernel_rfl) rfl (Nat.le_of_ble_eq_true rfl) [3,16,19,27,34,39,44,50,74,79,83,89,95,101,107,113,119,126,133,136,144] (dB rfl) (fun W=> ?_)
 show Wp _ _ _ [kV 0 (V.b (.a (.slv b.length 1 (ysl b)))),kF 3,kF 16,kF 19,kF 27,kF 34,kF 39,kF 44,kF 50,kF 74,kF 79,kF 83,kF 89,kF 95,kF 101,kF 107,kF 113,kF 119,kF 126,kF 133,kF 136,kF 144]
 refine sq (rg (zk (nl (sq (sq (rg (zm ?_)))))))
 refine z ?_ (h:=fun Z=>ah Z (Ap b ) (ac (ArgV.slv _ _ _ _) an) rv)
 refine nl ?_
 refine wi (b:=(decide (1048576<((b.length:Nat):Int)))) (fun c1=> ?_) (fun c1=> ?_)
 ·skip
  refine sq (rg (zk (nl (aq ?_))))
  exact VRes.tmp _ _ _ (by exact rfl) (BRes.val _)
 ·skip
  have hb:b.length≤1048576:=by have:=of_decide_eq_false c1;omega
  refine sk (sq (rg (zm ?_)))
  refine z ?_ (h:=fun Z=>bo (d:=19) (f:=5) (os:=[]) (os':=[(.o 3,some (.o ⟨3,1,true,pl (isl R)⟩))]) (r:=V.tup [.agg [(.sl 3 0 R.length:A)],.a (.slv P.length 3 (dsl P)),.a (.slv Q.length 3 (dsl Q))]) (bs:=[.a (.slv b.length 1 (ysl b))]) (keep:=[]) (new:=[3]) (dead:=[]) Z (FnO.ren' (wl b R cz P Q (by with_reducible assumption) (by with_reducible assumption) (by with_reducible assumption) (by with_reducible assumption) (by with_reducible assumption) (by with_reducible assumption)) (bn [(900,3)]) rfl rfl (by kernel_rfl) (by kernel_rfl) ⟨bB (fun _=>rfl),trivial⟩ (by kernel_rfl) rfl (by simp only[cH,Ob.ren,bM,aC,aD,aA,bt,bq];first |done |rfl) (by simp only[cH,Ob.ren,bM,aC,aD,aA,bt,bq];first |done |rfl) rfl rfl) (by kernel_rfl) ⟨bB (fun _=>rfl),trivial⟩ (by kernel_rfl) (ArgOs.cons (ArgO.slot 18 (.a (.slv b.length 1 (ysl b)))) (ArgOs.nil)))
  refine zm ?_
  refine z ?_ (h:=fun Z=>az Z (by exact rfl))
  refine z ?_ (h:=fun Z=>az Z (by exact rfl))
  refine z ?_ (h:=fun Z=>az Z (by exact rfl))
  refine z ?_ (h:=fun Z=>aF (h:=16) (cap:=1) (s:=1) (cells:=[(.val (.slice none 0 0):A)]) Z CB rfl rfl (by decide))
  refine z ?_ (h:=fun _=>aw (cells:=[(.sl 3 0 R.length:A)]) bS xt (by exact rfl) (by decide) (by exact ob1 rfl) (by exact Nat.le_of_ble_eq_true rfl) (by exact rfl))
  refine za (za (nl (sq (rg ?_))))
  refine z ?_ (h:=fun Z=>aa (xs:=[(.sl 3 0 R.length:A)]) Z bS rfl (by decide) rfl)
  refine zm (zm ?_)
  refine z ?_ (h:=fun Z=>cS Z (tI R P Q (by omega) (by omega) (by omega)) (ac (ArgV.reg _ _ _ (s:=1) (by simp [isl]) (by exact List.take_of_length_le (by simp [isl]))) (ac (ArgV.slv _ _ _ _) (ac (ArgV.slv _ _ _ _) an))) (ResV.row _ _ _ _ 27) (aH (congrArg Value.bool hO.mf)))
  refine zm ?_
  refine z ?_ (h:=fun Z=>az Z (by exact rfl))
  refine z ?_ (h:=fun Z=>az Z (by exact rfl))
  refine za (za (nl (sq (rg ?_))))
  refine z ?_ (h:=fun Z=>aa (xs:=[(.sl 3 0 R.length:A)]) Z bS rfl (by decide) rfl)
  refine zm (zm ?_)
  refine z ?_ (h:=fun Z=>cS Z (sb R P Q (by omega) (by omega) (by omega)) (ac (ArgV.reg _ _ _ (s:=1) (by simp [isl]) (by exact List.take_of_length_le (by simp [isl]))) (ac (ArgV.slv _ _ _ _) (ac (ArgV.slv _ _ _ _) an))) (ResV.row _ _ _ _ 34) (aH (congrArg Value.bool hO.mt)))
  refine zm ?_
  refine z ?_ (h:=fun Z=>az Z (by exact rfl))
  refine z ?_ (h:=fun Z=>az Z (by exact rfl))
  refine za (za (nl (sq (rg ?_))))
  refine z ?_ (h:=fun Z=>aa (xs:=[(.sl 3 0 R.length:A)]) Z bS rfl (by decide) rfl)
  refine z ?_ (h:=fun Z=>bo (d:=39) (f:=8) (os:=[(.o 3,some (.o ⟨3,1,true,pl (isl R)⟩))]) (os':=[(.o 3,some (.o ⟨3,1,true,pl (isl R)⟩)),(.o 19,some (.o ⟨54,3,true,pl (dsl (dc R false))⟩))]) (r:=V.tup [.a (.sl 19 0 ((dc R false).length)),.a (.val (.bool (fz R)))]) (bs:=[.agg [(.sl 3 0 R.length:A)]]) (keep:=[3]) (new:=[19]) (dead:=[]) Z (FnO.ren' (nW R (by omega)) (bn [(800,3),(900,19)]) rfl rfl (by kernel_rfl) (by kernel_rfl) ⟨bB (fun _=>rfl),bB (fun _=>rfl),trivial⟩ (by kernel_rfl) rfl (by simp only[cH,Ob.ren,bM,aC,aD,aA,bt,bq];first |done |rfl) (by simp only[cH,Ob.ren,bM,aC,aD,aA,bt,bq];first |done |rfl) rfl rfl) (by kernel_rfl) ⟨bB (fun _=>rfl),bB (fun _=>rfl),trivial⟩ (by kernel_rfl) (ArgOs.cons (ArgO.slot 38 (.agg [(.sl 3 0 R.length:A)])) (ArgOs.nil)))
  refine zm ?_
  refine z ?_ (h:=fun Z=>az Z (by exact rfl))
  refine z ?_ (h:=fun Z=>az Z (by exact rfl))
  refine za (za (nl (sq (rg ?_))))
  refine z ?_ (h:=fun Z=>aa (xs:=[(.sl 3 0 R.length:A)]) Z bS rfl (by decide) rfl)
  refine z ?_ (h:=fun Z=>bo (d:=44) (f:=9) (os:=[(.o 3,some (.o ⟨3,1,true,pl (isl R)⟩))]) (os':=[(.o 3,some (.o ⟨3,1,true,pl (isl R)⟩)),(.o 39,some (.o ⟨54,3,true,pl (dsl (dc R true))⟩))]) (r:=V.tup [.a (.sl 39 0 ((dc R true).length)),.a (.val (.bool (fz R)))]) (bs:=[.agg [(.sl 3 0 R.length:A)]]) (keep:=[3]) (new:=[39]) (dead:=[]) Z (FnO.ren' (nz R (by omega)) (bn [(800,3),(900,39)]) rfl rfl (by kernel_rfl) (by kernel_rfl) ⟨bB (fun _=>rfl),bB (fun _=>rfl),trivial⟩ (by kernel_rfl) rfl (by simp only[cH,Ob.ren,bM,aC,aD,aA,bt,bq];first |done |rfl) (by simp only[cH,Ob.ren,bM,aC,aD,aA,bt,bq];first |done |rfl) rfl rfl) (by kernel_rfl) ⟨bB (fun _=>rfl),bB (fun _=>rfl),trivial⟩ (by kernel_rfl) (ArgOs.cons (ArgO.slot 43 (.agg [(.sl 3 0 R.length:A)])) (ArgOs.nil)))
  refine zm ?_
  refine z ?_ (h:=fun Z=>az Z (by exact rfl))
  refine z ?_ (h:=fun Z=>az Z (by exact rfl))
  refine za (za (nl (sq (rg ?_))))
  refine z ?_ (h:=fun Z=>aa (xs:=[(.sl 3 0 R.length:A)]) Z bS rfl (by decide) rfl)
  refine zm (zm ?_)
  refine z ?_ (h:=fun Z=>ah Z (eS R P Q (by omega) (by omega) (by omega)) (ac (ArgV.reg _ _ _ (s:=1) (by simp [isl]) (by exact List.take_of_length_le (by simp [isl]))) (ac (ArgV.slv _ _ _ _) (ac (ArgV.slv _ _ _ _) an))) rv)
  refine za (nl (sq (sq ?_)))
  rcases Bool.eq_false_or_eq_true ((fz R))with c2 |c2
  ·skip
   rw[c2]
   refine rg (zm ?_)
   refine z ?_ (h:=fun Z=>aK Z vt (bE (c:=false) rfl))
   refine zm ?_
   refine zg ?_ (h:=fun Z=>ae rfl rfl (mt Z))
   refine zg ?_ (h:=fun Z=>ae rfl rfl (aK Z vt (bE (c:=false) rfl)))
   refine z ?_ (h:=fun Z=>ao Z vt xt)
   refine zm ?_
   refine zg ?_ (h:=fun Z=>ae rfl rfl (mt Z))
   refine zg ?_ (h:=fun Z=>ae rfl rfl (aK Z vt (bE (c:=false) rfl)))
   refine z ?_ (h:=fun Z=>ao Z vt xt)
   refine zm ?_
   refine zg ?_ (h:=fun Z=>ae rfl rfl (mt Z))
   refine zg ?_ (h:=fun Z=>ae rfl rfl (aK Z vt (bE (c:=false) rfl)))
   refine z ?_ (h:=fun Z=>ao Z vt xt)
   refine zm ?_
   refine zg ?_ (h:=fun Z=>ae rfl rfl (mt Z))
   refine zg ?_ (h:=fun Z=>ae rfl rfl (ab Z vt vc (bP (c:=false) hk1)))
   refine z ?_ (h:=fun Z=>ao Z vt xt)
   refine zm ?_
   refine zg ?_ (h:=fun Z=>ae rfl rfl (mt Z))
   refine zg ?_ (h:=fun Z=>ae rfl rfl (aa (xs:=[(.sl 3 0 R.length:A)]) Z bS rfl (by decide) rfl))
   refine zg ?_ (h:=fun Z=>ae rfl rfl (mt Z))
   refine zg ?_ (h:=fun Z=>ae rfl rfl (mt Z))
   refine zg ?_ (h:=fun Z=>ae rfl rfl (bo (d:=74) (f:=11) (os:=[(.o 3,some (.o ⟨3,1,true,pl (isl R)⟩))]) (os':=[(.o 3,some (.o ⟨3,1,true,pl (isl R)⟩))]) (r:=V.v (.int .i64 (fdR R P Q))) (bs:=[.agg [(.sl 3 0 R.length:A)],.a (.slv P.length 3 (dsl P)),.a (.slv Q.length 3 (dsl Q))]) (keep:=[3]) (new:=[]) (dead:=[]) Z (FnO.ren' (pE R P Q (by omega) (by omega) (by omega)) (bn [(800,3)]) rfl rfl (by kernel_rfl) (by kernel_rfl) ⟨bB (fun _=>rfl),trivial⟩ (by kernel_rfl) rfl (by simp only[cH,Ob.ren,bM,aC,aD,aA,bt,bq];first |done |rfl) (by simp only[cH,Ob.ren,bM,aC,aD,aA,bt,bq];first |done |rfl) rfl rfl) (by kernel_rfl) ⟨bB (fun _=>rfl),trivial⟩ (by kernel_rfl) (ArgOs.cons (ArgO.slot 71 (.agg [(.sl 3 0 R.length:A)])) (ArgOs.cons (ArgO.slot 72 (.a (.slv P.length 3 (dsl P)))) (ArgOs.cons (ArgO.slot 73 (.a (.slv Q.length 3 (dsl Q)))) (ArgOs.nil))))))
   refine zg ?_ (h:=fun Z=>ae rfl rfl (ab Z vt vt (iZ (c:=false) hk2)))
   refine z ?_ (h:=fun Z=>ao Z vt xt)
   refine nl (wf (sk (sq ?_)))
   rcases Bool.eq_false_or_eq_true (decide ((kj R P Q)=(decide ((dq false R P Q)=P))))with c3 |c3
   ·skip
    have c3P:=of_decide_eq_true c3
    refine rg ?_
    refine z ?_ (h:=fun Z=>aa (xs:=[(.sl 3 0 R.length:A)]) Z bS rfl (by decide) rfl)
    refine zm ?_
    refine z ?_ (h:=fun Z=>ah Z (gF R (dq false R P Q) (by omega) (by omega)) (ac (ArgV.reg _ _ _ (s:=1) (by simp [isl]) (by exact List.take_of_length_le (by simp [isl]))) (ac (bR (by exact bQ _)) an)) (aH (congrArg Value.bool hO.tx)))
    refine zm ?_
    refine zg ?_ (h:=fun Z=>ae rfl rfl (aa (xs:=[(.sl 3 0 R.length:A)]) Z bS rfl (by decide) rfl))
    refine zg ?_ (h:=fun Z=>ae rfl rfl (mt Z))
    refine zg ?_ (h:=fun Z=>ae rfl rfl (ah Z (gF R (dq true R P Q) (by omega) (by omega)) (ac (ArgV.reg _ _ _ (s:=1) (by simp [isl]) (by exact List.take_of_length_le (by simp [isl]))) (ac (bR (by exact bQ _)) an)) (aH (congrArg Value.bool hO.ty))))
    refine z ?_ (h:=fun Z=>al Z vt xt)
    refine zm ?_
    refine zg ?_ (h:=fun Z=>ae rfl rfl (aa (xs:=[(.sl 3 0 R.length:A)]) Z bS rfl (by decide) rfl))
    refine zg ?_ (h:=fun Z=>ae rfl rfl (mt Z))
    refine zg ?_ (h:=fun Z=>ae rfl rfl (mt Z))
    refine zg ?_ (h:=fun Z=>ae rfl rfl (ah Z (ci R (dq false R P Q) P (by omega) (by omega) (by omega)) (ac (ArgV.reg _ _ _ (s:=1) (by simp [isl]) (by exact List.take_of_length_le (by simp [isl]))) (ac (bR (by exact bQ _)) (ac (ArgV.slv _ _ _ _) an))) (aH (congrArg Value.bool hO.b1))))
    refine z ?_ (h:=fun Z=>al Z vt xt)
    refine zm ?_
    refine zg ?_ (h:=fun Z=>ae rfl rfl (aa (xs:=[(.sl 3 0 R.length:A)]) Z bS rfl (by decide) rfl))
    refine zg ?_ (h:=fun Z=>ae rfl rfl (mt Z))
    refine zg ?_ (h:=fun Z=>ae rfl rfl (mt Z))
    refine zg ?_ (h:=fun Z=>ae rfl rfl (ah Z (ci R (dq false R P Q) Q (by omega) (by omega) (by omega)) (ac (ArgV.reg _ _ _ (s:=1) (by simp [isl]) (by exact List.take_of_length_le (by simp [isl]))) (ac (bR (by exact bQ _)) (ac (ArgV.slv _ _ _ _) an))) (aH (congrArg Value.bool hO.b2))))
    refine z ?_ (h:=fun Z=>al Z vt xt)
    refine zm ?_
    refine zg ?_ (h:=fun Z=>ae rfl rfl (aa (xs:=[(.sl 3 0 R.length:A)]) Z bS rfl (by decide) rfl))
    refine zg ?_ (h:=fun Z=>ae rfl rfl (mt Z))
    refine zg ?_ (h:=fun Z=>ae rfl rfl (mt Z))
    refine zg ?_ (h:=fun Z=>ae rfl rfl (ah Z (ci R P (dq true R P Q) (by omega) (by omega) (by omega)) (ac (ArgV.reg _ _ _ (s:=1) (by simp [isl]) (by exact List.take_of_length_le (by simp [isl]))) (ac (ArgV.slv _ _ _ _) (ac (bR (by exact bQ _)) an))) (aH (congrArg Value.bool hO.b3))))
    refine z ?_ (h:=fun Z=>al Z vt xt)
    refine zm ?_
    refine zg ?_ (h:=fun Z=>ae rfl rfl (aa (xs:=[(.sl 3 0 R.length:A)]) Z bS rfl (by decide) rfl))
    refine zg ?_ (h:=fun Z=>ae rfl rfl (mt Z))
    refine zg ?_ (h:=fun Z=>ae rfl rfl (mt Z))
    refine zg ?_ (h:=fun Z=>ae rfl rfl (ah Z (ci R Q (dq true R P Q) (by omega) (by omega) (by omega)) (ac (ArgV.reg _ _ _ (s:=1) (by simp [isl]) (by exact List.take_of_length_le (by simp [isl]))) (ac (ArgV.slv _ _ _ _) (ac (bR (by exact bQ _)) an))) (aH (congrArg Value.bool hO.b4))))
    refine z ?_ (h:=fun Z=>al Z vt xt)
    refine zm ?_
    refine zg ?_ (h:=fun Z=>ae rfl rfl (aa (xs:=[(.sl 3 0 R.length:A)]) Z bS rfl (by decide) rfl))
    refine zg ?_ (h:=fun Z=>ae rfl rfl (mt Z))
    refine zg ?_ (h:=fun Z=>ae rfl rfl (mt Z))
    refine zg ?_ (h:=fun Z=>ae rfl rfl (ah Z (ci R (dc R false) P (by omega) (by omega) (by omega)) (ac (ArgV.reg _ _ _ (s:=1) (by simp [isl]) (by exact List.take_of_length_le (by simp [isl]))) (ac (bR (by exact bQ _)) (ac (ArgV.slv _ _ _ _) an))) (aH (congrArg Value.bool hO.b5))))
    refine z ?_ (h:=fun Z=>al Z vt xt)
    refine zm ?_
    refine zg ?_ (h:=fun Z=>ae rfl rfl (aa (xs:=[(.sl 3 0 R.length:A)]) Z bS rfl (by decide) rfl))
    refine zg ?_ (h:=fun Z=>ae rfl rfl (mt Z))
    refine zg ?_ (h:=fun Z=>ae rfl rfl (mt Z))
    refine zg ?_ (h:=fun Z=>ae rfl rfl (ah Z (ci R Q (dc R true) (by omega) (by omega) (by omega)) (ac (ArgV.reg _ _ _ (s:=1) (by simp [isl]) (by exact List.take_of_length_le (by simp [isl]))) (ac (ArgV.slv _ _ _ _) (ac (bR (by exact bQ _)) an))) (aH (congrArg Value.bool hO.b6))))
    refine z ?_ (h:=fun Z=>al Z vt xt)
    refine zm ?_
    refine zg ?_ (h:=fun Z=>ae rfl rfl (mt Z))
    refine zg ?_ (h:=fun Z=>ae rfl rfl (aa (xs:=[(.sl 3 0 R.length:A)]) Z bS rfl (by decide) rfl))
    refine zg ?_ (h:=fun Z=>ae rfl rfl (mt Z))
    refine zg ?_ (h:=fun Z=>ae rfl rfl (mt Z))
    refine zg ?_ (h:=fun Z=>ae rfl rfl (ah Z (eS R (dq false R P Q) (dq true R P Q) (by omega) (by omega) (by omega)) (ac (ArgV.reg _ _ _ (s:=1) (by simp [isl]) (by exact List.take_of_length_le (by simp [isl]))) (ac (bR (by exact bQ _)) (ac (bR (by exact bQ _)) an))) rv))
    refine zg ?_ (h:=fun Z=>ae rfl rfl (ab Z vt vt (cW (c:=true) hk3)))
    refine z ?_ (h:=fun Z=>al Z vt xt)
    refine zm ?_
    refine zg ?_ (h:=fun Z=>ae rfl rfl (aa (xs:=[(.sl 3 0 R.length:A)]) Z bS rfl (by decide) rfl))
    refine zg ?_ (h:=fun Z=>ae rfl rfl (mt Z))
    refine zg ?_ (h:=fun Z=>ae rfl rfl (mt Z))
    refine zg ?_ (h:=fun Z=>ae rfl rfl (ah Z (ci R P Q (by omega) (by omega) (by omega)) (ac (ArgV.reg _ _ _ (s:=1) (by simp [isl]) (by exact List.take_of_length_le (by simp [isl]))) (ac (ArgV.slv _ _ _ _) (ac (ArgV.slv _ _ _ _) an))) rv))
    refine zg ?_ (h:=fun Z=>ae rfl rfl (mt Z))
    refine zg ?_ (h:=fun Z=>ae rfl rfl (mt Z))
    refine zg ?_ (h:=fun Z=>ae rfl rfl (ah Z (eZ (dq false R P Q) P (by omega) (by omega)) (ac (bR (by exact bQ _)) (ac (ArgV.slv _ _ _ _) an)) rv))
    refine zg ?_ (h:=fun Z=>ae rfl rfl (ab Z vt vt (ke (c:=true) xM c3)))
    refine z ?_ (h:=fun Z=>al Z vt xt)
    refine zm ?_
    refine zg ?_ (h:=fun Z=>ae rfl rfl (mt Z))
    refine zg ?_ (h:=fun Z=>ae rfl rfl (aa (xs:=[(.sl 3 0 R.length:A)]) Z bS rfl (by decide) rfl))
    refine zg ?_ (h:=fun Z=>ae rfl rfl (mt Z))
    refine zg ?_ (h:=fun Z=>ae rfl rfl (mt Z))
    refine zg ?_ (h:=fun Z=>ae rfl rfl (ah Z (eS R (dc R false) (dc R true) (by omega) (by omega) (by omega)) (ac (ArgV.reg _ _ _ (s:=1) (by simp [isl]) (by exact List.take_of_length_le (by simp [isl]))) (ac (bR (by exact bQ _)) (ac (bR (by exact bQ _)) an))) rv))
    refine zg ?_ (h:=fun Z=>ae rfl rfl (ab Z vt vt (pM (c:=true) hk4)))
    refine z ?_ (h:=fun Z=>al Z vt xt)
    refine za (nl (aq ?_))
    exact VRes.tmp _ _ _ (by exact rfl) (BRes.val _)
   ·skip
    have c3P:=of_decide_eq_false c3
    refine rg ?_
    refine z ?_ (h:=fun Z=>aa (xs:=[(.sl 3 0 R.length:A)]) Z bS rfl (by decide) rfl)
    refine zm ?_
    refine z ?_ (h:=fun Z=>ah Z (gF R (dq false R P Q) (by omega) (by omega)) (ac (ArgV.reg _ _ _ (s:=1) (by simp [isl]) (by exact List.take_of_length_le (by simp [isl]))) (ac (bR (by exact bQ _)) an)) (aH (congrArg Value.bool hO.tx)))
    refine zm ?_
    refine zg ?_ (h:=fun Z=>ae rfl rfl (aa (xs:=[(.sl 3 0 R.length:A)]) Z bS rfl (by decide) rfl))
    refine zg ?_ (h:=fun Z=>ae rfl rfl (mt Z))
    refine zg ?_ (h:=fun Z=>ae rfl rfl (ah Z (gF R (dq true R P Q) (by omega) (by omega)) (ac (ArgV.reg _ _ _ (s:=1) (by simp [isl]) (by exact List.take_of_length_le (by simp [isl]))) (ac (bR (by exact bQ _)) an)) (aH (congrArg Value.bool hO.ty))))
    refine z ?_ (h:=fun Z=>al Z vt xt)
    refine zm ?_
    refine zg ?_ (h:=fun Z=>ae rfl rfl (aa (xs:=[(.sl 3 0 R.length:A)]) Z bS rfl (by decide) rfl))
    refine zg ?_ (h:=fun Z=>ae rfl rfl (mt Z))
    refine zg ?_ (h:=fun Z=>ae rfl rfl (mt Z))
    refine zg ?_ (h:=fun Z=>ae rfl rfl (ah Z (ci R (dq false R P Q) P (by omega) (by omega) (by omega)) (ac (ArgV.reg _ _ _ (s:=1) (by simp [isl]) (by exact List.take_of_length_le (by simp [isl]))) (ac (bR (by exact bQ _)) (ac (ArgV.slv _ _ _ _) an))) (aH (congrArg Value.bool hO.b1))))
    refine z ?_ (h:=fun Z=>al Z vt xt)
    refine zm ?_
    refine zg ?_ (h:=fun Z=>ae rfl rfl (aa (xs:=[(.sl 3 0 R.length:A)]) Z bS rfl (by decide) rfl))
    refine zg ?_ (h:=fun Z=>ae rfl rfl (mt Z))
    refine zg ?_ (h:=fun Z=>ae rfl rfl (mt Z))
    refine zg ?_ (h:=fun Z=>ae rfl rfl (ah Z (ci R (dq false R P Q) Q (by omega) (by omega) (by omega)) (ac (ArgV.reg _ _ _ (s:=1) (by simp [isl]) (by exact List.take_of_length_le (by simp [isl]))) (ac (bR (by exact bQ _)) (ac (ArgV.slv _ _ _ _) an))) (aH (congrArg Value.bool hO.b2))))
    refine z ?_ (h:=fun Z=>al Z vt xt)
    refine zm ?_
    refine zg ?_ (h:=fun Z=>ae rfl rfl (aa (xs:=[(.sl 3 0 R.length:A)]) Z bS rfl (by decide) rfl))
    refine zg ?_ (h:=fun Z=>ae rfl rfl (mt Z))
    refine zg ?_ (h:=fun Z=>ae rfl rfl (mt Z))
    refine zg ?_ (h:=fun Z=>ae rfl rfl (ah Z (ci R P (dq true R P Q) (by omega) (by omega) (by omega)) (ac (ArgV.reg _ _ _ (s:=1) (by simp [isl]) (by exact List.take_of_length_le (by simp [isl]))) (ac (ArgV.slv _ _ _ _) (ac (bR (by exact bQ _)) an))) (aH (congrArg Value.bool hO.b3))))
    refine z ?_ (h:=fun Z=>al Z vt xt)
    refine zm ?_
    refine zg ?_ (h:=fun Z=>ae rfl rfl (aa (xs:=[(.sl 3 0 R.length:A)]) Z bS rfl (by decide) rfl))
    refine zg ?_ (h:=fun Z=>ae rfl rfl (mt Z))
    refine zg ?_ (h:=fun Z=>ae rfl rfl (mt Z))
    refine zg ?_ (h:=fun Z=>ae rfl rfl (ah Z (ci R Q (dq true R P Q) (by omega) (by omega) (by omega)) (ac (ArgV.reg _ _ _ (s:=1) (by simp [isl]) (by exact List.take_of_length_le (by simp [isl]))) (ac (ArgV.slv _ _ _ _) (ac (bR (by exact bQ _)) an))) (aH (congrArg Value.bool hO.b4))))
    refine z ?_ (h:=fun Z=>al Z vt xt)
    refine zm ?_
    refine zg ?_ (h:=fun Z=>ae rfl rfl (aa (xs:=[(.sl 3 0 R.length:A)]) Z bS rfl (by decide) rfl))
    refine zg ?_ (h:=fun Z=>ae rfl rfl (mt Z))
    refine zg ?_ (h:=fun Z=>ae rfl rfl (mt Z))
    refine zg ?_ (h:=fun Z=>ae rfl rfl (ah Z (ci R (dc R false) P (by omega) (by omega) (by omega)) (ac (ArgV.reg _ _ _ (s:=1) (by simp [isl]) (by exact List.take_of_length_le (by simp [isl]))) (ac (bR (by exact bQ _)) (ac (ArgV.slv _ _ _ _) an))) (aH (congrArg Value.bool hO.b5))))
    refine z ?_ (h:=fun Z=>al Z vt xt)
    refine zm ?_
    refine zg ?_ (h:=fun Z=>ae rfl rfl (aa (xs:=[(.sl 3 0 R.length:A)]) Z bS rfl (by decide) rfl))
    refine zg ?_ (h:=fun Z=>ae rfl rfl (mt Z))
    refine zg ?_ (h:=fun Z=>ae rfl rfl (mt Z))
    refine zg ?_ (h:=fun Z=>ae rfl rfl (ah Z (ci R Q (dc R true) (by omega) (by omega) (by omega)) (ac (ArgV.reg _ _ _ (s:=1) (by simp [isl]) (by exact List.take_of_length_le (by simp [isl]))) (ac (ArgV.slv _ _ _ _) (ac (bR (by exact bQ _)) an))) (aH (congrArg Value.bool hO.b6))))
    refine z ?_ (h:=fun Z=>al Z vt xt)
    refine zm ?_
    refine zg ?_ (h:=fun Z=>ae rfl rfl (mt Z))
    refine zg ?_ (h:=fun Z=>ae rfl rfl (aa (xs:=[(.sl 3 0 R.length:A)]) Z bS rfl (by decide) rfl))
    refine zg ?_ (h:=fun Z=>ae rfl rfl (mt Z))
    refine zg ?_ (h:=fun Z=>ae rfl rfl (mt Z))
    refine zg ?_ (h:=fun Z=>ae rfl rfl (ah Z (eS R (dq false R P Q) (dq true R P Q) (by omega) (by omega) (by omega)) (ac (ArgV.reg _ _ _ (s:=1) (by simp [isl]) (by exact List.take_of_length_le (by simp [isl]))) (ac (bR (by exact bQ _)) (ac (bR (by exact bQ _)) an))) rv))
    refine zg ?_ (h:=fun Z=>ae rfl rfl (ab Z vt vt (cW (c:=true) hk3)))
    refine z ?_ (h:=fun Z=>al Z vt xt)
    refine zm ?_
    refine zg ?_ (h:=fun Z=>ae rfl rfl (aa (xs:=[(.sl 3 0 R.length:A)]) Z bS rfl (by decide) rfl))
    refine zg ?_ (h:=fun Z=>ae rfl rfl (mt Z))
    refine zg ?_ (h:=fun Z=>ae rfl rfl (mt Z))
    refine zg ?_ (h:=fun Z=>ae rfl rfl (ah Z (ci R P Q (by omega) (by omega) (by omega)) (ac (ArgV.reg _ _ _ (s:=1) (by simp [isl]) (by exact List.take_of_length_le (by simp [isl]))) (ac (ArgV.slv _ _ _ _) (ac (ArgV.slv _ _ _ _) an))) rv))
    refine zg ?_ (h:=fun Z=>ae rfl rfl (mt Z))
    refine zg ?_ (h:=fun Z=>ae rfl rfl (mt Z))
    refine zg ?_ (h:=fun Z=>ae rfl rfl (ah Z (eZ (dq false R P Q) P (by omega) (by omega)) (ac (bR (by exact bQ _)) (ac (ArgV.slv _ _ _ _) an)) rv))
    refine zg ?_ (h:=fun Z=>ae rfl rfl (ab Z vt vt (ke (c:=false) xM c3)))
    refine z ?_ (h:=fun Z=>al Z vt xt)
    refine zm (zo (zo (zo (zo (zo (zo ?_))))))
    refine z ?_ (h:=fun Z=>ao Z vt xc)
    refine za (nl (aq ?_))
    exact VRes.tmp _ _ _ (by exact rfl) (cc (congrArg Value.bool (by exact absurd hO.eq c3P)))
  ·skip
   rw[c2]
   refine rg (zm ?_)
   refine z ?_ (h:=fun Z=>aK Z vt (bE (c:=false) rfl))
   refine zm ?_
   refine zg ?_ (h:=fun Z=>ae rfl rfl (mt Z))
   refine zg ?_ (h:=fun Z=>ae rfl rfl (aK Z vt (bE (c:=false) rfl)))
   refine z ?_ (h:=fun Z=>ao Z vt xt)
   refine zm ?_
   refine zg ?_ (h:=fun Z=>ae rfl rfl (mt Z))
   refine zg ?_ (h:=fun Z=>ae rfl rfl (aK Z vt (bE (c:=true) rfl)))
   refine z ?_ (h:=fun Z=>ao Z vt xt)
   refine zm (zo (zo ?_))
   refine z ?_ (h:=fun Z=>al Z vt xc)
   refine zm (zo (zo ?_))
   refine z ?_ (h:=fun Z=>al Z vt xc)
   refine zm (zo (zo (zo (zo (zo (zo ?_))))))
   refine z ?_ (h:=fun Z=>al Z vt xc)
   refine nl (wt (sq (rg (zk (nl (aq ?_))))))
   exact VRes.tmp _ _ _ (by exact rfl) (cc (congrArg Value.bool (by exact absurd (hO.en.symm.trans c2) (by decide))))
end Cl
end Go.Proofs.YtonlghbbdcddoaaGreat
