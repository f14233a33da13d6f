/- Walks. -/
import Derived.Test.YtonlghbbdcddoaaGreatC30
import Derived.Test.YtonlghbbdcddoaaGreatClB
set_option maxHeartbeats 4000000
set_option maxRecDepth 100000
namespace Go.Proofs.YtonlghbbdcddoaaGreat
namespace Cl
open Go.ChangeShapes Go.WideShapes Go.ChangeAt Go.RowKit
noncomputable def okH (l:List Int) (ds:List Dom):Bool:=cu l&&ct l ds
theorem rZ (l:List Int) (ds:List Dom):((hts l ds).length=81∧okH l ds=true)∨((hts l ds).length=0∧okH l ds=false):=by
 unfold okH
 rcases Bool.eq_false_or_eq_true (cu l&&ct l ds)with h |h
 ·left;rw[fA h,cO];exact⟨rfl,h⟩
 ·right;rw[mI h];exact⟨rfl,h⟩
theorem kq {l:List Int} {ds:List Dom} (h:okH l ds=true):(hts l ds).length=81:=by
 rcases rZ l ds with h1 |h1
 ·exact h1.1
 ·rw[h]at h1;simp at h1
theorem yz {l:List Int} {ds:List Dom} (h:0<(hts l ds).length):okH l ds=true∧(hts l ds).length=81:=by
 rcases rZ l ds with h1 |h1
 ·exact⟨h1.2,h1.1⟩
 ·omega
theorem uh (l:List Int) (ds:List Dom):(hts l ds).length≤81:=by rcases rZ l ds with h1 |h1<;>omega
def leT (x y:List Int) (k:Nat):Bool:=(List.range k).all fun i=>decide (gI x i≤gI y i)
theorem Ht {x y:List Int} {k:Nat} (h:leT x y k=true) (h2:¬gI y k<gI x k):leT x y (k+1)=true:=by
 unfold leT at*;rw[List.range_succ,List.all_append,h];simp;omega
theorem MY {x y:List Int} {k n:Nat} (hk:k<n) (h:gI y k<gI x k):leT x y n=false:=by
 unfold leT;rw[List.all_eq_false]
 exact⟨k,by simpa using hk,by simp;omega⟩
noncomputable def kj (l:List Int) (a b:List Dom):Bool:=(okH l a&&okH l b)&&leT (hts l a) (hts l b) 81
theorem Mj {l:List Int} {a b:List Dom} (h:(okH l a&&okH l b)=false):kj l a b=false:=by unfold kj;rw[h];rfl
theorem Mk {l:List Int} {a b:List Dom} {k:Nat} (hk:k<81) (h:gI (hts l b) k<gI (hts l a) k):kj l a b=false:=by unfold kj;rw[MY hk h,Bool.and_false]
theorem bel_t {l:List Int} {a b:List Dom} {k:Nat} (hx:0<(hts l a).length) (hy:0<(hts l b).length) (hk:k≤(hts l a).length) (hk2:¬k<81) (h:leT (hts l a) (hts l b) k=true):kj l a b=true:=by
 have e:k=81:=by have:=uh l a;omega
 subst e
 unfold kj;rw[(yz hx).1,(yz hy).1,h];rfl
def stT (x y:List Int) (k:Nat):Int:=(List.range k).foldl (fun s i=>s+fu (gI x i-gI y i)) 0
theorem oA (x y:List Int) (k:Nat):stT x y (k+1)=stT x y k+fu (gI x k-gI y k):=by unfold stT;rw[List.range_succ,List.foldl_append];rfl
theorem Nz (l:List Int) (a b:List Dom) (k:Nat):0≤stT (hts l a) (hts l b) k∧stT (hts l a) (hts l b) k≤1080*k:=by
  induction k with
  | zero=>simp [stT]
  | succ k ih=>
    rw[oA]
    have h1:=oK (l:=l) (ds:=a) k
    have h2:=oK (l:=l) (ds:=b) k
    have:=de (gI (hts l a) k-gI (hts l b) k)
    omega
noncomputable def gJ (l:List Int) (a b:List Dom):Int:=if(okH l a&&okH l b)=true then stT (hts l a) (hts l b) 81/4 else -1
theorem Lj {l:List Int} {a b:List Dom} (h:(okH l a&&okH l b)=false):gJ l a b= -1:=by unfold gJ;rw[h];rfl
theorem IL {l:List Int} {a b:List Dom} {k:Nat} (h:(okH l a&&okH l b)=true) (hk:k=81):stT (hts l a) (hts l b) k/4=gJ l a b:=by subst hk;unfold gJ;rw[if_pos h]
theorem pa:(Tryz.prog.info? 3).map (·.size)=some 1:=by kernel_rfl
theorem ff:TI Tryz.prog 26 true 1:=⟨⟨_,Tryz.underlying26,rfl⟩,by kernel_rfl⟩
theorem pd:TI Tryz.prog 3 false 1:=⟨⟨_,Tryz.underlying3,rfl⟩,by kernel_rfl⟩
theorem et:Tryz.prog.underlying 24=some (.slice 3):=Tryz.underlying24
theorem fh (l:List Int) (a b:List Dom) (hl:l.length≤4194304) (ha:a.length≤2097152) (hb:b.length≤2097152):FnO Tryz.prog 21 [.agg [(.slv l.length 1 (isl l):A)],.a (.slv a.length 3 (dsl a)),.a (.slv b.length 3 (dsl b))] [] (V.tup [.a (.sl 7 0 ((hts l a).length)),.a (.sl 9 0 ((hts l b).length)),.a (.val (.bool (okH l a&&okH l b)))]) [(.o 7,some (.o ⟨3,1,true,pl (isl (hts l a))⟩)),(.o 9,some (.o ⟨3,1,true,pl (isl (hts l b))⟩))] []:=by
 refine co (N:=25) Tryz.func21 rfl (by kernel_rfl) rfl (Nat.le_of_ble_eq_true rfl) rfl rfl (by kernel_rfl) (by kernel_rfl) trivial [3,13,16] (Io rfl) (fun W own kp im0=> ?_)
 show Wp _ _ _ [kV 0 (V.b (.agg [(.slv l.length 1 (isl l):A)])),kV 1 (V.b (.a (.slv a.length 3 (dsl a)))),kV 2 (V.b (.a (.slv b.length 3 (dsl b)))),kF 3,kF 13,kF 16]
 refine sq (rg ?_)
 refine z ?_ (h:=fun Z=>aM (h:=3) Z xt (by exact ob1 rfl))
 refine zk (zk (zk (nl (sq ?_))))
 rcases Bool.eq_false_or_eq_true ((cu l&&ct l a))with c1 |c1
 ·skip
  rcases Bool.eq_false_or_eq_true ((cu l&&ct l b))with c2 |c2
  ·skip
   refine cg ?_
   refine zd ?_ (h:=fun Z=>aa (xs:=[(.slv l.length 1 (isl l):A)]) Z ff rfl (by decide) rfl)
   refine zdm ?_
   refine zd ?_ (h:=fun Z=>ah Z (fa l a (by omega) (by omega) (by omega)) (ac (ArgV.regv _ _ 1 _) (ac (ArgV.slv _ _ _ _) an)) (ResV.row _ _ _ _ 13))
   refine zd ?_ (h:=fun Z=>aa (xs:=[(.slv l.length 1 (isl l):A)]) Z ff rfl (by decide) rfl)
   refine zdm ?_
   refine zd ?_ (h:=fun Z=>ah Z (fa l b (by omega) (by omega) (by omega)) (ac (ArgV.regv _ _ 1 _) (ac (ArgV.slv _ _ _ _) an)) (ResV.row _ _ _ _ 16))
   refine zd ?_ (h:=fun Z=>gt Z)
   refine zd ?_ (h:=fun Z=>gt Z)
   refine bJ (sq (rg (zm (zm (zm ?_)))))
   refine z ?_ (h:=fun Z=>rF Z et (by(rw[cO];omega)))
   refine zm ?_
   refine zg ?_ (h:=fun Z=>ae rfl rfl (mt Z))
   refine zg ?_ (h:=fun Z=>ae rfl rfl (rF Z et (by(rw[cO];omega))))
   refine z ?_ (h:=fun Z=>al Z vt xt)
   refine za (za (za (nl (aq ?_))))
   exact⟨[kS 6 7 0 ((cj l a).length),kS 7 9 0 ((cj l b).length),kB 8 true,kO 7 3 1 true (pl (isl (cj l a))),kO 9 3 1 true (pl (isl (cj l b))),kF 3,kF 13,kF 16],wkf (bn [(7,13),(9,16)]) (wS<|wS<|wS<|wP<|wP<|wF<|wF<|wF<|wN),⟨cw (c:=pl (isl (cj l a))) (by kernel_rfl) (congrArg (fun z=>pl (isl z)) (by exact(fA (by assumption)).symm)),cw (c:=pl (isl (cj l b))) (by kernel_rfl) (congrArg (fun z=>pl (isl z)) (by exact(fA (by assumption)).symm)),trivial⟩,⟨da 6 (.a (.sl 7 0 ((cj l a).length))) (.a (.sl 7 0 ((hts l a).length))) (by kernel_rfl) (congrArg (fun z:Nat=>B.a (.sl 7 0 z)) (by(rw[fA (by assumption)];done))),da 7 (.a (.sl 9 0 ((cj l b).length))) (.a (.sl 9 0 ((hts l b).length))) (by kernel_rfl) (congrArg (fun z:Nat=>B.a (.sl 9 0 z)) (by(rw[fA (by assumption)];done))),da 8 (.a (.val (.bool true))) (.a (.val (.bool (okH l a&&okH l b)))) (by kernel_rfl) (congrArg (fun z:Bool=>B.a (.val (.bool z))) (by(unfold okH;simp_all;done)))⟩⟩
  ·skip
   refine cg ?_
   refine zd ?_ (h:=fun Z=>aa (xs:=[(.slv l.length 1 (isl l):A)]) Z ff rfl (by decide) rfl)
   refine zdm ?_
   refine zd ?_ (h:=fun Z=>ah Z (fa l a (by omega) (by omega) (by omega)) (ac (ArgV.regv _ _ 1 _) (ac (ArgV.slv _ _ _ _) an)) (ResV.row _ _ _ _ 13))
   refine zd ?_ (h:=fun Z=>aa (xs:=[(.slv l.length 1 (isl l):A)]) Z ff rfl (by decide) rfl)
   refine zdm ?_
   refine zd ?_ (h:=fun Z=>ah Z (iL l b (by omega) (by omega) (by omega)) (ac (ArgV.regv _ _ 1 _) (ac (ArgV.slv _ _ _ _) an)) rv)
   refine zd ?_ (h:=fun Z=>gt Z)
   refine zd ?_ (h:=fun Z=>gt Z)
   refine bJ (sq (rg (zm (zm (zm ?_)))))
   refine z ?_ (h:=fun Z=>rF Z et (by(rw[cO];omega)))
   refine zm ?_
   refine zg ?_ (h:=fun Z=>ae rfl rfl (mt Z))
   refine zg ?_ (h:=fun Z=>ae rfl rfl (ab Z vt vc (up et rfl)))
   refine z ?_ (h:=fun Z=>al Z vt xt)
   refine za (za (za (nl ?_)))
   refine dE (wnI (k:=7) (h:=16) (T:=3) (by kernel_rfl) (by kernel_rfl)) ?_
   refine aq ?_
   exact⟨[kS 6 7 0 ((cj l a).length),kS 7 9 0 0,kB 8 false,kO 7 3 1 true (pl (isl (cj l a))),kO 9 3 1 true (pl (isl [])),kF 3,kF 13,kF 16],wkf (bn [(7,13),(9,16)]) (wS<|wS<|wS<|wP<|wP<|wF<|wF<|wF<|wN),⟨cw (c:=pl (isl (cj l a))) (by kernel_rfl) (congrArg (fun z=>pl (isl z)) (by exact(fA (by assumption)).symm)),cw (c:=pl (isl [])) (by kernel_rfl) (congrArg (fun z=>pl (isl z)) (by exact(mI (by assumption)).symm)),trivial⟩,⟨da 6 (.a (.sl 7 0 ((cj l a).length))) (.a (.sl 7 0 ((hts l a).length))) (by kernel_rfl) (congrArg (fun z:Nat=>B.a (.sl 7 0 z)) (by(rw[fA (by assumption)];done))),da 7 (.a (.sl 9 0 0)) (.a (.sl 9 0 ((hts l b).length))) (by kernel_rfl) (congrArg (fun z:Nat=>B.a (.sl 9 0 z)) (by(rw[mI (by assumption)];first |done |rfl))),da 8 (.a (.val (.bool false))) (.a (.val (.bool (okH l a&&okH l b)))) (by kernel_rfl) (congrArg (fun z:Bool=>B.a (.val (.bool z))) (by(unfold okH;simp_all;done)))⟩⟩
 ·skip
  rcases Bool.eq_false_or_eq_true ((cu l&&ct l b))with c3 |c3
  ·skip
   refine cg ?_
   refine zd ?_ (h:=fun Z=>aa (xs:=[(.slv l.length 1 (isl l):A)]) Z ff rfl (by decide) rfl)
   refine zdm ?_
   refine zd ?_ (h:=fun Z=>ah Z (iL l a (by omega) (by omega) (by omega)) (ac (ArgV.regv _ _ 1 _) (ac (ArgV.slv _ _ _ _) an)) rv)
   refine zd ?_ (h:=fun Z=>aa (xs:=[(.slv l.length 1 (isl l):A)]) Z ff rfl (by decide) rfl)
   refine zdm ?_
   refine zd ?_ (h:=fun Z=>ah Z (fa l b (by omega) (by omega) (by omega)) (ac (ArgV.regv _ _ 1 _) (ac (ArgV.slv _ _ _ _) an)) (ResV.row _ _ _ _ 16))
   refine zd ?_ (h:=fun Z=>gt Z)
   refine zd ?_ (h:=fun Z=>gt Z)
   refine bJ (sq (rg (zm (zm (zm ?_)))))
   refine z ?_ (h:=fun Z=>ab Z vt vc (up et rfl))
   refine zm (zo (zo ?_))
   refine z ?_ (h:=fun Z=>ao Z vt xc)
   refine za (za (za (nl ?_)))
   refine dE (wnI (k:=6) (h:=13) (T:=3) (by kernel_rfl) (by kernel_rfl)) ?_
   refine aq ?_
   exact⟨[kS 6 7 0 0,kS 7 9 0 ((cj l b).length),kB 8 false,kO 7 3 1 true (pl (isl [])),kO 9 3 1 true (pl (isl (cj l b))),kF 3,kF 13,kF 16],wkf (bn [(7,13),(9,16)]) (wS<|wS<|wS<|wP<|wP<|wF<|wF<|wF<|wN),⟨cw (c:=pl (isl [])) (by kernel_rfl) (congrArg (fun z=>pl (isl z)) (by exact(mI (by assumption)).symm)),cw (c:=pl (isl (cj l b))) (by kernel_rfl) (congrArg (fun z=>pl (isl z)) (by exact(fA (by assumption)).symm)),trivial⟩,⟨da 6 (.a (.sl 7 0 0)) (.a (.sl 7 0 ((hts l a).length))) (by kernel_rfl) (congrArg (fun z:Nat=>B.a (.sl 7 0 z)) (by(rw[mI (by assumption)];first |done |rfl))),da 7 (.a (.sl 9 0 ((cj l b).length))) (.a (.sl 9 0 ((hts l b).length))) (by kernel_rfl) (congrArg (fun z:Nat=>B.a (.sl 9 0 z)) (by(rw[fA (by assumption)];done))),da 8 (.a (.val (.bool false))) (.a (.val (.bool (okH l a&&okH l b)))) (by kernel_rfl) (congrArg (fun z:Bool=>B.a (.val (.bool z))) (by(unfold okH;simp_all;done)))⟩⟩
  ·skip
   refine cg ?_
   refine zd ?_ (h:=fun Z=>aa (xs:=[(.slv l.length 1 (isl l):A)]) Z ff rfl (by decide) rfl)
   refine zdm ?_
   refine zd ?_ (h:=fun Z=>ah Z (iL l a (by omega) (by omega) (by omega)) (ac (ArgV.regv _ _ 1 _) (ac (ArgV.slv _ _ _ _) an)) rv)
   refine zd ?_ (h:=fun Z=>aa (xs:=[(.slv l.length 1 (isl l):A)]) Z ff rfl (by decide) rfl)
   refine zdm ?_
   refine zd ?_ (h:=fun Z=>ah Z (iL l b (by omega) (by omega) (by omega)) (ac (ArgV.regv _ _ 1 _) (ac (ArgV.slv _ _ _ _) an)) rv)
   refine zd ?_ (h:=fun Z=>gt Z)
   refine zd ?_ (h:=fun Z=>gt Z)
   refine bJ (sq (rg (zm (zm (zm ?_)))))
   refine z ?_ (h:=fun Z=>ab Z vt vc (up et rfl))
   refine zm (zo (zo ?_))
   refine z ?_ (h:=fun Z=>ao Z vt xc)
   refine za (za (za (nl ?_)))
   refine dE (wnI (k:=6) (h:=13) (T:=3) (by kernel_rfl) (by kernel_rfl)) ?_
   refine dE (wnI (k:=7) (h:=16) (T:=3) (by kernel_rfl) (by kernel_rfl)) ?_
   refine aq ?_
   exact⟨[kS 6 7 0 0,kS 7 9 0 0,kB 8 false,kO 7 3 1 true (pl (isl [])),kO 9 3 1 true (pl (isl [])),kF 3,kF 13,kF 16],wkf (bn [(7,13),(9,16)]) (wS<|wS<|wS<|wP<|wP<|wF<|wF<|wF<|wN),⟨cw (c:=pl (isl [])) (by kernel_rfl) (congrArg (fun z=>pl (isl z)) (by exact(mI (by assumption)).symm)),cw (c:=pl (isl [])) (by kernel_rfl) (congrArg (fun z=>pl (isl z)) (by exact(mI (by assumption)).symm)),trivial⟩,⟨da 6 (.a (.sl 7 0 0)) (.a (.sl 7 0 ((hts l a).length))) (by kernel_rfl) (congrArg (fun z:Nat=>B.a (.sl 7 0 z)) (by(rw[mI (by assumption)];first |done |rfl))),da 7 (.a (.sl 9 0 0)) (.a (.sl 9 0 ((hts l b).length))) (by kernel_rfl) (congrArg (fun z:Nat=>B.a (.sl 9 0 z)) (by(rw[mI (by assumption)];first |done |rfl))),da 8 (.a (.val (.bool false))) (.a (.val (.bool (okH l a&&okH l b)))) (by kernel_rfl) (congrArg (fun z:Bool=>B.a (.val (.bool z))) (by(unfold okH;simp_all;done)))⟩⟩
theorem ci (l:List Int) (a b:List Dom) (hl:l.length≤4194304) (ha:a.length≤2097152) (hb:b.length≤2097152):Fn Tryz.prog 13 [.agg [(.slv l.length 1 (isl l):A)],.a (.slv a.length 3 (dsl a)),.a (.slv b.length 3 (dsl b))] [.val (.bool (kj l a b))]:=by
 refine aN (N:=36) Tryz.func13 rfl (by kernel_rfl) rfl (Nat.le_of_ble_eq_true rfl) [3,15,22] (dB rfl) (fun W=> ?_)
 show Wp _ _ _ [kV 0 (V.b (.agg [(.slv l.length 1 (isl l):A)])),kV 1 (V.b (.a (.slv a.length 3 (dsl a)))),kV 2 (V.b (.a (.slv b.length 3 (dsl b)))),kF 3,kF 15,kF 22]
 refine sq (rg ?_)
 refine z ?_ (h:=fun Z=>aM (h:=3) Z xt (by exact ob1 rfl))
 refine zk (nl (sq (rg ?_)))
 refine z ?_ (h:=fun Z=>aa (xs:=[(.slv l.length 1 (isl l):A)]) Z ff rfl (by decide) rfl)
 refine zm (zm ?_)
 refine z ?_ (h:=fun Z=>bo (d:=15) (f:=21) (os:=[]) (os':=[(.o 15,some (.o ⟨3,1,true,pl (isl (hts l a))⟩)),(.o 22,some (.o ⟨3,1,true,pl (isl (hts l b))⟩))]) (r:=V.tup [.a (.sl 15 0 ((hts l a).length)),.a (.sl 22 0 ((hts l b).length)),.a (.val (.bool (okH l a&&okH l b)))]) (bs:=[.agg [(.slv l.length 1 (isl l):A)],.a (.slv a.length 3 (dsl a)),.a (.slv b.length 3 (dsl b))]) (keep:=[]) (new:=[15,22]) (dead:=[]) Z (FnO.ren' (fh l a b (by omega) (by omega) (by omega)) (bn [(7,15),(9,22)]) rfl rfl (by kernel_rfl) (by kernel_rfl) ⟨bB (fun _=>rfl),bB (fun _=>rfl),trivial⟩ (by kernel_rfl) rfl (by simp only[cH,Ob.ren,bM,aC,aD,aA,bt,bq];first |done |rfl) (by simp only[cH,Ob.ren,bM,aC,aD,aA,bt,bq];first |done |rfl) rfl rfl) (by kernel_rfl) ⟨bB (fun _=>rfl),bB (fun _=>rfl),trivial⟩ (by kernel_rfl) (ArgOs.cons (ArgO.slot 12 (.agg [(.slv l.length 1 (isl l):A)])) (ArgOs.cons (ArgO.slot 13 (.a (.slv a.length 3 (dsl a)))) (ArgOs.cons (ArgO.slot 14 (.a (.slv b.length 3 (dsl b)))) (ArgOs.nil)))))
 refine zm ?_
 refine z ?_ (h:=fun Z=>az Z (by exact rfl))
 refine z ?_ (h:=fun Z=>az Z (by exact rfl))
 refine z ?_ (h:=fun Z=>az Z (by exact rfl))
 refine za (za (za (nl (sq (sq (rg (zm ?_)))))))
 refine z ?_ (h:=fun Z=>aK Z vt (bE rfl))
 refine nl ?_
 refine wi (b:=(!(okH l a&&okH l b))) (fun c1=> ?_) (fun c1=> ?_)
 ·skip
  have c2:(okH l a&&okH l b)=false:=by first |(rw[←Bool.not_eq_true'];exact c1) |simpa using c1
  refine sq (rg (zk (nl (aq ?_))))
  exact VRes.tmp _ _ _ (by exact rfl) (cc (congrArg Value.bool (by exact(Mj (by assumption)).symm)))
 ·skip
  have c3:(okH l a&&okH l b)=true:=by first |(rw[←Bool.not_eq_false'];exact c1) |simpa using c1
  have hoa:okH l a=true:=(fw c3).1
  have hob:okH l b=true:=(fw c3).2
  have hla:=kq hoa
  have hlb:=kq hob
  refine sk (sq (sq (rg (zm ?_))))
  refine z ?_ (h:=fun Z=>lnS Z et)
  refine z ?_ (h:=fun Z=>mc Z)
  refine nl (bkk ?_)
  refine bf (fun(k:Nat)=>k≤(hts l a).length∧leT (hts l a) (hts l b) k=true) (fun(k:Nat)=>[kS 7 15 0 ((hts l a).length),kS 8 22 0 ((hts l b).length),kI 22 (((hts l a).length:Nat):Int),kI 23 ((k:Nat):Int),kO 15 3 1 true (pl (isl (hts l a))),kO 22 3 1 true (pl (isl (hts l b))),kF 3]) (fun(k:Nat)=>(hts l a).length-k) ((0:Nat)) (by exact⟨Nat.zero_le _,rfl⟩) (wkf id (wS<|wS<|wS<|wE (e:=(aO (by rfl)))<|wP<|wP<|wF<|wN)) ?_
  rintro k inv4
  replace inv4:k≤(hts l a).length∧leT (hts l a) (hts l b) k=true:=inv4
  obtain⟨inv4_0,inv4_1⟩:=inv4
  refine sq (rg ?_)
  refine z ?_ (h:=fun Z=>ab Z vt vt (bP rfl))
  refine nl (sq ?_)
  refine wi (fun c5=> ?_) (fun c5=> ?_)
  ·skip
   have c5P:=of_decide_eq_true c5
   refine sk (sq (bkk (sq (rg (zm (za (nl (sq (cg (zdm (zdm ?_)))))))))))
   refine zd ?_ (h:=fun Z=>ix0 Z et pa vt (hlt:=(by omega)))
   refine zd ?_ (h:=fun Z=>lI Z pd (by omega))
   refine zdm (zdm ?_)
   refine zd ?_ (h:=fun Z=>ix0 Z et pa vt (hlt:=(by omega)))
   refine zd ?_ (h:=fun Z=>lI Z pd (by omega))
   refine zd ?_ (h:=fun Z=>ab Z vt vt (oi rfl))
   refine bJ ?_
   refine wi (fun c6=> ?_) (fun c6=> ?_)
   ·skip
    have c6P:=of_decide_eq_true c6
    refine sq (rg (zk (nl (aq ?_))))
    exact VRes.tmp _ _ _ (by exact rfl) (cc (congrArg Value.bool (by exact(Mk (k:=k) (by omega) (by omega)).symm)))
   ·skip
    have c6P:=of_decide_eq_false c6
    refine sk (rg ?_)
    refine z ?_ (h:=fun Z=>ab Z vt vc (rA (by omega) (by omega)))
    refine zm (nl ?_)
    exact ar ((k+1)) (by exact⟨by omega,Ht (by assumption) (by omega)⟩) (by show(hts l a).length-(k+1)<(hts l a).length-k;omega) (wkf id (wS<|wS<|wS<|wE (e:=(aO (by rfl)))<|wP<|wP<|wF<|wN))
  ·skip
   have c5P:=of_decide_eq_false c5
   refine aJ (sq (rg (zk (nl (aq ?_)))))
   exact VRes.tmp _ _ _ (by exact rfl) (cc (congrArg Value.bool (by exact(bel_t (k:=k) (by omega) (by omega) (by omega) (by omega) (by assumption)).symm)))
theorem eS (l:List Int) (a b:List Dom) (hl:l.length≤4194304) (ha:a.length≤2097152) (hb:b.length≤2097152):Fn Tryz.prog 10 [.agg [(.slv l.length 1 (isl l):A)],.a (.slv a.length 3 (dsl a)),.a (.slv b.length 3 (dsl b))] [.val (.int .i64 (gJ l a b))]:=by
 refine aN (N:=42) Tryz.func10 rfl (by kernel_rfl) rfl (Nat.le_of_ble_eq_true rfl) [3,16,23,37] (dB rfl) (fun W=> ?_)
 show Wp _ _ _ [kV 0 (V.b (.agg [(.slv l.length 1 (isl l):A)])),kV 1 (V.b (.a (.slv a.length 3 (dsl a)))),kV 2 (V.b (.a (.slv b.length 3 (dsl b)))),kF 3,kF 16,kF 23,kF 37]
 refine sq (rg ?_)
 refine z ?_ (h:=fun Z=>aM (h:=3) Z xt (by exact ob1 rfl))
 refine zk (nl (sq (rg ?_)))
 refine z ?_ (h:=fun Z=>aa (xs:=[(.slv l.length 1 (isl l):A)]) Z ff rfl (by decide) rfl)
 refine zm (zm ?_)
 refine z ?_ (h:=fun Z=>bo (d:=16) (f:=21) (os:=[]) (os':=[(.o 16,some (.o ⟨3,1,true,pl (isl (hts l a))⟩)),(.o 23,some (.o ⟨3,1,true,pl (isl (hts l b))⟩))]) (r:=V.tup [.a (.sl 16 0 ((hts l a).length)),.a (.sl 23 0 ((hts l b).length)),.a (.val (.bool (okH l a&&okH l b)))]) (bs:=[.agg [(.slv l.length 1 (isl l):A)],.a (.slv a.length 3 (dsl a)),.a (.slv b.length 3 (dsl b))]) (keep:=[]) (new:=[16,23]) (dead:=[]) Z (FnO.ren' (fh l a b (by omega) (by omega) (by omega)) (bn [(7,16),(9,23)]) rfl rfl (by kernel_rfl) (by kernel_rfl) ⟨bB (fun _=>rfl),bB (fun _=>rfl),trivial⟩ (by kernel_rfl) rfl (by simp only[cH,Ob.ren,bM,aC,aD,aA,bt,bq];first |done |rfl) (by simp only[cH,Ob.ren,bM,aC,aD,aA,bt,bq];first |done |rfl) rfl rfl) (by kernel_rfl) ⟨bB (fun _=>rfl),bB (fun _=>rfl),trivial⟩ (by kernel_rfl) (ArgOs.cons (ArgO.slot 13 (.agg [(.slv l.length 1 (isl l):A)])) (ArgOs.cons (ArgO.slot 14 (.a (.slv a.length 3 (dsl a)))) (ArgOs.cons (ArgO.slot 15 (.a (.slv b.length 3 (dsl b)))) (ArgOs.nil)))))
 refine zm ?_
 refine z ?_ (h:=fun Z=>az Z (by exact rfl))
 refine z ?_ (h:=fun Z=>az Z (by exact rfl))
 refine z ?_ (h:=fun Z=>az Z (by exact rfl))
 refine za (za (za (nl (sq (sq (rg (zm ?_)))))))
 refine z ?_ (h:=fun Z=>aK Z vt (bE rfl))
 refine nl ?_
 refine wi (b:=(!(okH l a&&okH l b))) (fun c1=> ?_) (fun c1=> ?_)
 ·skip
  have c2:(okH l a&&okH l b)=false:=by first |(rw[←Bool.not_eq_true'];exact c1) |simpa using c1
  refine sq (rg (zk (nl (aq ?_))))
  exact VRes.tmp _ _ _ (by exact rfl) (cc (congrArg (Value.int .i64) (by exact(Lj (by assumption)).symm)))
 ·skip
  have c3:(okH l a&&okH l b)=true:=by first |(rw[←Bool.not_eq_false'];exact c1) |simpa using c1
  have hoa:okH l a=true:=(fw c3).1
  have hob:okH l b=true:=(fw c3).2
  have hla:=kq hoa
  have hlb:=kq hob
  refine sk (sq (rg (zk (nl (sq (sq (rg (zm ?_))))))))
  refine z ?_ (h:=fun Z=>lnS Z et)
  refine z ?_ (h:=fun Z=>mc Z)
  refine nl (bkk ?_)
  refine bf (fun(k:Nat)=>k≤(hts l a).length) (fun(k:Nat)=>[kS 7 16 0 ((hts l a).length),kS 8 23 0 ((hts l b).length),kI 10 (stT (hts l a) (hts l b) k),kI 23 (((hts l a).length:Nat):Int),kI 24 ((k:Nat):Int),kO 16 3 1 true (pl (isl (hts l a))),kO 23 3 1 true (pl (isl (hts l b))),kF 3,kF 37]) (fun(k:Nat)=>(hts l a).length-k) ((0:Nat)) (by exact(Nat.zero_le _:0≤_)) (wkf id (wS<|wS<|wE (e:=(aO (by rfl)))<|wS<|wE (e:=(aO (by rfl)))<|wP<|wP<|wF<|wF<|wN)) ?_
  rintro k inv4
  replace inv4:k≤(hts l a).length:=inv4
  have inv:=inv4
  have hva:=oK (l:=l) (ds:=a) k
  have hvb:=oK (l:=l) (ds:=b) k
  have hst:=Nz l a b k
  refine sq (rg ?_)
  refine z ?_ (h:=fun Z=>ab Z vt vt (bP rfl))
  refine nl (sq ?_)
  refine wi (fun c5=> ?_) (fun c5=> ?_)
  ·skip
   have c5P:=of_decide_eq_true c5
   refine sk (sq (bkk (sq (rg (zm (za (nl (cg (zdm (zdm (zdm ?_)))))))))))
   refine zd ?_ (h:=fun Z=>ix0 Z et pa vt (hlt:=(by omega)))
   refine zd ?_ (h:=fun Z=>lI Z pd (by omega))
   refine zdm (zdm ?_)
   refine zd ?_ (h:=fun Z=>ix0 Z et pa vt (hlt:=(by omega)))
   refine zd ?_ (h:=fun Z=>lI Z pd (by omega))
   refine zd ?_ (h:=fun Z=>ab Z vt vt (rS (by omega) (by omega)))
   refine zd ?_ (h:=fun Z=>ah Z (mK ((gI (hts l a) k)-(gI (hts l b) k)) (by omega) (by omega)) (ac (ArgV.v vt) an) rv)
   refine zd ?_ (h:=fun Z=>ab Z vt vt (rA (by(have:=de (gI (hts l a) k-gI (hts l b) k);omega)) (by(have:=de (gI (hts l a) k-gI (hts l b) k);omega))))
   refine zd ?_ (h:=fun Z=>gt Z)
   refine bJ (rg ?_)
   refine z ?_ (h:=fun Z=>ab Z vt vc (rA (by omega) (by omega)))
   refine zm (nl ?_)
   exact ar ((k+1)) (by show _≤_;omega) (by show(hts l a).length-(k+1)<(hts l a).length-k;omega) (wkf id (wS<|wS<|wE (e:=(aO (by exact oA _ _ _)))<|wS<|wE (e:=(aO (by rfl)))<|wP<|wP<|wF<|wF<|wN))
  ·skip
   have c5P:=of_decide_eq_false c5
   refine aJ (sq (rg (zm ?_)))
   refine z ?_ (h:=fun Z=>ab Z vt vc (vK (c:=((stT (hts l a) (hts l b) k)/4)) (by omega) (quoI (by omega) (by omega) (by omega))))
   refine za (nl (aq ?_))
   exact VRes.tmp _ _ _ (by exact rfl) (cc (congrArg (Value.int .i64) (by exact IL (by assumption) (by omega))))
end Cl
end Go.Proofs.YtonlghbbdcddoaaGreat
