/- Walks. -/
import Derived.Test.YtonlghbbdcddoaaGreatC31
import Derived.Test.YtonlghbbdcddoaaGreatSO
import Derived.Test.YtonlghbbdcddoaaGreatEB
import Derived.Test.YtonlghbbdcddoaaGreatClB
set_option maxHeartbeats 4000000
set_option maxRecDepth 100000
namespace Go.Proofs.YtonlghbbdcddoaaGreat
namespace Cl
open Go.ChangeShapes Go.WideShapes Go.ChangeAt Go.RowKit
theorem Gg:∀ (a b:List Dom),SS a→SS b→(∀ d,d∈a↔d∈b)→a=b:=by
  intro a
  induction a with
  | nil=>
    intro b _ _ h
    cases b with
    | nil=>rfl
    | cons x b=>exact absurd ((h x).2 (by simp)) (by simp)
  | cons x a ih=>
    intro b ha hb h
    cases b with
    | nil=>exact absurd ((h x).1 (by simp)) (by simp)
    | cons y b=>
      unfold SS at ha hb
      rw[List.pairwise_cons]at ha hb
      have hxy:x=y:=by
        rcases List.mem_cons.1 ((h x).1 (by simp))with h1 |h1
        · exact h1
        · rcases List.mem_cons.1 ((h y).2 (by simp))with h2 |h2
          · exact h2.symm
          · have h3:=hb.1 x h1
            have h4:=ha.1 y h2
            omega
      subst hxy
      congr 1
      refine ih b ha.2 hb.2 fun d=>⟨fun hd=> ?_,fun hd=> ?_⟩
      · rcases List.mem_cons.1 ((h d).1 (by simp [hd]))with rfl |h1
        · have:=ha.1 d hd;omega
        · exact h1
      · rcases List.mem_cons.1 ((h d).2 (by simp [hd]))with rfl |h1
        · have:=hb.1 d hd;omega
        · exact h1
theorem Jl (z:Int):IntKind.i64.wrap z=(z+9223372036854775808)%18446744073709551616-9223372036854775808:=by
 simp only[IntKind.wrap,IntKind.signed,IntKind.bits];simp;first |rfl |omega
def sW (u v:Int):Int:=IntKind.i64.wrap (u-v)
def szW (a:Int):Int:=max a (IntKind.i64.wrap (-a))
def e3 (u v:Int):Bool:=decide (sW u v=3)||decide (sW v u=3)
theorem Dd (u v:Int):decide (szW (sW u v)=3)=e3 u v:=by
 unfold e3 szW sW
 rw[Bool.eq_iff_iff]
 simp only[decide_eq_true_eq,Bool.or_eq_true,Jl]
 omega
def spC (h:List Int) (d:Dom):Bool:=e3 (gI h ((cb d).y*9+(cb d).x).toNat) (gI h (if d.d=true then((cb d).y*9+(cb d).x+1).toNat else(((cb d).y+1)*9+(cb d).x).toNat))
theorem xW (h:List Int) (c:Cel):spC h ⟨c.x,c.y,false⟩=e3 (gI h (c.y*9+c.x+1).toNat) (gI h ((c.y+1)*9+c.x+1).toNat):=by
 unfold spC cb
 simp only[Bool.false_eq_true,if_false]
 rw[show c.y*9+(c.x+1)=c.y*9+c.x+1 by omega,show(c.y+1)*9+(c.x+1)=(c.y+1)*9+c.x+1 by omega]
theorem xX (h:List Int) (c:Cel):spC h ⟨c.x,c.y,true⟩=e3 (gI h ((c.y+1)*9+c.x).toNat) (gI h ((c.y+1)*9+c.x+1).toNat):=by
 unfold spC cb
 simp only[if_true]
def tfB (s:Nat) (h:List Int) (c:Cel) (b:Bool):Bool:=aP s (cb ⟨c.x,c.y,b⟩)&&spC h ⟨c.x,c.y,b⟩
def tfC (s:Nat) (h:List Int) (c:Cel):List Dom:=(if tfB s h c false=true then [⟨c.x,c.y,false⟩]else [])++(if tfB s h c true=true then [⟨c.x,c.y,true⟩]else [])
def tfL (s:Nat) (h:List Int) (k:Nat):List Dom:=((aj s).take k).flatMap (tfC s h)
def jD (s:Nat) (h:List Int):List Dom:=tfL s h (aj s).length
theorem wg {s:Nat} {h:List Int} {k:Nat} (hk:k<(aj s).length):tfL s h (k+1)=tfL s h k++tfC s h (gC (aj s) k):=by
 unfold tfL;rw[List.take_succ_eq_append_getElem hk,List.flatMap_append,jO hk];simp
theorem Lo (s:Nat) (h:List Int) (c:Cel):(tfC s h c).length≤2:=by
 unfold tfC;split<;>split<;>simp
theorem Ec {s:Nat} {h:List Int} {k:Nat} (hk:k≤(aj s).length):(tfL s h k).length≤2*k:=by
  induction k with
  | zero=>simp [tfL]
  | succ k ih=>
    rw[wg (by omega),List.length_append]
    have:=ih (by omega)
    have:=Lo s h (gC (aj s) k)
    omega
theorem ul {s:Nat} {h:List Int} {c:Cel} {d:Dom}:d∈tfC s h c↔ca d=c∧aP s (cb d)=true∧spC h d=true:=by
 obtain⟨x,y,b⟩:=d
 obtain⟨cx,cy⟩:=c
 unfold tfC tfB
 rw[List.mem_append]
 cases b
 ·constructor
  ·rintro(hm |hm)
   ·split at hm
    ·rename_i hc
     simp only[List.mem_singleton,Dom.mk.injEq,and_true]at hm
     obtain⟨rfl,rfl⟩:=hm
     rw[Bool.and_eq_true]at hc
     exact⟨rfl,hc⟩
    ·cases hm
   ·split at hm
    ·simp at hm
    ·cases hm
  ·rintro⟨h1,h2,h3⟩
   unfold ca at h1
   simp only[Cel.mk.injEq]at h1
   obtain⟨rfl,rfl⟩:=h1
   left;rw[if_pos (by rw[h2,h3];rfl)];simp
 ·constructor
  ·rintro(hm |hm)
   ·split at hm
    ·simp at hm
    ·cases hm
   ·split at hm
    ·rename_i hc
     simp only[List.mem_singleton,Dom.mk.injEq,and_true]at hm
     obtain⟨rfl,rfl⟩:=hm
     rw[Bool.and_eq_true]at hc
     exact⟨rfl,hc⟩
    ·cases hm
  ·rintro⟨h1,h2,h3⟩
   unfold ca at h1
   simp only[Cel.mk.injEq]at h1
   obtain⟨rfl,rfl⟩:=h1
   right;rw[if_pos (by rw[h2,h3];rfl)];simp
theorem od {s:Nat} {h:List Int} {d:Dom}:d∈jD s h↔aP s (ca d)=true∧aP s (cb d)=true∧spC h d=true:=by
 unfold jD tfL
 rw[List.take_length,List.mem_flatMap]
 constructor
 ·rintro⟨c,hc,hd⟩
  rw[ul]at hd
  exact⟨by rw[hd.1];exact dh.1 hc,hd.2⟩
 ·rintro⟨h1,h2⟩
  exact⟨ca d,dh.2 h1,ul.2 ⟨rfl,h2⟩⟩
theorem DD {d:Dom} (h:okc d.x d.y=true):d.ord=2*(idx (ca d):Int)+(if d.d=true then 1 else 0):=by
 have hq:=bz.1 h
 unfold Dom.ord idx ca
 cases d.d<;>simp<;>omega
theorem CK {s:Nat} {h:List Int}:∀ k,k≤(aj s).length→SS (tfL s h k)∧∀ d,d∈tfL s h k→∃ j,j<k∧ca d=gC (aj s) j:=by
  intro k
  induction k with
  | zero=>intro _;exact⟨by unfold SS tfL;simp,fun d hd=>by simp [tfL]at hd⟩
  | succ k ih=>
    intro hk
    obtain⟨h1,h2⟩:=ih (by omega)
    rw[wg (by omega)]
    refine⟨?_,fun d hd=> ?_⟩
    · unfold SS at h1⊢
      rw[List.pairwise_append]
      refine⟨h1,?_,fun a ha b hb=> ?_⟩
      · unfold tfC
        split<;>split<;>simp
        unfold Dom.ord;simp;omega
      · obtain⟨j,hj,ej⟩:=h2 a ha
        have eb:=(ul.1 hb).1
        have hja:=bN (dh.1 (kR (l:=aj s) (k:=j) (by omega)))
        have hkb:=bN (dh.1 (kR (l:=aj s) (k:=k) (by omega)))
        rw[←ej]at hja
        rw[←eb]at hkb
        rw[DD hja,DD hkb,ej,eb]
        have:=jX (s:=s) hj (by omega)
        split<;>split<;>omega
    · rcases List.mem_append.1 hd with hd |hd
      · obtain⟨j,hj,e⟩:=h2 d hd;exact⟨j,by omega,e⟩
      · exact⟨k,by omega,(ul.1 hd).1⟩
noncomputable def nD (l h:List Int):Bool:=(aU l&&decide (h.length=81))&&(okH l (jD (ag l) h)&&decide (hts l (jD (ag l) h)=h))
noncomputable def pI (l h:List Int):List Dom:=if nD l h=true then jD (ag l) h else []
theorem zq {l h:List Int} (hc:nD l h=false):pI l h=[]:=by unfold pI;rw[hc];rfl
theorem Bm {l h:List Int} (hc:nD l h=true):pI l h=jD (ag l) h:=by unfold pI;rw[if_pos hc]
theorem NA {l h:List Int} (hc:aU l=false∨¬h.length=81):nD l h=false:=by
 unfold nD;rcases hc with hc |hc
 ·rw[hc];rfl
 ·rw[decide_eq_false hc,Bool.and_false,Bool.false_and]
theorem NB {l h:List Int} (hc:hts l (jD (ag l) h)≠h):nD l h=false:=by
 unfold nD;rw[decide_eq_false hc,Bool.and_false,Bool.and_false]
theorem NC {l h:List Int} (hc:okH l (jD (ag l) h)=false):nD l h=false:=by
 unfold nD;rw[hc,Bool.false_and,Bool.and_false]
theorem IT {l h:List Int} (h1:aU l=true) (h2:h.length=81) (h3:hts l (jD (ag l) h)=h):nD l h=true:=by
 have:okH l (jD (ag l) h)=true:=(yz (by rw[h3,h2];omega)).1
 unfold nD;rw[h1,decide_eq_true h2,decide_eq_true h3,this];rfl
theorem IU (l h:List Int):(pI l h).length≤128:=by
 unfold pI;split
 ·have:=Ec (s:=ag l) (h:=h) (Nat.le_refl _)
  have h2:=kx (ag l)
  unfold jD;omega
 ·simp
theorem MN {a b:List Int} (h:a.length=b.length) (h2:∀ i,i<a.length→gI a i=gI b i):a=b:=by
 apply List.ext_getElem h
 intro i h1 h3
 have:=h2 i h1
 rw[cQ h1,cQ h3]at this;exact this
theorem sq_t {a b:List Int} {k:Nat} (h:a.length=b.length) (hk:¬k<a.length) (h2:∀ i,i<k→gI a i=gI b i):decide (a=b)=true:=by
 rw[MN h (fun i hi=>h2 i (by omega))];simp
theorem sq_f {a b:List Int} {k:Nat} (h:gI a k≠gI b k):decide (a=b)=false:=by
 rw[decide_eq_false];intro e;exact h (by rw[e])
theorem sq_l {a b:List Int} (h:a.length≠b.length):decide (a=b)=false:=by
 rw[decide_eq_false];intro e;exact h (by rw[e])
theorem sq_s {a b:List Int} {k:Nat} (h:∀ i,i<k→gI a i=gI b i) (h2:gI a k=gI b k):∀ i,i<k+1→gI a i=gI b i:=by
 intro i hi
 rcases Nat.lt_or_ge i k with h3 |h3
 ·exact h i h3
 ·rw[show i=k by omega];exact h2
theorem La {s k:Nat} (h:k<(aj s).length):okc (gC (aj s) k).x (gC (aj s) k).y=true:=bN (dh.1 (kR h))
theorem tf_h {s:Nat} {h:List Int} {c:Cel} {b:Bool} (e:(aP s ⟨c.x+1,c.y⟩&&decide (szW (sW (gI h (c.y*9+c.x+1).toNat) (gI h ((c.y+1)*9+c.x+1).toNat))=3))=b):tfB s h c false=b:=by
 rw[←e];unfold tfB;rw[xW,Dd];rfl
theorem tf_v {s:Nat} {h:List Int} {c:Cel} {b:Bool} (e:(aP s ⟨c.x,c.y+1⟩&&decide (szW (sW (gI h ((c.y+1)*9+c.x).toNat) (gI h ((c.y+1)*9+c.x+1).toNat))=3))=b):tfB s h c true=b:=by
 rw[←e];unfold tfB;rw[xX,Dd];rfl
theorem tfs {s:Nat} {h:List Int} {k:Nat} {b1 b2:Bool} {L:List Dom} (hk:k<(aj s).length) (h1:tfB s h (gC (aj s) k) false=b1) (h2:tfB s h (gC (aj s) k) true=b2)
  (e:L=(tfL s h k++(if b1=true then [⟨(gC (aj s) k).x,(gC (aj s) k).y,false⟩]else []))++(if b2=true then [⟨(gC (aj s) k).x,(gC (aj s) k).y,true⟩]else [])):tfL s h (k+1)=L:=by
 rw[wg hk,e];unfold tfC;rw[h1,h2,List.append_assoc]
theorem IR {l h:List Int} (e:(!aU l||decide ((h.length:Int)≠81))=true):nD l h=false:=by
 rw[Bool.or_eq_true,decide_eq_true_eq]at e
 refine NA ?_
 rcases e with e |e
 ·left;simpa using e
 ·right;omega
theorem Ed {l h:List Int} {k:Nat} (hr:aU l=true) (h2:h.length=81) (hk:¬k<(aj (ag l)).length) (hk2:k≤(aj (ag l)).length) (hc:(cu l&&ct l (tfL (ag l) h k))=true) (e:decide (cj l (tfL (ag l) h k)=h)=true):pI l h=tfL (ag l) h k∧nD l h=true:=by
 have ek:k=(aj (ag l)).length:=by omega
 subst ek
 have q:hts l (jD (ag l) h)=h:=by rw[show hts l (jD (ag l) h)=cj l (jD (ag l) h) from fA hc];exact of_decide_eq_true e
 have q2:=IT hr h2 q
 exact⟨Bm q2,q2⟩
theorem zp {l h:List Int} {k:Nat} (hk:¬k<(aj (ag l)).length) (hk2:k≤(aj (ag l)).length) (hc:(cu l&&ct l (tfL (ag l) h k))=false∨((cu l&&ct l (tfL (ag l) h k))=true∧decide (cj l (tfL (ag l) h k)=h)=false)):nD l h=false:=by
 have ek:k=(aj (ag l)).length:=by omega
 subst ek
 rcases hc with hc |⟨hc,e⟩
 ·exact NC hc
 ·exact NB (by rw[show hts l (jD (ag l) h)=cj l (jD (ag l) h) from fA hc];exact of_decide_eq_false e)
theorem qh:∀ (a b:Int) (c:Bool),Tryz.prog.built 54 [(0,.int .i64 a),(1,.int .i64 b),(2,.bool c)]=some ([.int .i64 a,.int .i64 b,.bool c]:List Value).toArray:=fun _ _ _=>rfl
theorem jp:∀ (a b:Int),Tryz.prog.built 67 [(0,.int .i64 a),(1,.int .i64 b)]=some ([.int .i64 a,.int .i64 b]:List Value).toArray:=fun _ _=>rfl
theorem cK:ce Tryz.prog 67 0=some 0:=by kernel_rfl
theorem cM:ce Tryz.prog 67 1=some 1:=by kernel_rfl
theorem iG:(Tryz.prog.info? 3).map (·.size)=some 1:=by kernel_rfl
theorem Cy:(Tryz.prog.info? 67).map (·.size)=some 2:=by kernel_rfl
theorem lf:TI Tryz.prog 26 true 1:=⟨⟨_,Tryz.underlying26,rfl⟩,by kernel_rfl⟩
theorem bG:TI Tryz.prog 3 false 1:=⟨⟨_,Tryz.underlying3,rfl⟩,by kernel_rfl⟩
theorem vB:TI Tryz.prog 67 true 2:=⟨⟨_,Tryz.underlying67,rfl⟩,by kernel_rfl⟩
theorem dI:Tryz.prog.underlying 24=some (.slice 3):=Tryz.underlying24
theorem ip:Tryz.prog.underlying 27=some (.slice 54):=Tryz.underlying27
theorem vC:Tryz.prog.underlying 63=some (.slice 67):=Tryz.underlying63
theorem iq:ZI Tryz.prog 54 (.agg #[.int .i64 0,.int .i64 0,.bool false]) 3 24:=by unfold ZI;kernel_rfl
theorem Cz:ZI Tryz.prog 67 (.agg #[.int .i64 0,.int .i64 0]) 2 16:=by unfold ZI;kernel_rfl
theorem sd (a b:List Int) (ha:a.length≤4194304) (hb:b.length≤4194304):Fn Tryz.prog 57 [.a (.slv a.length 1 (isl a)),.a (.slv b.length 1 (isl b))] [.val (.bool (decide (a=b)))]:=by
 refine aN (N:=26) Tryz.func57 rfl (by kernel_rfl) rfl (Nat.le_of_ble_eq_true rfl) [7,9,12] (dB rfl) (fun W=> ?_)
 show Wp _ _ _ [kV 0 (V.b (.a (.slv a.length 1 (isl a)))),kV 1 (V.b (.a (.slv b.length 1 (isl b)))),kF 7,kF 9,kF 12]
 refine sq (rg (zk (nl (sq (sq (rg (zm ?_)))))))
 refine z ?_ (h:=fun Z=>lnV Z dI)
 refine zm ?_
 refine z ?_ (h:=fun Z=>lnV Z dI)
 refine z ?_ (h:=fun Z=>ab Z vt vt (iZ rfl))
 refine nl ?_
 refine wi (fun c1=> ?_) (fun c1=> ?_)
 ·skip
  have c1P:=of_decide_eq_true c1
  refine sq (rg (zk (nl (aq ?_))))
  exact VRes.tmp _ _ _ (by exact rfl) (cc (congrArg Value.bool (by exact(sq_l (by omega)).symm)))
 ·skip
  have c1P:=of_decide_eq_false c1
  refine sk (sq (sq (rg (zm ?_))))
  refine z ?_ (h:=fun Z=>lnV Z dI)
  refine z ?_ (h:=fun Z=>mc Z)
  refine nl (bkk ?_)
  refine bf (fun(k:Nat)=>k≤a.length∧∀ i,i<k→gI a i=gI b i) (fun(k:Nat)=>[kV 0 (V.b (.a (.slv a.length 1 (isl a)))),kV 1 (V.b (.a (.slv b.length 1 (isl b)))),kI 12 ((a.length:Nat):Int),kI 13 ((k:Nat):Int),kF 7,kF 9,kF 12]) (fun(k:Nat)=>a.length-k) ((0:Nat)) (by exact⟨Nat.zero_le _,fun i hi=>absurd hi (Nat.not_lt_zero i)⟩) (wkf id (wS<|wS<|wS<|wE (e:=(aO (by rfl)))<|wF<|wF<|wF<|wN)) ?_
  rintro k inv2
  replace inv2:k≤a.length∧∀ i,i<k→gI a i=gI b i:=inv2
  obtain⟨inv2_0,inv2_1⟩:=inv2
  refine sq (rg ?_)
  refine z ?_ (h:=fun Z=>ab Z vt vt (bP rfl))
  refine nl (sq ?_)
  refine wi (fun c3=> ?_) (fun c3=> ?_)
  ·skip
   have c3P:=of_decide_eq_true c3
   refine sk (sq (bkk (sq (rg (zm (za (nl (sq (cg (zdm (zdm ?_)))))))))))
   refine zd ?_ (h:=fun Z=>ixv Z dI iG vt)
   refine zd ?_ (h:=fun Z=>uI Z bG)
   refine zdm (zdm ?_)
   refine zd ?_ (h:=fun Z=>ixv Z dI iG vt)
   refine zd ?_ (h:=fun Z=>uI Z bG)
   refine zd ?_ (h:=fun Z=>ab Z vt vt (iZ rfl))
   refine bJ ?_
   refine wi (fun c4=> ?_) (fun c4=> ?_)
   ·skip
    have c4P:=of_decide_eq_true c4
    refine sq (rg (zk (nl (aq ?_))))
    exact VRes.tmp _ _ _ (by exact rfl) (cc (congrArg Value.bool (by exact(sq_f (k:=k) (by assumption)).symm)))
   ·skip
    have c4P:=of_decide_eq_false c4
    refine sk (rg ?_)
    refine z ?_ (h:=fun Z=>ab Z vt vc rA)
    refine zm (nl ?_)
    exact ar ((k+1)) (by exact⟨by omega,sq_s (by assumption) (by omega)⟩) (by show a.length-(k+1)<a.length-k;omega) (wkf id (wS<|wS<|wS<|wE (e:=(aO (by rfl)))<|wF<|wF<|wF<|wN))
  ·skip
   have c3P:=of_decide_eq_false c3
   refine aJ (sq (rg (zk (nl (aq ?_)))))
   exact VRes.tmp _ _ _ (by exact rfl) (cc (congrArg Value.bool (by exact(sq_t (k:=k) (by omega) (by omega) (by assumption)).symm)))
theorem vY (a:Int):Fn Tryz.prog 22 [.a (.val (.int .i64 a))] [.val (.int .i64 (szW a))]:=by
 refine aN (N:=7) Tryz.func22 rfl (by kernel_rfl) rfl (Nat.le_of_ble_eq_true rfl) [6] (dB rfl) (fun W=> ?_)
 show Wp _ _ _ [kI 0 a,kF 6]
 refine sq (rg (zk (nl (sq (rg (zm (zm ?_)))))))
 refine z ?_ (h:=fun Z=>aK Z vt (r_neg (c:=(IntKind.i64.wrap (-a))) rfl))
 refine z ?_ (h:=fun Z=>zw (c:=(max a (IntKind.i64.wrap (-a)))) Z vt vt (by omega))
 refine za (nl (aq ?_))
 exact VRes.tmp _ _ _ (by exact rfl) (cc (congrArg (Value.int .i64) (by rfl)))
theorem kW (l h:List Int) (hl:l.length≤4194304) (hh:h.length≤4194304):Fn Tryz.prog 31 [.agg [(.slv l.length 1 (isl l):A)],.a (.slv h.length 1 (isl h))] [.row 54 3 (pI l h).length (dsl (pI l h)),.val (.bool (nD l h))]:=by
 have h64:=kx (ag l)
 refine aN (N:=126) Tryz.func31 rfl (by kernel_rfl) rfl (Nat.le_of_ble_eq_true rfl) [2,9,12,16,20,21,23,24,36,60,69,70,78,102,111,112,116,122] (vO rfl rfl (by intro u hu;injection hu with hu;subst hu;rfl)) (fun W=> ?_)
 show Wp _ _ _ [kV 0 (V.b (.agg [(.slv l.length 1 (isl l):A)])),kV 1 (V.b (.a (.slv h.length 1 (isl h)))),kF 2,kF 9,kF 12,kF 16,kF 20,kF 21,kF 23,kF 24,kF 36,kF 60,kF 69,kF 70,kF 78,kF 102,kF 111,kF 112,kF 116,kF 122]
 refine sq (rg ?_)
 refine z ?_ (h:=fun Z=>aM (h:=2) Z xt (by exact ob1 rfl))
 refine zk (zk (nl (sq (sq ?_))))
 refine fj [kB 18 ((!(aU l))||(decide (((h.length:Nat):Int)≠81))),kV 1 (V.b (.a (.slv h.length 1 (isl h)))),kP 2 2 0,kO 2 26 1 true [(.slv l.length 1 (isl l):A)],kF 9,kF 12,kF 16,kF 20,kF 21,kF 23,kF 24,kF 36,kF 60,kF 69,kF 70,kF 78,kF 102,kF 111,kF 112,kF 116,kF 122] ?_ ?_
 ·skip
  rcases Bool.eq_false_or_eq_true ((aU l))with c1 |c1
  ·skip
   have hro:aU l=true:=c1
   refine rg ?_
   refine z ?_ (h:=fun Z=>aa (xs:=[(.slv l.length 1 (isl l):A)]) Z lf rfl (by decide) rfl)
   refine z ?_ (h:=fun Z=>ah Z (df l (by omega)) (ac (ArgV.regv _ _ 1 _) an) (aH (congrArg Value.bool c1)))
   refine z ?_ (h:=fun Z=>aK Z vt (bE (c:=false) rfl))
   refine zm ?_
   refine zg ?_ (h:=fun Z=>ae rfl rfl (mt Z))
   refine zg ?_ (h:=fun Z=>ae rfl rfl (lnV Z dI))
   refine zg ?_ (h:=fun Z=>ae rfl rfl (ab Z vt vc (iZ rfl)))
   refine z ?_ (h:=fun Z=>ao Z vt xt)
   refine nl ?_
   exact⟨rfl,bm ⟨(by simp only[c1];first |done |kernel_rfl),(by repeat(first |exact trivial |refine⟨by kernel_rfl,?_⟩))⟩⟩
  ·skip
   refine rg ?_
   refine z ?_ (h:=fun Z=>aa (xs:=[(.slv l.length 1 (isl l):A)]) Z lf rfl (by decide) rfl)
   refine z ?_ (h:=fun Z=>ah Z (df l (by omega)) (ac (ArgV.regv _ _ 1 _) an) (aH (congrArg Value.bool c1)))
   refine z ?_ (h:=fun Z=>aK Z vt (bE (c:=true) rfl))
   refine zm (zo (zo (zo ?_)))
   refine z ?_ (h:=fun Z=>al Z vt xc)
   refine nl ?_
   exact⟨rfl,bm ⟨(by simp only[c1];first |done |kernel_rfl),(by repeat(first |exact trivial |refine⟨by kernel_rfl,?_⟩))⟩⟩
 refine wi (b:=((!(aU l))||(decide (((h.length:Nat):Int)≠81)))) (fun c2=> ?_) (fun c2=> ?_)
 ·skip
  have c3:=tj c2
  refine sq (rg (zk (zk (nl (aq ?_)))))
  exact⟨VRes.tmp _ _ _ (by exact rfl) (lP (L:=(pI l h)) (by exact zq (IR (by assumption)))),VRes.tmp _ _ _ (by exact rfl) (cc (congrArg Value.bool (by exact(IR (by assumption)).symm)))⟩
 ·skip
  obtain⟨c4,c5⟩:=ly c2
  have c6:(aU l)=true:=by first |(rw[←Bool.not_eq_false'];exact c4) |simpa using c4
  have hro:aU l=true:=c6
  have c5P:=of_decide_eq_false c5
  refine sk (sq (rg ?_))
  refine z ?_ (h:=fun Z=>aa (xs:=[(.slv l.length 1 (isl l):A)]) Z lf rfl (by decide) rfl)
  refine z ?_ (h:=fun Z=>ah Z (cA l (by omega)) (ac (ArgV.regv _ _ 1 _) an) rv)
  refine z ?_ (h:=fun Z=>b0D (h:=21) Z ip iq)
  refine za (za (nl (sq (sq (rg (zm ?_))))))
  refine z ?_ (h:=fun Z=>ah Z (kY (ag l) (by exact bb (by assumption))) (ac (ArgV.v vt) an) (ResV.row _ _ _ _ 23))
  refine z ?_ (h:=fun Z=>lnS Z vC)
  refine z ?_ (h:=fun Z=>mc Z)
  refine nl (bkk ?_)
  refine bf (fun(k:Nat)=>k≤(aj (ag l)).length) (fun(k:Nat)=>[kV 1 (V.b (.a (.slv h.length 1 (isl h)))),kP 2 2 0,kU 6 (((ag l):Nat):Int),kS 7 21 0 ((tfL (ag l) h k).length),kS 23 23 0 ((aj (ag l)).length),kI 24 (((aj (ag l)).length:Nat):Int),kI 25 ((k:Nat):Int),kO 2 26 1 true [(.slv l.length 1 (isl l):A)],kO 21 54 3 true (pl (dsl (tfL (ag l) h k))),kO 23 67 2 true (pl (csl (aj (ag l)))),kF 9,kF 12,kF 16,kF 20,kF 24,kF 36,kF 60,kF 69,kF 70,kF 78,kF 102,kF 111,kF 112,kF 116,kF 122]) (fun(k:Nat)=>(aj (ag l)).length-k) ((0:Nat)) (by exact(Nat.zero_le _:0≤_)) (wkf id (wS<|wS<|wS<|wE (e:=(vsl (by rfl) rfl))<|wS<|wS<|wE (e:=(aO (by rfl)))<|wX<|wO (e:=aG (fun h=>h) (congrArg dsl (by rfl)))<|wP<|by(iterate 15 refine wF ?_);exact wN)) ?_
  rintro k inv7
  replace inv7:k≤(aj (ag l)).length:=inv7
  have invk:=inv7
  have hml:=Ec (s:=ag l) (h:=h) invk
  refine sq (rg ?_)
  refine z ?_ (h:=fun Z=>ab Z vt vt (bP rfl))
  refine nl (sq ?_)
  refine wi (fun c8=> ?_) (fun c8=> ?_)
  ·skip
   have c8P:=of_decide_eq_true c8
   have hkc:=La (s:=ag l) (k:=k) (by omega)
   have hkb:=bz.1 hkc
   refine sk (sq (bkk (sq (rg ?_))))
   refine z ?_ (h:=fun Z=>ix0 Z vC Cy vt (hlt:=(by omega)))
   refine z ?_ (h:=fun Z=>lC Z vB (by omega))
   refine z ?_ (h:=fun Z=>aF (h:=9) (cap:=1) (s:=2) (cells:=[aI 0,aI 0]) Z Cz rfl rfl (by decide))
   refine z ?_ (h:=fun _=>aw (cells:=[aI ((gC (aj (ag l)) k).x),aI ((gC (aj (ag l)) k).y)]) vB xt (by exact rfl) (by decide) (by exact ob1 rfl) (by exact Nat.le_of_ble_eq_true rfl) (by exact rfl))
   refine nl (sq (sq ?_))
   refine fj [kB 62 ((aP (ag l) (⟨((gC (aj (ag l)) k).x+1),(gC (aj (ag l)) k).y⟩:Cel))&&(decide ((szW (sW (gI h (((((gC (aj (ag l)) k).y*9)+(gC (aj (ag l)) k).x)+1).toNat)) (gI h ((((((gC (aj (ag l)) k).y+1)*9)+(gC (aj (ag l)) k).x)+1).toNat))))=3))),kV 1 (V.b (.a (.slv h.length 1 (isl h)))),kP 2 2 0,kU 6 (((ag l):Nat):Int),kS 7 21 0 ((tfL (ag l) h k).length),kP 9 9 0,kS 23 23 0 ((aj (ag l)).length),kI 24 (((aj (ag l)).length:Nat):Int),kI 25 ((k:Nat):Int),kO 2 26 1 true [(.slv l.length 1 (isl l):A)],kO 9 67 2 true [aI ((gC (aj (ag l)) k).x),aI ((gC (aj (ag l)) k).y)],kO 21 54 3 true (pl (dsl (tfL (ag l) h k))),kO 23 67 2 true (pl (csl (aj (ag l)))),kF 12,kF 16,kF 20,kF 24,kF 36,kF 60,kF 69,kF 70,kF 78,kF 102,kF 111,kF 112,kF 116,kF 122] ?_ ?_
   ·skip
    rcases Bool.eq_false_or_eq_true ((aP (ag l) (⟨((gC (aj (ag l)) k).x+1),(gC (aj (ag l)) k).y⟩:Cel)))with c9 |c9
    ·skip
     have hqh:=bz.1 (bN c9)
     refine cg (zdm ?_)
     refine zd ?_ (h:=fun Z=>ak (off':=0) Z cK rfl)
     refine zd ?_ (h:=fun Z=>ai (x:= .val (.int .i64 ((gC (aj (ag l)) k).x))) Z bG (by exact rfl))
     refine zd ?_ (h:=fun Z=>ab Z vt vc (rA (by omega) (by omega)))
     refine zd ?_ (h:=fun Z=>ak (off':=1) Z cM rfl)
     refine zd ?_ (h:=fun Z=>ai (x:= .val (.int .i64 ((gC (aj (ag l)) k).y))) Z bG (by exact rfl))
     refine zd ?_ (h:=fun Z=>bC Z jp vt vt)
     refine zd ?_ (h:=fun Z=>ah Z (bc (ag l) (⟨((gC (aj (ag l)) k).x+1),(gC (aj (ag l)) k).y⟩:Cel) (by exact bb (by assumption))) (ac (ArgV.v vt) (ac (ArgV.va va) an)) (aH (congrArg Value.bool c9)))
     refine zdm ?_
     refine zdg ?_ (h:=fun Z=>ae rfl rfl (mt Z))
     refine zdg ?_ (h:=fun Z=>ae rfl rfl (ak (off':=1) Z cM rfl))
     refine zdg ?_ (h:=fun Z=>ae rfl rfl (ai (x:= .val (.int .i64 ((gC (aj (ag l)) k).y))) Z bG (by exact rfl)))
     refine zdg ?_ (h:=fun Z=>ae rfl rfl (ab Z vt vc (rM (by omega) (by omega))))
     refine zdg ?_ (h:=fun Z=>ae rfl rfl (ak (off':=0) Z cK rfl))
     refine zdg ?_ (h:=fun Z=>ae rfl rfl (ai (x:= .val (.int .i64 ((gC (aj (ag l)) k).x))) Z bG (by exact rfl)))
     refine zdg ?_ (h:=fun Z=>ae rfl rfl (ab Z vt vt (rA (by omega) (by omega))))
     refine zdg ?_ (h:=fun Z=>ae rfl rfl (ab Z vt vc (rA (by omega) (by omega))))
     refine zdg ?_ (h:=fun Z=>ae rfl rfl (ixv (k:=((((gC (aj (ag l)) k).y*9)+(gC (aj (ag l)) k).x)+1).toNat) Z dI iG vt (Int.toNat_of_nonneg (by omega)).symm (by omega)))
     refine zdg ?_ (h:=fun Z=>ae rfl rfl (uI Z bG (by omega)))
     refine zdg ?_ (h:=fun Z=>ae rfl rfl (mt Z))
     refine zdg ?_ (h:=fun Z=>ae rfl rfl (ak (off':=1) Z cM rfl))
     refine zdg ?_ (h:=fun Z=>ae rfl rfl (ai (x:= .val (.int .i64 ((gC (aj (ag l)) k).y))) Z bG (by exact rfl)))
     refine zdg ?_ (h:=fun Z=>ae rfl rfl (ab Z vt vc (rA (by omega) (by omega))))
     refine zdg ?_ (h:=fun Z=>ae rfl rfl (ab Z vt vc (rM (by omega) (by omega))))
     refine zdg ?_ (h:=fun Z=>ae rfl rfl (ak (off':=0) Z cK rfl))
     refine zdg ?_ (h:=fun Z=>ae rfl rfl (ai (x:= .val (.int .i64 ((gC (aj (ag l)) k).x))) Z bG (by exact rfl)))
     refine zdg ?_ (h:=fun Z=>ae rfl rfl (ab Z vt vt (rA (by omega) (by omega))))
     refine zdg ?_ (h:=fun Z=>ae rfl rfl (ab Z vt vc (rA (by omega) (by omega))))
     refine zdg ?_ (h:=fun Z=>ae rfl rfl (ixv (k:=(((((gC (aj (ag l)) k).y+1)*9)+(gC (aj (ag l)) k).x)+1).toNat) Z dI iG vt (Int.toNat_of_nonneg (by omega)).symm (by omega)))
     refine zdg ?_ (h:=fun Z=>ae rfl rfl (uI Z bG (by omega)))
     refine zdg ?_ (h:=fun Z=>ae rfl rfl (ab Z vt vt (ns (c:=(sW (gI h (((((gC (aj (ag l)) k).y*9)+(gC (aj (ag l)) k).x)+1).toNat)) (gI h ((((((gC (aj (ag l)) k).y+1)*9)+(gC (aj (ag l)) k).x)+1).toNat)))) rfl)))
     refine zdg ?_ (h:=fun Z=>ae rfl rfl (ah Z (vY (sW (gI h (((((gC (aj (ag l)) k).y*9)+(gC (aj (ag l)) k).x)+1).toNat)) (gI h ((((((gC (aj (ag l)) k).y+1)*9)+(gC (aj (ag l)) k).x)+1).toNat))) ) (ac (ArgV.v vt) an) rv))
     refine zdg ?_ (h:=fun Z=>ae rfl rfl (ab Z vt vc (cW rfl)))
     refine zd ?_ (h:=fun Z=>al Z vt xt)
     refine bJ ?_
     exact⟨rfl,bm ⟨(by simp only[c9];first |done |kernel_rfl),(by repeat(first |exact trivial |refine⟨by kernel_rfl,?_⟩))⟩⟩
    ·skip
     refine cg (zdm ?_)
     refine zd ?_ (h:=fun Z=>ak (off':=0) Z cK rfl)
     refine zd ?_ (h:=fun Z=>ai (x:= .val (.int .i64 ((gC (aj (ag l)) k).x))) Z bG (by exact rfl))
     refine zd ?_ (h:=fun Z=>ab Z vt vc (rA (by omega) (by omega)))
     refine zd ?_ (h:=fun Z=>ak (off':=1) Z cM rfl)
     refine zd ?_ (h:=fun Z=>ai (x:= .val (.int .i64 ((gC (aj (ag l)) k).y))) Z bG (by exact rfl))
     refine zd ?_ (h:=fun Z=>bC Z jp vt vt)
     refine zd ?_ (h:=fun Z=>ah Z (bc (ag l) (⟨((gC (aj (ag l)) k).x+1),(gC (aj (ag l)) k).y⟩:Cel) (by exact bb (by assumption))) (ac (ArgV.v vt) (ac (ArgV.va va) an)) (aH (congrArg Value.bool c9)))
     refine zdm ?_
     refine zdg ?_ (h:=fun Z=>am rfl rfl (by decide) rfl Z)
     refine zdg ?_ (h:=fun Z=>am rfl rfl (by decide) rfl Z)
     refine zdg ?_ (h:=fun Z=>am rfl rfl (by decide) rfl Z)
     refine zdg ?_ (h:=fun Z=>am rfl rfl (by decide) rfl Z)
     refine zdg ?_ (h:=fun Z=>am rfl rfl (by decide) rfl Z)
     refine zdg ?_ (h:=fun Z=>am rfl rfl (by decide) rfl Z)
     refine zdg ?_ (h:=fun Z=>am rfl rfl (by decide) rfl Z)
     refine zdg ?_ (h:=fun Z=>am rfl rfl (by decide) rfl Z)
     refine zdg ?_ (h:=fun Z=>am rfl rfl (by decide) rfl Z)
     refine zdg ?_ (h:=fun Z=>am rfl rfl (by decide) rfl Z)
     refine zdg ?_ (h:=fun Z=>am rfl rfl (by decide) rfl Z)
     refine zdg ?_ (h:=fun Z=>am rfl rfl (by decide) rfl Z)
     refine zdg ?_ (h:=fun Z=>am rfl rfl (by decide) rfl Z)
     refine zdg ?_ (h:=fun Z=>am rfl rfl (by decide) rfl Z)
     refine zdg ?_ (h:=fun Z=>am rfl rfl (by decide) rfl Z)
     refine zdg ?_ (h:=fun Z=>am rfl rfl (by decide) rfl Z)
     refine zdg ?_ (h:=fun Z=>am rfl rfl (by decide) rfl Z)
     refine zdg ?_ (h:=fun Z=>am rfl rfl (by decide) rfl Z)
     refine zdg ?_ (h:=fun Z=>am rfl rfl (by decide) rfl Z)
     refine zdg ?_ (h:=fun Z=>am rfl rfl (by decide) rfl Z)
     refine zdg ?_ (h:=fun Z=>am rfl rfl (by decide) rfl Z)
     refine zdg ?_ (h:=fun Z=>am rfl rfl (by decide) rfl Z)
     refine zdg ?_ (h:=fun Z=>am rfl rfl (by decide) rfl Z)
     refine zdg ?_ (h:=fun Z=>am rfl rfl (by decide) rfl Z)
     refine zd ?_ (h:=fun Z=>ao Z vt xc)
     refine bJ ?_
     exact⟨rfl,bm ⟨(by simp only[c9];first |done |kernel_rfl),(by repeat(first |exact trivial |refine⟨by kernel_rfl,?_⟩))⟩⟩
   refine wi (b:=((aP (ag l) (⟨((gC (aj (ag l)) k).x+1),(gC (aj (ag l)) k).y⟩:Cel))&&(decide ((szW (sW (gI h (((((gC (aj (ag l)) k).y*9)+(gC (aj (ag l)) k).x)+1).toNat)) (gI h ((((((gC (aj (ag l)) k).y+1)*9)+(gC (aj (ag l)) k).x)+1).toNat))))=3)))) (fun c10=> ?_) (fun c10=> ?_)
   ·skip
    have hb1:=tf_h c10
    obtain⟨c11,c12⟩:=fw c10
    have hqh:=bz.1 (bN c11)
    have c12P:=of_decide_eq_true c12
    refine rg (zm ?_)
    refine z ?_ (h:=fun Z=>ak (off':=0) Z cK rfl)
    refine z ?_ (h:=fun Z=>ai (x:= .val (.int .i64 ((gC (aj (ag l)) k).x))) Z bG (by exact rfl))
    refine z ?_ (h:=fun Z=>ak (off':=1) Z cM rfl)
    refine z ?_ (h:=fun Z=>ai (x:= .val (.int .i64 ((gC (aj (ag l)) k).y))) Z bG (by exact rfl))
    refine z ?_ (h:=fun Z=>bD Z qh vt vt vc)
    refine z ?_ (h:=fun Z=>aR (h:=69) (xs:=dsl ([(⟨(gC (aj (ag l)) k).x,(gC (aj (ag l)) k).y,false⟩:Dom)]:List Dom)) Z ip iq (.cons va OpVs.nil) (by decide) (by decide) (by kernel_rfl) rfl)
    refine z ?_ (h:=fun Z=>aD_ (h2:=70) (L3:=((tfL (ag l) h k)++[(⟨(gC (aj (ag l)) k).x,(gC (aj (ag l)) k).y,false⟩:Dom)])) Z ip iq (by exact rfl) rfl (by exact rfl) (by(simp;omega)))
    refine za (nl (sq ?_))
    refine fj [kB 104 ((aP (ag l) (⟨(gC (aj (ag l)) k).x,((gC (aj (ag l)) k).y+1)⟩:Cel))&&(decide ((szW (sW (gI h (((((gC (aj (ag l)) k).y+1)*9)+(gC (aj (ag l)) k).x).toNat)) (gI h ((((((gC (aj (ag l)) k).y+1)*9)+(gC (aj (ag l)) k).x)+1).toNat))))=3))),kV 1 (V.b (.a (.slv h.length 1 (isl h)))),kP 2 2 0,kU 6 (((ag l):Nat):Int),kS 7 70 0 (((tfL (ag l) h k)++[(⟨(gC (aj (ag l)) k).x,(gC (aj (ag l)) k).y,false⟩:Dom)]).length),kP 9 9 0,kS 23 23 0 ((aj (ag l)).length),kI 24 (((aj (ag l)).length:Nat):Int),kI 25 ((k:Nat):Int),kO 2 26 1 true [(.slv l.length 1 (isl l):A)],kO 9 67 2 true [aI ((gC (aj (ag l)) k).x),aI ((gC (aj (ag l)) k).y)],kO 23 67 2 true (pl (csl (aj (ag l)))),kO 69 54 3 true (pl (dsl [(⟨(gC (aj (ag l)) k).x,(gC (aj (ag l)) k).y,false⟩:Dom)])),kO 70 54 3 true (pl (dsl ((tfL (ag l) h k)++[(⟨(gC (aj (ag l)) k).x,(gC (aj (ag l)) k).y,false⟩:Dom)]))),kF 12,kF 16,kF 20,kF 24,kF 36,kF 60,kF 78,kF 102,kF 111,kF 112,kF 116,kF 122] ?_ ?_
    ·skip
     rcases Bool.eq_false_or_eq_true ((aP (ag l) (⟨(gC (aj (ag l)) k).x,((gC (aj (ag l)) k).y+1)⟩:Cel)))with c13 |c13
     ·skip
      have hqh:=bz.1 (bN c13)
      refine cg (zdm ?_)
      refine zd ?_ (h:=fun Z=>ak (off':=0) Z cK rfl)
      refine zd ?_ (h:=fun Z=>ai (x:= .val (.int .i64 ((gC (aj (ag l)) k).x))) Z bG (by exact rfl))
      refine zd ?_ (h:=fun Z=>ak (off':=1) Z cM rfl)
      refine zd ?_ (h:=fun Z=>ai (x:= .val (.int .i64 ((gC (aj (ag l)) k).y))) Z bG (by exact rfl))
      refine zd ?_ (h:=fun Z=>ab Z vt vc (rA (by omega) (by omega)))
      refine zd ?_ (h:=fun Z=>bC Z jp vt vt)
      refine zd ?_ (h:=fun Z=>ah Z (bc (ag l) (⟨(gC (aj (ag l)) k).x,((gC (aj (ag l)) k).y+1)⟩:Cel) (by exact bb (by assumption))) (ac (ArgV.v vt) (ac (ArgV.va va) an)) (aH (congrArg Value.bool c13)))
      refine zdm ?_
      refine zdg ?_ (h:=fun Z=>ae rfl rfl (mt Z))
      refine zdg ?_ (h:=fun Z=>ae rfl rfl (ak (off':=1) Z cM rfl))
      refine zdg ?_ (h:=fun Z=>ae rfl rfl (ai (x:= .val (.int .i64 ((gC (aj (ag l)) k).y))) Z bG (by exact rfl)))
      refine zdg ?_ (h:=fun Z=>ae rfl rfl (ab Z vt vc (rA (by omega) (by omega))))
      refine zdg ?_ (h:=fun Z=>ae rfl rfl (ab Z vt vc (rM (by omega) (by omega))))
      refine zdg ?_ (h:=fun Z=>ae rfl rfl (ak (off':=0) Z cK rfl))
      refine zdg ?_ (h:=fun Z=>ae rfl rfl (ai (x:= .val (.int .i64 ((gC (aj (ag l)) k).x))) Z bG (by exact rfl)))
      refine zdg ?_ (h:=fun Z=>ae rfl rfl (ab Z vt vt (rA (by omega) (by omega))))
      refine zdg ?_ (h:=fun Z=>ae rfl rfl (ixv (k:=((((gC (aj (ag l)) k).y+1)*9)+(gC (aj (ag l)) k).x).toNat) Z dI iG vt (Int.toNat_of_nonneg (by omega)).symm (by omega)))
      refine zdg ?_ (h:=fun Z=>ae rfl rfl (uI Z bG (by omega)))
      refine zdg ?_ (h:=fun Z=>ae rfl rfl (mt Z))
      refine zdg ?_ (h:=fun Z=>ae rfl rfl (ak (off':=1) Z cM rfl))
      refine zdg ?_ (h:=fun Z=>ae rfl rfl (ai (x:= .val (.int .i64 ((gC (aj (ag l)) k).y))) Z bG (by exact rfl)))
      refine zdg ?_ (h:=fun Z=>ae rfl rfl (ab Z vt vc (rA (by omega) (by omega))))
      refine zdg ?_ (h:=fun Z=>ae rfl rfl (ab Z vt vc (rM (by omega) (by omega))))
      refine zdg ?_ (h:=fun Z=>ae rfl rfl (ak (off':=0) Z cK rfl))
      refine zdg ?_ (h:=fun Z=>ae rfl rfl (ai (x:= .val (.int .i64 ((gC (aj (ag l)) k).x))) Z bG (by exact rfl)))
      refine zdg ?_ (h:=fun Z=>ae rfl rfl (ab Z vt vt (rA (by omega) (by omega))))
      refine zdg ?_ (h:=fun Z=>ae rfl rfl (ab Z vt vc (rA (by omega) (by omega))))
      refine zdg ?_ (h:=fun Z=>ae rfl rfl (ixv (k:=(((((gC (aj (ag l)) k).y+1)*9)+(gC (aj (ag l)) k).x)+1).toNat) Z dI iG vt (Int.toNat_of_nonneg (by omega)).symm (by omega)))
      refine zdg ?_ (h:=fun Z=>ae rfl rfl (uI Z bG (by omega)))
      refine zdg ?_ (h:=fun Z=>ae rfl rfl (ab Z vt vt (ns (c:=(sW (gI h (((((gC (aj (ag l)) k).y+1)*9)+(gC (aj (ag l)) k).x).toNat)) (gI h ((((((gC (aj (ag l)) k).y+1)*9)+(gC (aj (ag l)) k).x)+1).toNat)))) rfl)))
      refine zdg ?_ (h:=fun Z=>ae rfl rfl (ah Z (vY (sW (gI h (((((gC (aj (ag l)) k).y+1)*9)+(gC (aj (ag l)) k).x).toNat)) (gI h ((((((gC (aj (ag l)) k).y+1)*9)+(gC (aj (ag l)) k).x)+1).toNat))) ) (ac (ArgV.v vt) an) rv))
      refine zdg ?_ (h:=fun Z=>ae rfl rfl (ab Z vt vc (cW rfl)))
      refine zd ?_ (h:=fun Z=>al Z vt xt)
      refine bJ ?_
      exact⟨rfl,bm ⟨(by simp only[c13];first |done |kernel_rfl),(by repeat(first |exact trivial |refine⟨by kernel_rfl,?_⟩))⟩⟩
     ·skip
      refine cg (zdm ?_)
      refine zd ?_ (h:=fun Z=>ak (off':=0) Z cK rfl)
      refine zd ?_ (h:=fun Z=>ai (x:= .val (.int .i64 ((gC (aj (ag l)) k).x))) Z bG (by exact rfl))
      refine zd ?_ (h:=fun Z=>ak (off':=1) Z cM rfl)
      refine zd ?_ (h:=fun Z=>ai (x:= .val (.int .i64 ((gC (aj (ag l)) k).y))) Z bG (by exact rfl))
      refine zd ?_ (h:=fun Z=>ab Z vt vc (rA (by omega) (by omega)))
      refine zd ?_ (h:=fun Z=>bC Z jp vt vt)
      refine zd ?_ (h:=fun Z=>ah Z (bc (ag l) (⟨(gC (aj (ag l)) k).x,((gC (aj (ag l)) k).y+1)⟩:Cel) (by exact bb (by assumption))) (ac (ArgV.v vt) (ac (ArgV.va va) an)) (aH (congrArg Value.bool c13)))
      refine zdm ?_
      refine zdg ?_ (h:=fun Z=>am rfl rfl (by decide) rfl Z)
      refine zdg ?_ (h:=fun Z=>am rfl rfl (by decide) rfl Z)
      refine zdg ?_ (h:=fun Z=>am rfl rfl (by decide) rfl Z)
      refine zdg ?_ (h:=fun Z=>am rfl rfl (by decide) rfl Z)
      refine zdg ?_ (h:=fun Z=>am rfl rfl (by decide) rfl Z)
      refine zdg ?_ (h:=fun Z=>am rfl rfl (by decide) rfl Z)
      refine zdg ?_ (h:=fun Z=>am rfl rfl (by decide) rfl Z)
      refine zdg ?_ (h:=fun Z=>am rfl rfl (by decide) rfl Z)
      refine zdg ?_ (h:=fun Z=>am rfl rfl (by decide) rfl Z)
      refine zdg ?_ (h:=fun Z=>am rfl rfl (by decide) rfl Z)
      refine zdg ?_ (h:=fun Z=>am rfl rfl (by decide) rfl Z)
      refine zdg ?_ (h:=fun Z=>am rfl rfl (by decide) rfl Z)
      refine zdg ?_ (h:=fun Z=>am rfl rfl (by decide) rfl Z)
      refine zdg ?_ (h:=fun Z=>am rfl rfl (by decide) rfl Z)
      refine zdg ?_ (h:=fun Z=>am rfl rfl (by decide) rfl Z)
      refine zdg ?_ (h:=fun Z=>am rfl rfl (by decide) rfl Z)
      refine zdg ?_ (h:=fun Z=>am rfl rfl (by decide) rfl Z)
      refine zdg ?_ (h:=fun Z=>am rfl rfl (by decide) rfl Z)
      refine zdg ?_ (h:=fun Z=>am rfl rfl (by decide) rfl Z)
      refine zdg ?_ (h:=fun Z=>am rfl rfl (by decide) rfl Z)
      refine zdg ?_ (h:=fun Z=>am rfl rfl (by decide) rfl Z)
      refine zdg ?_ (h:=fun Z=>am rfl rfl (by decide) rfl Z)
      refine zdg ?_ (h:=fun Z=>am rfl rfl (by decide) rfl Z)
      refine zdg ?_ (h:=fun Z=>am rfl rfl (by decide) rfl Z)
      refine zd ?_ (h:=fun Z=>ao Z vt xc)
      refine bJ ?_
      exact⟨rfl,bm ⟨(by simp only[c13];first |done |kernel_rfl),(by repeat(first |exact trivial |refine⟨by kernel_rfl,?_⟩))⟩⟩
    refine wi (b:=((aP (ag l) (⟨(gC (aj (ag l)) k).x,((gC (aj (ag l)) k).y+1)⟩:Cel))&&(decide ((szW (sW (gI h (((((gC (aj (ag l)) k).y+1)*9)+(gC (aj (ag l)) k).x).toNat)) (gI h ((((((gC (aj (ag l)) k).y+1)*9)+(gC (aj (ag l)) k).x)+1).toNat))))=3)))) (fun c14=> ?_) (fun c14=> ?_)
    ·skip
     have hb2:=tf_v c14
     obtain⟨c15,c16⟩:=fw c14
     have hqh:=bz.1 (bN c15)
     have c16P:=of_decide_eq_true c16
     refine rg (zm ?_)
     refine z ?_ (h:=fun Z=>ak (off':=0) Z cK rfl)
     refine z ?_ (h:=fun Z=>ai (x:= .val (.int .i64 ((gC (aj (ag l)) k).x))) Z bG (by exact rfl))
     refine z ?_ (h:=fun Z=>ak (off':=1) Z cM rfl)
     refine z ?_ (h:=fun Z=>ai (x:= .val (.int .i64 ((gC (aj (ag l)) k).y))) Z bG (by exact rfl))
     refine z ?_ (h:=fun Z=>bD Z qh vt vt vc)
     refine z ?_ (h:=fun Z=>aR (h:=111) (xs:=dsl ([(⟨(gC (aj (ag l)) k).x,(gC (aj (ag l)) k).y,true⟩:Dom)]:List Dom)) Z ip iq (.cons va OpVs.nil) (by decide) (by decide) (by kernel_rfl) rfl)
     refine z ?_ (h:=fun Z=>aD_ (h2:=112) (L3:=(((tfL (ag l) h k)++[(⟨(gC (aj (ag l)) k).x,(gC (aj (ag l)) k).y,false⟩:Dom)])++[(⟨(gC (aj (ag l)) k).x,(gC (aj (ag l)) k).y,true⟩:Dom)])) Z ip iq (by exact rfl) rfl (by exact rfl) (by(simp;omega)))
     refine za (nl (rg ?_))
     refine z ?_ (h:=fun Z=>ab Z vt vc (rA (by omega) (by omega)))
     refine zm (nl ?_)
     exact ar ((k+1)) (by show _≤_;omega) (by show(aj (ag l)).length-(k+1)<(aj (ag l)).length-k;omega) (wkf (bn [(21,112)]) (wS<|wS<|wS<|wE (e:=(vsl (by(exact congrArg List.length (by first |rfl |omega |exact(tfs (by omega) hb1 hb2 (by simp)).symm |exact tfs (by omega) hb1 hb2 (by simp)))) rfl))<|wS<|wS<|wE (e:=(aO (by rfl)))<|wX<|wO (e:=aG (fun h=>h) (congrArg dsl (by exact tfs (by omega) hb1 hb2 (by simp))))<|wP<|by(iterate 15 refine wF ?_);exact wN))
    ·skip
     have hb2:=tf_v c14
     have c17:=lM c14
     refine sk (rg ?_)
     refine z ?_ (h:=fun Z=>ab Z vt vc (rA (by omega) (by omega)))
     refine zm (nl ?_)
     exact ar ((k+1)) (by show _≤_;omega) (by show(aj (ag l)).length-(k+1)<(aj (ag l)).length-k;omega) (wkf (bn [(21,70)]) (wS<|wS<|wS<|wE (e:=(vsl (by(exact congrArg List.length (by first |rfl |omega |exact(tfs (by omega) hb1 hb2 (by simp)).symm |exact tfs (by omega) hb1 hb2 (by simp)))) rfl))<|wS<|wS<|wE (e:=(aO (by rfl)))<|wX<|wO (e:=aG (fun h=>h) (congrArg dsl (by exact tfs (by omega) hb1 hb2 (by simp))))<|wP<|by(iterate 15 refine wF ?_);exact wN))
   ·skip
    have hb1:=tf_h c10
    have c18:=lM c10
    refine sk (sq ?_)
    refine fj [kB 104 ((aP (ag l) (⟨(gC (aj (ag l)) k).x,((gC (aj (ag l)) k).y+1)⟩:Cel))&&(decide ((szW (sW (gI h (((((gC (aj (ag l)) k).y+1)*9)+(gC (aj (ag l)) k).x).toNat)) (gI h ((((((gC (aj (ag l)) k).y+1)*9)+(gC (aj (ag l)) k).x)+1).toNat))))=3))),kV 1 (V.b (.a (.slv h.length 1 (isl h)))),kP 2 2 0,kU 6 (((ag l):Nat):Int),kS 7 21 0 ((tfL (ag l) h k).length),kP 9 9 0,kS 23 23 0 ((aj (ag l)).length),kI 24 (((aj (ag l)).length:Nat):Int),kI 25 ((k:Nat):Int),kO 2 26 1 true [(.slv l.length 1 (isl l):A)],kO 9 67 2 true [aI ((gC (aj (ag l)) k).x),aI ((gC (aj (ag l)) k).y)],kO 21 54 3 true (pl (dsl (tfL (ag l) h k))),kO 23 67 2 true (pl (csl (aj (ag l)))),kF 12,kF 16,kF 20,kF 24,kF 36,kF 60,kF 69,kF 70,kF 78,kF 102,kF 111,kF 112,kF 116,kF 122] ?_ ?_
    ·skip
     rcases Bool.eq_false_or_eq_true ((aP (ag l) (⟨(gC (aj (ag l)) k).x,((gC (aj (ag l)) k).y+1)⟩:Cel)))with c19 |c19
     ·skip
      have hqh:=bz.1 (bN c19)
      refine cg (zdm ?_)
      refine zd ?_ (h:=fun Z=>ak (off':=0) Z cK rfl)
      refine zd ?_ (h:=fun Z=>ai (x:= .val (.int .i64 ((gC (aj (ag l)) k).x))) Z bG (by exact rfl))
      refine zd ?_ (h:=fun Z=>ak (off':=1) Z cM rfl)
      refine zd ?_ (h:=fun Z=>ai (x:= .val (.int .i64 ((gC (aj (ag l)) k).y))) Z bG (by exact rfl))
      refine zd ?_ (h:=fun Z=>ab Z vt vc (rA (by omega) (by omega)))
      refine zd ?_ (h:=fun Z=>bC Z jp vt vt)
      refine zd ?_ (h:=fun Z=>ah Z (bc (ag l) (⟨(gC (aj (ag l)) k).x,((gC (aj (ag l)) k).y+1)⟩:Cel) (by exact bb (by assumption))) (ac (ArgV.v vt) (ac (ArgV.va va) an)) (aH (congrArg Value.bool c19)))
      refine zdm ?_
      refine zdg ?_ (h:=fun Z=>ae rfl rfl (mt Z))
      refine zdg ?_ (h:=fun Z=>ae rfl rfl (ak (off':=1) Z cM rfl))
      refine zdg ?_ (h:=fun Z=>ae rfl rfl (ai (x:= .val (.int .i64 ((gC (aj (ag l)) k).y))) Z bG (by exact rfl)))
      refine zdg ?_ (h:=fun Z=>ae rfl rfl (ab Z vt vc (rA (by omega) (by omega))))
      refine zdg ?_ (h:=fun Z=>ae rfl rfl (ab Z vt vc (rM (by omega) (by omega))))
      refine zdg ?_ (h:=fun Z=>ae rfl rfl (ak (off':=0) Z cK rfl))
      refine zdg ?_ (h:=fun Z=>ae rfl rfl (ai (x:= .val (.int .i64 ((gC (aj (ag l)) k).x))) Z bG (by exact rfl)))
      refine zdg ?_ (h:=fun Z=>ae rfl rfl (ab Z vt vt (rA (by omega) (by omega))))
      refine zdg ?_ (h:=fun Z=>ae rfl rfl (ixv (k:=((((gC (aj (ag l)) k).y+1)*9)+(gC (aj (ag l)) k).x).toNat) Z dI iG vt (Int.toNat_of_nonneg (by omega)).symm (by omega)))
      refine zdg ?_ (h:=fun Z=>ae rfl rfl (uI Z bG (by omega)))
      refine zdg ?_ (h:=fun Z=>ae rfl rfl (mt Z))
      refine zdg ?_ (h:=fun Z=>ae rfl rfl (ak (off':=1) Z cM rfl))
      refine zdg ?_ (h:=fun Z=>ae rfl rfl (ai (x:= .val (.int .i64 ((gC (aj (ag l)) k).y))) Z bG (by exact rfl)))
      refine zdg ?_ (h:=fun Z=>ae rfl rfl (ab Z vt vc (rA (by omega) (by omega))))
      refine zdg ?_ (h:=fun Z=>ae rfl rfl (ab Z vt vc (rM (by omega) (by omega))))
      refine zdg ?_ (h:=fun Z=>ae rfl rfl (ak (off':=0) Z cK rfl))
      refine zdg ?_ (h:=fun Z=>ae rfl rfl (ai (x:= .val (.int .i64 ((gC (aj (ag l)) k).x))) Z bG (by exact rfl)))
      refine zdg ?_ (h:=fun Z=>ae rfl rfl (ab Z vt vt (rA (by omega) (by omega))))
      refine zdg ?_ (h:=fun Z=>ae rfl rfl (ab Z vt vc (rA (by omega) (by omega))))
      refine zdg ?_ (h:=fun Z=>ae rfl rfl (ixv (k:=(((((gC (aj (ag l)) k).y+1)*9)+(gC (aj (ag l)) k).x)+1).toNat) Z dI iG vt (Int.toNat_of_nonneg (by omega)).symm (by omega)))
      refine zdg ?_ (h:=fun Z=>ae rfl rfl (uI Z bG (by omega)))
      refine zdg ?_ (h:=fun Z=>ae rfl rfl (ab Z vt vt (ns (c:=(sW (gI h (((((gC (aj (ag l)) k).y+1)*9)+(gC (aj (ag l)) k).x).toNat)) (gI h ((((((gC (aj (ag l)) k).y+1)*9)+(gC (aj (ag l)) k).x)+1).toNat)))) rfl)))
      refine zdg ?_ (h:=fun Z=>ae rfl rfl (ah Z (vY (sW (gI h (((((gC (aj (ag l)) k).y+1)*9)+(gC (aj (ag l)) k).x).toNat)) (gI h ((((((gC (aj (ag l)) k).y+1)*9)+(gC (aj (ag l)) k).x)+1).toNat))) ) (ac (ArgV.v vt) an) rv))
      refine zdg ?_ (h:=fun Z=>ae rfl rfl (ab Z vt vc (cW rfl)))
      refine zd ?_ (h:=fun Z=>al Z vt xt)
      refine bJ ?_
      exact⟨rfl,bm ⟨(by simp only[c19];first |done |kernel_rfl),(by repeat(first |exact trivial |refine⟨by kernel_rfl,?_⟩))⟩⟩
     ·skip
      refine cg (zdm ?_)
      refine zd ?_ (h:=fun Z=>ak (off':=0) Z cK rfl)
      refine zd ?_ (h:=fun Z=>ai (x:= .val (.int .i64 ((gC (aj (ag l)) k).x))) Z bG (by exact rfl))
      refine zd ?_ (h:=fun Z=>ak (off':=1) Z cM rfl)
      refine zd ?_ (h:=fun Z=>ai (x:= .val (.int .i64 ((gC (aj (ag l)) k).y))) Z bG (by exact rfl))
      refine zd ?_ (h:=fun Z=>ab Z vt vc (rA (by omega) (by omega)))
      refine zd ?_ (h:=fun Z=>bC Z jp vt vt)
      refine zd ?_ (h:=fun Z=>ah Z (bc (ag l) (⟨(gC (aj (ag l)) k).x,((gC (aj (ag l)) k).y+1)⟩:Cel) (by exact bb (by assumption))) (ac (ArgV.v vt) (ac (ArgV.va va) an)) (aH (congrArg Value.bool c19)))
      refine zdm ?_
      refine zdg ?_ (h:=fun Z=>am rfl rfl (by decide) rfl Z)
      refine zdg ?_ (h:=fun Z=>am rfl rfl (by decide) rfl Z)
      refine zdg ?_ (h:=fun Z=>am rfl rfl (by decide) rfl Z)
      refine zdg ?_ (h:=fun Z=>am rfl rfl (by decide) rfl Z)
      refine zdg ?_ (h:=fun Z=>am rfl rfl (by decide) rfl Z)
      refine zdg ?_ (h:=fun Z=>am rfl rfl (by decide) rfl Z)
      refine zdg ?_ (h:=fun Z=>am rfl rfl (by decide) rfl Z)
      refine zdg ?_ (h:=fun Z=>am rfl rfl (by decide) rfl Z)
      refine zdg ?_ (h:=fun Z=>am rfl rfl (by decide) rfl Z)
      refine zdg ?_ (h:=fun Z=>am rfl rfl (by decide) rfl Z)
      refine zdg ?_ (h:=fun Z=>am rfl rfl (by decide) rfl Z)
      refine zdg ?_ (h:=fun Z=>am rfl rfl (by decide) rfl Z)
      refine zdg ?_ (h:=fun Z=>am rfl rfl (by decide) rfl Z)
      refine zdg ?_ (h:=fun Z=>am rfl rfl (by decide) rfl Z)
      refine zdg ?_ (h:=fun Z=>am rfl rfl (by decide) rfl Z)
      refine zdg ?_ (h:=fun Z=>am rfl rfl (by decide) rfl Z)
      refine zdg ?_ (h:=fun Z=>am rfl rfl (by decide) rfl Z)
      refine zdg ?_ (h:=fun Z=>am rfl rfl (by decide) rfl Z)
      refine zdg ?_ (h:=fun Z=>am rfl rfl (by decide) rfl Z)
      refine zdg ?_ (h:=fun Z=>am rfl rfl (by decide) rfl Z)
      refine zdg ?_ (h:=fun Z=>am rfl rfl (by decide) rfl Z)
      refine zdg ?_ (h:=fun Z=>am rfl rfl (by decide) rfl Z)
      refine zdg ?_ (h:=fun Z=>am rfl rfl (by decide) rfl Z)
      refine zdg ?_ (h:=fun Z=>am rfl rfl (by decide) rfl Z)
      refine zd ?_ (h:=fun Z=>ao Z vt xc)
      refine bJ ?_
      exact⟨rfl,bm ⟨(by simp only[c19];first |done |kernel_rfl),(by repeat(first |exact trivial |refine⟨by kernel_rfl,?_⟩))⟩⟩
    refine wi (b:=((aP (ag l) (⟨(gC (aj (ag l)) k).x,((gC (aj (ag l)) k).y+1)⟩:Cel))&&(decide ((szW (sW (gI h (((((gC (aj (ag l)) k).y+1)*9)+(gC (aj (ag l)) k).x).toNat)) (gI h ((((((gC (aj (ag l)) k).y+1)*9)+(gC (aj (ag l)) k).x)+1).toNat))))=3)))) (fun c20=> ?_) (fun c20=> ?_)
    ·skip
     have hb2:=tf_v c20
     obtain⟨c21,c22⟩:=fw c20
     have hqh:=bz.1 (bN c21)
     have c22P:=of_decide_eq_true c22
     refine rg (zm ?_)
     refine z ?_ (h:=fun Z=>ak (off':=0) Z cK rfl)
     refine z ?_ (h:=fun Z=>ai (x:= .val (.int .i64 ((gC (aj (ag l)) k).x))) Z bG (by exact rfl))
     refine z ?_ (h:=fun Z=>ak (off':=1) Z cM rfl)
     refine z ?_ (h:=fun Z=>ai (x:= .val (.int .i64 ((gC (aj (ag l)) k).y))) Z bG (by exact rfl))
     refine z ?_ (h:=fun Z=>bD Z qh vt vt vc)
     refine z ?_ (h:=fun Z=>aR (h:=111) (xs:=dsl ([(⟨(gC (aj (ag l)) k).x,(gC (aj (ag l)) k).y,true⟩:Dom)]:List Dom)) Z ip iq (.cons va OpVs.nil) (by decide) (by decide) (by kernel_rfl) rfl)
     refine z ?_ (h:=fun Z=>aD_ (h2:=112) (L3:=((tfL (ag l) h k)++[(⟨(gC (aj (ag l)) k).x,(gC (aj (ag l)) k).y,true⟩:Dom)])) Z ip iq (by exact rfl) rfl (by exact rfl) (by(simp;omega)))
     refine za (nl (rg ?_))
     refine z ?_ (h:=fun Z=>ab Z vt vc (rA (by omega) (by omega)))
     refine zm (nl ?_)
     exact ar ((k+1)) (by show _≤_;omega) (by show(aj (ag l)).length-(k+1)<(aj (ag l)).length-k;omega) (wkf (bn [(21,112)]) (wS<|wS<|wS<|wE (e:=(vsl (by(exact congrArg List.length (by first |rfl |omega |exact(tfs (by omega) hb1 hb2 (by simp)).symm |exact tfs (by omega) hb1 hb2 (by simp)))) rfl))<|wS<|wS<|wE (e:=(aO (by rfl)))<|wX<|wO (e:=aG (fun h=>h) (congrArg dsl (by exact tfs (by omega) hb1 hb2 (by simp))))<|wP<|by(iterate 15 refine wF ?_);exact wN))
    ·skip
     have hb2:=tf_v c20
     have c23:=lM c20
     refine sk (rg ?_)
     refine z ?_ (h:=fun Z=>ab Z vt vc (rA (by omega) (by omega)))
     refine zm (nl ?_)
     exact ar ((k+1)) (by show _≤_;omega) (by show(aj (ag l)).length-(k+1)<(aj (ag l)).length-k;omega) (wkf id (wS<|wS<|wS<|wE (e:=(vsl (by(exact congrArg List.length (by first |rfl |omega |exact(tfs (by omega) hb1 hb2 (by simp)).symm |exact tfs (by omega) hb1 hb2 (by simp)))) rfl))<|wS<|wS<|wE (e:=(aO (by rfl)))<|wX<|wO (e:=aG (fun h=>h) (congrArg dsl (by exact tfs (by omega) hb1 hb2 (by simp))))<|wP<|by(iterate 15 refine wF ?_);exact wN))
  ·skip
   have c8P:=of_decide_eq_false c8
   refine aJ (sq ?_)
   rcases Bool.eq_false_or_eq_true ((cu l&&ct l (tfL (ag l) h k)))with c24 |c24
   ·skip
    refine rg ?_
    refine z ?_ (h:=fun Z=>aa (xs:=[(.slv l.length 1 (isl l):A)]) Z lf rfl (by decide) rfl)
    refine zm ?_
    refine z ?_ (h:=fun Z=>ah Z (fa l (tfL (ag l) h k) (by omega) (by omega) (by omega)) (ac (ArgV.regv _ _ 1 _) (ac (bR (by exact bQ _)) an)) (ResV.row _ _ _ _ 116))
    refine za (nl (sq (sq (rg (zm ?_)))))
    refine z ?_ (h:=fun Z=>Ez Z dI (by(rw[cO];omega)))
    refine zm ?_
    refine zg ?_ (h:=fun Z=>ae rfl rfl (mt Z))
    refine zg ?_ (h:=fun Z=>ae rfl rfl (mt Z))
    refine zg ?_ (h:=fun Z=>ae rfl rfl (ah Z (sd (cj l (tfL (ag l) h k)) h (by(rw[cO];omega)) (by omega)) (ac (bR (by exact fi _)) (ac (ArgV.slv _ _ _ _) an)) rv))
    refine zg ?_ (h:=fun Z=>ae rfl rfl (aK Z vt (bE rfl)))
    refine z ?_ (h:=fun Z=>ao Z vt xt)
    refine nl ?_
    refine wi (b:=(!(decide ((cj l (tfL (ag l) h k))=h)))) (fun c25=> ?_) (fun c25=> ?_)
    ·skip
     have c26:decide ((cj l (tfL (ag l) h k))=h)=false:=by first |(rw[←Bool.not_eq_true'];exact c25) |simpa using c25
     have c26P:=of_decide_eq_false c26
     refine sq (rg (zk (zk (nl (aq ?_)))))
     exact⟨VRes.tmp _ _ _ (by exact rfl) (lP (L:=(pI l h)) (by exact zq (zp (k:=k) (by omega) (by omega) (.inr ⟨by assumption,by simp_all⟩)))),VRes.tmp _ _ _ (by exact rfl) (cc (congrArg Value.bool (by exact(zp (k:=k) (by omega) (by omega) (.inr ⟨by assumption,by simp_all⟩)).symm)))⟩
    ·skip
     have c27:decide ((cj l (tfL (ag l) h k))=h)=true:=by first |(rw[←Bool.not_eq_false'];exact c25) |simpa using c25
     have c27P:=of_decide_eq_true c27
     refine sk (sq (rg (zm (za (zk (nl (aq ?_)))))))
     exact⟨VRes.tmp _ _ _ (by exact rfl) (lQ (h:=21) (L:=(tfL (ag l) h k)) (by kernel_rfl) (by exact(Ed (k:=k) hro (by omega) (by omega) (by omega) (by assumption) (by simp_all)).1.symm) (by rfl)),VRes.tmp _ _ _ (by exact rfl) (cc (congrArg Value.bool (by exact(Ed (k:=k) hro (by omega) (by omega) (by omega) (by assumption) (by simp_all)).2.symm)))⟩
   ·skip
    refine rg ?_
    refine z ?_ (h:=fun Z=>aa (xs:=[(.slv l.length 1 (isl l):A)]) Z lf rfl (by decide) rfl)
    refine zm ?_
    refine z ?_ (h:=fun Z=>ah Z (iL l (tfL (ag l) h k) (by omega) (by omega) (by omega)) (ac (ArgV.regv _ _ 1 _) (ac (bR (by exact bQ _)) an)) rv)
    refine za (nl (sq (sq (rg (zm ?_)))))
    refine z ?_ (h:=fun Z=>ab Z vt vc (DJ dI rfl))
    refine zm (zo (zo (zo (zo ?_))))
    refine z ?_ (h:=fun Z=>al Z vt xc)
    refine nl (wt (sq (rg (zk (zk (nl (aq ?_)))))))
    exact⟨VRes.tmp _ _ _ (by exact rfl) (lP (L:=(pI l h)) (by exact zq (zp (k:=k) (by omega) (by omega) (.inl (by assumption))))),VRes.tmp _ _ _ (by exact rfl) (cc (congrArg Value.bool (by exact(zp (k:=k) (by omega) (by omega) (.inl (by assumption))).symm)))⟩
end Cl
end Go.Proofs.YtonlghbbdcddoaaGreat
