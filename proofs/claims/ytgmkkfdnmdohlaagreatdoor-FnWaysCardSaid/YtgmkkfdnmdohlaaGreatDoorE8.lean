/- Walks. -/
import Derived.Test.YtgmkkfdnmdohlaaGreatDoorE7
import Derived.Test.YtgmkkfdnmdohlaaGreatDoorE8p
import Derived.Test.YtgmkkfdnmdohlaaGreatDoorClB
set_option linter.unusedSimpArgs false
set_option linter.unusedVariables false
set_option maxHeartbeats 4000000
set_option maxRecDepth 100000
namespace Go.Proofs.YtgmkkfdnmdohlaaGreatDoor
namespace Cl
open Go.ChangeShapes Go.WideShapes Go.ChangeAt Go.RowKit
def xY (L:List Int) (n:Int):Int:=if L.any (fun x=>decide (x=n))then((L.findIdx (fun x=>decide (x=n)):Nat):Int)else -1
theorem ER {L:List Int} {n:Int} {k:Nat} (hk:k<L.length) (h:∀ i,i<k→gI L i≠n) (he:gI L k=n):(k:Int)=xY L n:=by
 unfold xY
 have h1:L.any (fun x=>decide (x=n))=true:=List.any_eq_true.2 ⟨L[k],List.getElem_mem hk,by rw[←dh hk];exact decide_eq_true he⟩
 rw[if_pos h1]
 have:L.findIdx (fun x=>decide (x=n))=k:=by
  rw[List.findIdx_eq hk]
  refine⟨by rw[←dh hk];exact decide_eq_true he,fun j hj=> ?_⟩
  have:=h j hj
  rw[dh (by omega)]at this
  exact decide_eq_false this
 rw[this]
theorem HE {L:List Int} {n:Int} {k:Nat} (hk:¬k<L.length) (h:∀ i,i<k→gI L i≠n):(-1:Int)=xY L n:=by
 unfold xY
 rw[if_neg]
 intro e
 obtain⟨x,hx,hq⟩:=List.any_eq_true.1 e
 obtain⟨j,hj,rfl⟩:=List.getElem_of_mem hx
 refine h j (by omega) ?_
 rw[dh hj];exact of_decide_eq_true hq
theorem EP {L:List Int} {n:Int} (h:n∉L):decide (xY L n<0)=true:=by
 unfold xY
 rw[if_neg]
 ·exact decide_eq_true (by decide)
 ·intro e
  obtain⟨x,hx,hq⟩:=List.any_eq_true.1 e
  exact h (of_decide_eq_true hq▸hx)
theorem Ja {L:List Int} {n:Int} {k:Nat} (h:∀ i,i<k→gI L i≠n) (h2:gI L k≠n):∀ i,i<k+1→gI L i≠n:=by
 intro i hi
 rcases Nat.lt_or_ge i k with h3 |h3
 ·exact h i h3
 ·rw[show i=k by omega];exact h2
structure PutI (L:List Int) (n:Int) (k:Nat) (b:Bool) (o:List Int):Prop where
 t:b=true→(∃ x∈L.take k,n≤x)∧o=ik (L.take k) n
 f:b=false→(∀ x∈L.take k,¬n≤x)∧o=L.take k
theorem PutI.zero (L:List Int) (n:Int):PutI L n 0 false []:=⟨fun h=>(by cases h),fun _=>⟨by simp,by simp⟩⟩
theorem PutI.len {L:List Int} {n:Int} {k:Nat} {b:Bool} {o:List Int} (h:PutI L n k b o):o.length≤k+1:=by
 cases b
 ·rw[(h.f rfl).2,List.length_take];omega
 ·rw[(h.t rfl).2,EZ,List.length_take];omega
theorem PutI.on {L:List Int} {n:Int} {k:Nat} {b:Bool} {o:List Int} (h:PutI L n k b o) (hk:k<L.length) (hb:b=true):PutI L n (k+1) true (o++[gI L k]):=by
 obtain⟨h1,h2⟩:=h.t hb
 refine⟨fun _=>⟨?_,?_⟩,fun h=>by cases h⟩
 ·obtain⟨x,hx,hn⟩:=h1
  exact⟨x,by rw[hU hk];simp [hx],hn⟩
 ·rw[h2,hU hk,EY _ h1]
theorem PutI.off {L:List Int} {n:Int} {k:Nat} {b:Bool} {o:List Int} (h:PutI L n k b o) (hk:k<L.length) (hb:b=false) (hn:¬n≤gI L k):PutI L n (k+1) false (o++[gI L k]):=by
 obtain⟨h1,h2⟩:=h.f hb
 refine⟨fun h=>(by cases h),fun _=>⟨fun x hx=> ?_,by rw[h2,hU hk]⟩⟩
 rw[hU hk]at hx
 rcases List.mem_append.1 hx with hx |hx
 ·exact h1 x hx
 ·simp at hx;subst hx;exact hn
theorem PutI.now {L:List Int} {n:Int} {k:Nat} {b:Bool} {o:List Int} (h:PutI L n k b o) (hk:k<L.length) (hb:b=false) (hn:n≤gI L k):PutI L n (k+1) true ((o++[n])++[gI L k]):=by
  obtain⟨h1,h2⟩:=h.f hb
  refine⟨fun _=>⟨⟨gI L k,by rw[hU hk];simp,hn⟩,?_⟩,fun h=>by cases h⟩
  rw[h2,hU hk]
  have:∀ M:List Int,(∀ x∈M,¬n≤x)→ik (M++[gI L k]) n=M++[n]++[gI L k]:=by
    intro M
    induction M with
    | nil=>intro _;unfold ik;rw[List.nil_append];simp only;rw[if_neg (by omega)];rfl
    | cons a M ih=>
      intro hM
      rw[List.cons_append];unfold ik
      rw[if_pos (by have:=hM a (by simp);omega),ih (fun x hx=>hM x (by simp [hx]))];rfl
  exact(this _ h1).symm
theorem PutI.end_t {L:List Int} {n:Int} {k:Nat} {b:Bool} {o:List Int} (h:PutI L n k b o) (hk:¬k<L.length) (hb:b=true):o=ik L n:=by rw[(h.t hb).2,List.take_of_length_le (by omega)]
theorem PutI.end_f {L:List Int} {n:Int} {k:Nat} {b:Bool} {o:List Int} (h:PutI L n k b o) (hk:¬k<L.length) (hb:b=false):o++[n]=ik L n:=by
 obtain⟨h1,h2⟩:=h.f hb
 rw[List.take_of_length_le (by omega)]at h1 h2
 rw[h2,BU h1]
def mtK (a:List (List Dom)) (q:List Dom) (j:Nat):List Int:=((List.range j).filter (fun i=>decide (gLd a i=q))).map (fun i:Nat=>(i:Int))
def mtc (a:List (List Dom)) (q:List Dom):List Int:=mtK a q a.length
theorem Ho {a:List (List Dom)} {q:List Dom} {j:Nat} (h:gLd a j=q):mtK a q (j+1)=mtK a q j++[(j:Int)]:=by
 unfold mtK;rw[List.range_succ,List.filter_append,List.map_append,List.filter_cons,if_pos (decide_eq_true h)];rfl
theorem Kd {a:List (List Dom)} {q:List Dom} {j:Nat} (h:gLd a j≠q):mtK a q (j+1)=mtK a q j:=by
 unfold mtK;rw[List.range_succ,List.filter_append,List.map_append,List.filter_cons,if_neg (by rw[decide_eq_true_eq];exact h)];simp
def lkR (a:List (List Dom)) (P:List Dom):List Int:=(aM P).flatMap (fun c=>mtc a (aR P c))
theorem iT (P:List Dom):(aM P).length≤64:=Ai P 64
def lkM (a:List (List Dom)):List (List Int):=a.map (lkR a)
theorem oV (a:List (List Dom)):(lkM a).length=a.length:=by simp [lkM]
theorem wl {a:List (List Dom)} {k:Nat} (h:k<a.length):gLs (lkM a) k=lkR a (gLd a k):=by
 rw[zc (by rw[oV];exact h),cI h];simp [lkM]
theorem Ap {a:List (List Dom)} (hn:a.Nodup) {i j:Nat} (hi:i<a.length) (hj:j<a.length) (h:gLd a i=gLd a j):i=j:=by
 rw[cI hi,cI hj]at h
 exact(List.getElem_inj hn).1 h
theorem Hn {a:List (List Dom)} (hn:a.Nodup) {k:Nat} (hk:k<a.length):∀ j,j≤a.length→mtK a (gLd a k) j=if k<j then [(k:Int)]else []:=by
  intro j
  induction j with
  | zero=>intro _;rfl
  | succ j ih=>
    intro hj
    by_cases e:k=j
    · subst e
      rw[Ho rfl,ih (by omega),if_neg (by omega),if_pos (by omega)];rfl
    · rw[Kd (fun h=>e (Ap hn hk (by omega) h.symm)),ih (by omega)]
      split<;>split<;>first |rfl |(exfalso;omega)
theorem cC {a:List (List Dom)} {q:List Dom} (h:q∈a):0≤ixT a q:=by
 unfold ixT;rw[if_pos (List.any_eq_true.2 ⟨q,h,decide_eq_true rfl⟩)];omega
theorem Hp {a:List (List Dom)} (hn:a.Nodup) {q:List Dom} (h:q∈a):mtc a q=[ixT a q]:=by
 have h0:=cC h
 obtain⟨h1,h2⟩:=jV h0
 have:=Hn hn h1 a.length (Nat.le_refl _)
 rw[h2,if_pos h1]at this
 unfold mtc;rw[this];congr 1;omega
def nbI (a:List (List Dom)) (P:List Dom):List Int:=(aM P).map (fun c=>ixT a (aR P c))
theorem gq (a:List (List Dom)) (P:List Dom):(nbI a P).length=(aM P).length:=by simp [nbI]
theorem zl {a:List (List Dom)} {P:List Dom} {k:Nat} (h:k<(aM P).length):gI (nbI a P) k=ixT a (aR P (gC (aM P) k)):=by
 rw[dh (by rw[gq];exact h),gk h];simp [nbI]
theorem iR {P:List Dom} {c:Cel} (h:c∈aM P):cS P c.x c.y=true:=by
 unfold aM flN at h
 obtain⟨i,hi,rfl⟩:=List.mem_map.1 h
 exact(List.mem_filter.1 hi).2
theorem xu (P:List Dom):(aM P).Nodup:=by
 unfold aM flN
 refine List.Pairwise.map _ (fun i j (h:i≠j) e=>h ?_) ((List.nodup_range).filter _)
 unfold gi at e
 simp only[Cel.mk.injEq]at e
 omega
structure FlipA (s:Nat) (a:List (List Dom)):Prop where
 nd:a.Nodup
 ti:∀ P∈a,TilS s P
 cl:∀ Q,(∃ P,P∈a)→TilS s Q→Q∈a
theorem FlipA.of (l:List Int):FlipA (ao l) (ltR l):=⟨uO l,fun _ h=>(Ax h).2,fun _ ⟨_,h⟩ hQ=>JX h hQ⟩
theorem FlipA.flip {s:Nat} {a:List (List Dom)} (h:FlipA s a) {P:List Dom} (hP:P∈a) {c:Cel} (hc:c∈aM P):aR P c∈a:=h.cl _ ⟨P,hP⟩ (gJ (h.ti P hP) (iR hc))
theorem zi {s:Nat} {a:List (List Dom)} (h:FlipA s a) {P:List Dom} (hP:P∈a):lkR a P=nbI a P:=by
  unfold lkR nbI
  have:∀ L:List Cel,(∀ c∈L,c∈aM P)→L.flatMap (fun c=>mtc a (aR P c))=L.map (fun c=>ixT a (aR P c)):=by
    intro L
    induction L with
    | nil=>intro _;rfl
    | cons c L ih=>
      intro hL
      rw[List.flatMap_cons,List.map_cons,ih (fun x hx=>hL x (by simp [hx])),Hp h.nd (h.flip hP (hL c (by simp)))];rfl
  exact this _ fun c hc=>hc
theorem EA {s:Nat} {a:List (List Dom)} (h:FlipA s a) {P:List Dom} (hP:P∈a):(nbI a P).Nodup:=by
 unfold nbI
 refine List.pairwise_map.2 ((xu P).imp_of_mem fun {c c'} hc hc' hne e=>hne ?_)
 have h1:=(jV (cC (h.flip hP hc))).2
 have h2:=(jV (cC (h.flip hP hc'))).2
 rw[e,h2]at h1
 exact(DQ (h.ti P hP) (iR hc') (iR hc) h1).symm
theorem Kf {s:Nat} {a:List (List Dom)} (h:FlipA s a) {P:List Dom} (hP:P∈a) {k:Nat} (hk:k<(aM P).length):decide (xY (srt ((nbI a P).take k)) (ixT a (aR P (gC (aM P) k)))<0)=true:=by
 refine EP fun hm=> ?_
 have hm:=(my _).mem_iff.1 hm
 rw[←zl hk]at hm
 have hk':k<(nbI a P).length:=by rw[gq];exact hk
 obtain⟨j,hj,e⟩:=List.getElem_of_mem hm
 rw[List.length_take]at hj
 rw[List.getElem_take,dh hk']at e
 have:=(List.getElem_inj (EA h hP)).1 e
 omega
def fnR (l:List Int) (q:List Dom):List Int:=if ixT (ltR l) q<0 then []else srt (nbI (ltR l) q)
theorem JL {l:List Int} {q:List Dom} (h:ixT (ltR l) q<0):fnR l q=[]:=by unfold fnR;rw[if_pos h]
theorem Aj {l:List Int} {q:List Dom} (h:¬ixT (ltR l) q<0):fnR l q=srt (nbI (ltR l) q):=by unfold fnR;rw[if_neg h]
theorem GR (l:List Int) (q:List Dom):(fnR l q).length≤64:=by
 unfold fnR;split
 ·simp
 ·rw[wJ,gq];exact iT q
theorem uK {l:List Int} {q:List Dom} (h:¬ixT (ltR l) q<0):q∈ltR l∧gLd (ltR l) (ixT (ltR l) q).toNat=q∧(ixT (ltR l) q).toNat<(ltR l).length:=by
 obtain⟨h1,h2⟩:=jV (a:=ltR l) (q:=q) (by omega)
 exact⟨by rw[cI h1]at h2;exact h2▸List.getElem_mem h1,h2,h1⟩
theorem yh:(Tryz.prog.info? 3).map (·.size)=some 1:=by kernel_rfl
theorem yi:TI Tryz.prog 3 false 1:=⟨⟨_,Tryz.underlying3,rfl⟩,by kernel_rfl⟩
theorem db:Tryz.prog.underlying 22=some (.slice 3):=Tryz.underlying22
theorem eZ:ZI Tryz.prog 3 (.int .i64 0) 1 8:=by unfold ZI;kernel_rfl
theorem qR (L:List Int) (n:Int) (hl:L.length≤4194000):Fn Tryz.prog 58 [.a (.slv L.length 1 (isl L)),.a (.val (.int .i64 n))] [.row 3 1 (ik L n).length (isl (ik L n))]:=by
 refine bm (N:=39) Tryz.func58 rfl (by kernel_rfl) rfl (Nat.le_of_ble_eq_true rfl) [9,11,25,26,29,30,36,37] (dN rfl) (fun W=> ?_)
 show Wp _ _ _ [kV 0 (V.b (.a (.slv L.length 1 (isl L)))),kI 1 n,kF 9,kF 11,kF 25,kF 26,kF 29,kF 30,kF 36,kF 37]
 refine sq (rg (zk (nl (sq (rg ?_)))))
 refine z ?_ (h:=fun Z=>b0I (h:=9) Z db eZ)
 refine za (zk (nl (sq (sq (rg (zm ?_))))))
 refine z ?_ (h:=fun Z=>lnV Z db)
 refine z ?_ (h:=fun Z=>mc Z)
 refine nl (bkk ?_)
 refine bg (fun((k,b,o):Nat × Bool × (List Int))=>k≤L.length∧PutI L n k b o) (fun((k,b,o):Nat × Bool × (List Int))=>[kI 1 n,kS 5 9 0 o.length,kB 6 b,kV 10 (V.b (.a (.slv L.length 1 (isl L)))),kI 11 ((L.length:Nat):Int),kI 12 ((k:Nat):Int),kO 9 3 1 true (pl (isl o)),kF 11,kF 25,kF 26,kF 29,kF 30,kF 36,kF 37]) (fun((k,b,o):Nat × Bool × (List Int))=>L.length-k) ((0:Nat),(false:Bool),([]:List Int)) (by exact⟨Nat.zero_le _,PutI.zero L n⟩) (wkf id (wS<|wE (e:=(vsl (by rfl) rfl))<|wS<|wS<|wS<|wE (e:=(be (by rfl)))<|wP<|wF<|wF<|wF<|wF<|wF<|wF<|wF<|wN)) ?_
 rintro⟨k,b,o⟩ inv1
 replace inv1:k≤L.length∧PutI L n k b o:=inv1
 obtain⟨hk,hP⟩:=inv1
 have hol:=hP.len
 refine sq (rg ?_)
 refine z ?_ (h:=fun Z=>aa Z vt vt (bA rfl))
 refine nl (sq ?_)
 refine wi (fun c2=> ?_) (fun c2=> ?_)
 ·skip
  have c2P:=of_decide_eq_true c2
  refine sk (sq (bkk (sq (rg ?_))))
  refine z ?_ (h:=fun Z=>ixv Z db yh vt)
  refine z ?_ (h:=fun Z=>uI Z yi)
  refine za (nl (sq (sq ?_)))
  rcases Bool.eq_false_or_eq_true (b)with c3 |c3
  ·skip
   rw[c3]
   refine rg (zm ?_)
   refine z ?_ (h:=fun Z=>bn Z vt (bS (c:=false) rfl))
   refine zm (zo (zo (zo ?_)))
   refine z ?_ (h:=fun Z=>ar Z vt xc)
   refine nl (wf (sk (rg (zm (zm ?_)))))
   refine z ?_ (h:=fun Z=>aP (h:=29) (xs:=isl ([(gI L k)]:List Int)) Z db eZ (.cons vt OpVs.nil) (by decide) (by decide) (by kernel_rfl) rfl)
   refine z ?_ (h:=fun Z=>aI_ (h2:=30) (L3:=(o++[(gI L k)])) Z db eZ (by exact rfl) rfl (by exact rfl) (by(simp;omega)))
   refine za (nl (rg ?_))
   refine z ?_ (h:=fun Z=>aa Z vt vc rA)
   refine zm (nl ?_)
   exact aA ((k+1),true,(o++[(gI L k)])) (by refine⟨by omega,?_⟩;first |exact hP.on (by omega) (by assumption) |exact hP.now (by omega) (by assumption) (by omega) |exact hP.off (by omega) (by assumption) (by omega)) (by show L.length-(k+1)<L.length-k;omega) (wkf (aX [(9,30)]) (wS<|wS<|wS<|wS<|wS<|wE (e:=(be (by rfl)))<|wP<|wF<|wF<|wF<|wF<|wF<|wF<|wF<|wN))
  ·skip
   rw[c3]
   refine rg (zm ?_)
   refine z ?_ (h:=fun Z=>bn Z vt (bS (c:=true) rfl))
   refine zm ?_
   refine zg ?_ (h:=fun Z=>ae rfl rfl (mt Z))
   refine zg ?_ (h:=fun Z=>ae rfl rfl (mt Z))
   refine zg ?_ (h:=fun Z=>ae rfl rfl (aa Z vt vt (qZ rfl)))
   refine z ?_ (h:=fun Z=>au Z vt xt)
   refine nl ?_
   refine wi (fun c4=> ?_) (fun c4=> ?_)
   ·skip
    have c4P:=of_decide_eq_true c4
    refine sq (rg (zm (zm ?_)))
    refine z ?_ (h:=fun Z=>aP (h:=25) (xs:=isl ([n]:List Int)) Z db eZ (.cons vt OpVs.nil) (by decide) (by decide) (by kernel_rfl) rfl)
    refine z ?_ (h:=fun Z=>aI_ (h2:=26) (L3:=(o++[n])) Z db eZ (by exact rfl) rfl (by exact rfl) (by(simp;omega)))
    refine za (nl (rg (zk (nl (rg (zm (zm ?_)))))))
    refine z ?_ (h:=fun Z=>aP (h:=29) (xs:=isl ([(gI L k)]:List Int)) Z db eZ (.cons vt OpVs.nil) (by decide) (by decide) (by kernel_rfl) rfl)
    refine z ?_ (h:=fun Z=>aI_ (h2:=30) (L3:=((o++[n])++[(gI L k)])) Z db eZ (by exact rfl) rfl (by exact rfl) (by(simp;omega)))
    refine za (nl (rg ?_))
    refine z ?_ (h:=fun Z=>aa Z vt vc rA)
    refine zm (nl ?_)
    exact aA ((k+1),true,((o++[n])++[(gI L k)])) (by refine⟨by omega,?_⟩;first |exact hP.on (by omega) (by assumption) |exact hP.now (by omega) (by assumption) (by omega) |exact hP.off (by omega) (by assumption) (by omega)) (by show L.length-(k+1)<L.length-k;omega) (wkf (aX [(9,30)]) (wS<|wS<|wS<|wS<|wS<|wE (e:=(be (by rfl)))<|wP<|wF<|wF<|wF<|wF<|wF<|wF<|wF<|wN))
   ·skip
    have c4P:=of_decide_eq_false c4
    refine sk (rg (zm (zm ?_)))
    refine z ?_ (h:=fun Z=>aP (h:=29) (xs:=isl ([(gI L k)]:List Int)) Z db eZ (.cons vt OpVs.nil) (by decide) (by decide) (by kernel_rfl) rfl)
    refine z ?_ (h:=fun Z=>aI_ (h2:=30) (L3:=(o++[(gI L k)])) Z db eZ (by exact rfl) rfl (by exact rfl) (by(simp;omega)))
    refine za (nl (rg ?_))
    refine z ?_ (h:=fun Z=>aa Z vt vc rA)
    refine zm (nl ?_)
    exact aA ((k+1),false,(o++[(gI L k)])) (by refine⟨by omega,?_⟩;first |exact hP.on (by omega) (by assumption) |exact hP.now (by omega) (by assumption) (by omega) |exact hP.off (by omega) (by assumption) (by omega)) (by show L.length-(k+1)<L.length-k;omega) (wkf (aX [(9,30)]) (wS<|wS<|wS<|wS<|wS<|wE (e:=(be (by rfl)))<|wP<|wF<|wF<|wF<|wF<|wF<|wF<|wF<|wN))
 ·skip
  have c2P:=of_decide_eq_false c2
  refine aU (sq (sq (rg (zm ?_))))
  refine z ?_ (h:=fun Z=>bn Z vt (bS rfl))
  refine nl ?_
  refine wi (b:=(!b)) (fun c5=> ?_) (fun c5=> ?_)
  ·skip
   have c6:b=false:=by first |(rw[←Bool.not_eq_true'];exact c5) |simpa using c5
   refine rg (zm (zm ?_))
   refine z ?_ (h:=fun Z=>aP (h:=36) (xs:=isl ([n]:List Int)) Z db eZ (.cons vt OpVs.nil) (by decide) (by decide) (by kernel_rfl) rfl)
   refine z ?_ (h:=fun Z=>aI_ (h2:=37) (L3:=(o++[n])) Z db eZ (by exact rfl) rfl (by exact rfl) (by(simp;omega)))
   refine za (nl (sq (rg (zm (za (nl (aC ?_)))))))
   exact VRes.tmp _ _ _ (by exact rfl) (pT (h:=37) (L:=(o++[n])) (by kernel_rfl) (by exact hP.end_f (by omega) (by assumption)) (by rfl))
  ·skip
   have c7:b=true:=by first |(rw[←Bool.not_eq_false'];exact c5) |simpa using c5
   refine sk (sq (rg (zm (za (nl (aC ?_))))))
   exact VRes.tmp _ _ _ (by exact rfl) (pT (h:=9) (L:=o) (by kernel_rfl) (by exact hP.end_t (by omega) (by assumption)) (by rfl))
theorem rm (L:List Int) (n:Int) (hl:L.length≤4194304):Fn Tryz.prog 57 [.a (.slv L.length 1 (isl L)),.a (.val (.int .i64 n))] [.val (.int .i64 (xY L n))]:=by
 refine bm (N:=19) Tryz.func57 rfl (by kernel_rfl) rfl (Nat.le_of_ble_eq_true rfl) [8] (dN rfl) (fun W=> ?_)
 show Wp _ _ _ [kV 0 (V.b (.a (.slv L.length 1 (isl L)))),kI 1 n,kF 8]
 refine sq (rg (zk (nl (sq (sq (rg (zm ?_)))))))
 refine z ?_ (h:=fun Z=>lnV Z db)
 refine z ?_ (h:=fun Z=>mc Z)
 refine nl (bkk ?_)
 refine bg (fun(k:Nat)=>k≤L.length∧∀ i,i<k→gI L i≠n) (fun(k:Nat)=>[kI 1 n,kV 7 (V.b (.a (.slv L.length 1 (isl L)))),kI 8 ((L.length:Nat):Int),kI 9 ((k:Nat):Int),kF 8]) (fun(k:Nat)=>L.length-k) ((0:Nat)) (by exact⟨Nat.zero_le _,fun i hi=>absurd hi (Nat.not_lt_zero i)⟩) (wkf id (wS<|wS<|wS<|wE (e:=(be (by rfl)))<|wF<|wN)) ?_
 rintro k inv1
 replace inv1:k≤L.length∧∀ i,i<k→gI L i≠n:=inv1
 obtain⟨inv1_0,inv1_1⟩:=inv1
 refine sq (rg ?_)
 refine z ?_ (h:=fun Z=>aa Z vt vt (bA rfl))
 refine nl (sq ?_)
 refine wi (fun c2=> ?_) (fun c2=> ?_)
 ·skip
  have c2P:=of_decide_eq_true c2
  refine sk (sq (bkk (sq (rg (zm ?_)))))
  refine z ?_ (h:=fun Z=>ixv Z db yh vt)
  refine z ?_ (h:=fun Z=>uI Z yi)
  refine za (za (nl (sq (rg (zm (zm ?_))))))
  refine z ?_ (h:=fun Z=>aa Z vt vt (ct rfl))
  refine nl ?_
  refine wi (fun c3=> ?_) (fun c3=> ?_)
  ·skip
   have c3P:=of_decide_eq_true c3
   refine sq (rg (zm (za (nl (aC ?_)))))
   exact VRes.tmp _ _ _ (by exact rfl) (ce (congrArg (Value.int .i64) (by exact ER (k:=k) (by omega) (by assumption) (by omega))))
  ·skip
   have c3P:=of_decide_eq_false c3
   refine sk (rg ?_)
   refine z ?_ (h:=fun Z=>aa Z vt vc rA)
   refine zm (nl ?_)
   exact aA ((k+1)) (by exact⟨by omega,Ja (by assumption) (by omega)⟩) (by show L.length-(k+1)<L.length-k;omega) (wkf id (wS<|wS<|wS<|wE (e:=(be (by rfl)))<|wF<|wN))
 ·skip
  have c2P:=of_decide_eq_false c2
  refine aU (sq (rg (zk (nl (aC ?_)))))
  exact VRes.tmp _ _ _ (by exact rfl) (ce (congrArg (Value.int .i64) (by exact HE (k:=k) (by omega) (by assumption))))
end Cl
end Go.Proofs.YtgmkkfdnmdohlaaGreatDoor
