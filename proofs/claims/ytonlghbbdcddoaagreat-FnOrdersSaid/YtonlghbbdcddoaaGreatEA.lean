/- Parts put together: E1, E2, E3, E6. -/
import Derived.Test.YtonlghbbdcddoaaGreatCM
import Derived.Test.YtonlghbbdcddoaaGreatClB
import Derived.Test.YtonlghbbdcddoaaGreatC3w
set_option maxHeartbeats 4000000
set_option maxRecDepth 100000
namespace Go.Proofs.YtonlghbbdcddoaaGreat
namespace Cl
open Go.ChangeShapes Go.WideShapes Go.ChangeAt Go.RowKit
theorem gB_ft {k:Nat} (h:k<2):gB [false,true] k=decide (((k:Nat):Int)=1):=by
 match k,h with
 | 0,_=>rfl
 | 1,_=>rfl
def tlb (n s:Nat) (b:Bool):List (List Dom):=if fc s (dmn (au s) b)=true then(tls n (andn s (domS (dmn (au s) b)))).map (dmn (au s) b:: ·)else []
def tlk (n s:Nat):Nat→List (List Dom)
 | 0=>[]
 | k+1=>tlk n s k++tlb n s (decide (((k:Nat):Int)=1))
theorem rB {n s:Nat} (h:s≠0):tls (n+1) s=tlk n s 2:=by rw[tls,if_neg h];rfl
theorem mv {n s:Nat} (h:s=0):tls (n+1) s=[[]]:=by rw[tls,if_pos h]
theorem Ja {n s k:Nat} {d:Dom} (hd:d=dmn (au s) (decide (((k:Nat):Int)=1))) (h:fc s d=false):tlk n s (k+1)=tlk n s k:=by
 show tlk n s k++tlb n s _=_
 unfold tlb;rw[←hd,h];simp
theorem Ek {n s k:Nat} {d:Dom} (hd:d=dmn (au s) (decide (((k:Nat):Int)=1))) (h:fc s d=true):tlk n s (k+1)=tlk n s k++(tls n (andn s (domS d))).map (d:: ·):=by
  show tlk n s k++tlb n s _=_
  unfold tlb;rw[←hd,if_pos h]
theorem CM {n s k:Nat} (h0:s≠0) (hk:k≤2):(tlk n s k).length≤(tls (n+1) s).length:=by
 rw[rB h0]
 match k,hk with
 | 0,_=>exact Nat.zero_le _
 | 1,_=>show _≤(tlk n s 1++_).length;rw[List.length_append];omega
 | 2,_=>exact Nat.le_refl _
theorem IZ {n s k:Nat} (h0:s≠0) (hk:k≤2) (h:(tls (n+1) s).length≤(tlk n s k).length):tlk n s k=tls (n+1) s:=by
  rw[rB h0]at h⊢
  match k,hk,h with
  | 0,_,h=>exact(List.eq_nil_of_length_eq_zero (Nat.le_zero.1 h)).symm
  | 1,_,h=>
    have e:tlk n s 2=tlk n s 1++tlb n s (decide (((1:Nat):Int)=1)):=rfl
    rw[e,List.length_append]at h
    rw[e,List.eq_nil_of_length_eq_zero (l:=tlb n s (decide (((1:Nat):Int)=1))) (by omega),List.append_nil]
  | 2,_,_=>rfl
theorem gZ {n s k:Nat} {L:List (List Dom)} {P:List Dom} {d:Dom} (hd:d=dmn (au s) (decide (((k:Nat):Int)=1))) (h:fc s d=true):(L++(tlk n s k).map (P++ ·))++(tls n (andn s (domS d))).map ((P++[d])++ ·)=L++(tlk n s (k+1)).map (P++ ·):=by
  rw[Ek hd h,List.map_append,List.map_map,List.append_assoc]
  congr 2
  apply List.map_congr_left
  intro x _;show(P++[d])++x=P++(d::x);rw[List.append_assoc];rfl
theorem jK {n s k:Nat} {L:List (List Dom)} {P:List Dom} {d:Dom} (hd:d=dmn (au s) (decide (((k:Nat):Int)=1))) (h:fc s d=false):L++(tlk n s k).map (P++ ·)=L++(tlk n s (k+1)).map (P++ ·):=by rw[Ja hd h]
theorem IX {n s k:Nat} {L:List (List Dom)} {P:List Dom} (h0:s≠0) (hk:k≤2) (hk2:¬k<2):L++(tlk n s k).map (P++ ·)=L++(tls (n+1) s).map (P++ ·):=by
  rw[rB h0,show k=2 by omega]
theorem Ej {n s:Nat} {L:List (List Dom)} {P:List Dom} (h0:s=0):L++[P]=L++(tls (n+1) s).map (P++ ·):=by rw[mv h0];simp
theorem IY {n s k:Nat} {d:Dom} (hd:d=dmn (au s) (decide (((k:Nat):Int)=1))) (h:fc s d=true) (h0:s≠0) (hk:k<2):(tlk n s k).length+(tls n (andn s (domS d))).length≤(tls (n+1) s).length:=by
 have:=CM (n:=n) h0 (show k+1≤2 by omega)
 rw[Ek hd h,List.length_append,List.length_map]at this;exact this
theorem Dg {s:Nat} {d:Dom} (h:okD d=false):fc s d=false:=by unfold fc;rw[h];rfl
theorem JG {s:Nat} {d:Dom} (h:¬(((s&&&domS d:Nat):Int)=((domS d:Nat):Int))):fc s d=false:=by
 unfold fc;rw[decide_eq_false (fun e=>h (by rw[e]))];simp
theorem JH {s:Nat} {d:Dom} (h1:okD d=true) (h:((s&&&domS d:Nat):Int)=((domS d:Nat):Int)):fc s d=true:=by
 unfold fc;rw[h1,decide_eq_true (Int.ofNat.inj h)];rfl
theorem FP {s:Nat} (hlt:s<18446744073709551616) (h0:s≠0):gC (aj s) 0=cN (au s)∧0<(aj s).length:=by
 have hf:=dr hlt h0
 have hm:cN (au s)∈aj s:=dh.2 (by unfold aP;rw[fk hf.1,dF hf.1,hf.2];rfl)
 have hpos:=List.length_pos_of_mem hm
 refine⟨?_,hpos⟩
 have h1:=dh.1 (kR hpos)
 obtain⟨j,hj,e⟩:=List.getElem_of_mem hm
 rw[←jO hj]at e
 have hi:idx (gC (aj s) 0)=au s:=by
  rcases Nat.eq_zero_or_pos j with rfl |hp
  ·rw[e,dF hf.1]
  ·have:=jX (s:=s) hp hj
   rw[e,dF hf.1]at this
   have hb:=ig (s:=s) this
   unfold aP at h1;rw[hb]at h1;simp at h1
 have h2:=bN h1
 rw[←gx h2 (fk hf.1) (by rw[hi,dF hf.1])]
theorem qU {l:List Int} {P:List Dom} (ho:aU l=true):lft l P<18446744073709551616:=dQ (bb ho)
theorem Kj (l:List Int):lft l []=ag l:=by unfold lft;exact wV _ []
theorem Hv {l:List Int} {P:List Dom} {d:Dom} (hd:okD d=true):lft l (P++[d])=andn (lft l P) (domS d):=by
 unfold lft;rw[CR];congr 1
 unfold dl;rw[List.foldl_append];show rP _ d=_
 unfold rP;rw[if_pos hd]
theorem Jd {l:List Int} {P:List Dom} (ho:aU l=true) (h:((unc l P).length:Int)=0):lft l P=0:=by
 rw[←zu P ho]at h
 exact KE (qU ho) (by rw[←AH (s:=lft l P) (qU ho)];exact Int.ofNat.inj h)
theorem Je {l:List Int} {P:List Dom} (ho:aU l=true) (h:¬((unc l P).length:Int)=0):lft l P≠0:=by
 intro e
 rw[←zu P ho,show andn (ag l) (dl P)=lft l P from rfl,e]at h
 exact h (by decide)
theorem FZ {l:List Int} {P:List Dom} (ho:aU l=true) (h:lft l P≠0):gC (unc l P) 0=cN (au (lft l P))∧0<(unc l P).length:=by
 rw[←zu P ho];exact FP (qU ho) h
theorem Du {l:List Int} {P:List Dom} {d:Dom} (ho:aU l=true) (hd:okD d=true) (ha:(lft l P).testBit (idx (ca d))=true):fc (lft l P) d=(eJ l (cb d)&&decide (atD P (cb d)<0)):=by
 unfold fc;rw[hd,Bool.true_and,show decide (lft l P&&&domS d=domS d)=fits (ag l) (dl P) d from rfl,nP]
 have ha':((ag l).testBit (idx (ca d))&& !(dl P).testBit (idx (ca d)))=true:=by unfold lft at ha;rw[du]at ha;exact ha
 rw[ha',Bool.true_and,qC P (fU hd),ye];unfold eJ;rw[ho,fU hd];simp
theorem Kf {l:List Int} {P:List Dom} {b:Bool} (ho:aU l=true) (h0:lft l P≠0):(lft l P).testBit (idx (ca (dmn (au (lft l P)) b)))=true:=by
 have hf:=dr (qU (P:=P) ho) h0
 rw[rL b hf.1];exact hf.2
def ltR (l:List Int):List (List Dom):=if(decide (1≤cntR l)&&decide (cntR l≤300))=true then tls 33 (ag l)else []
theorem vb {l:List Int} (h:inB ((cntR l:Nat):Int) 1 300=false):ltR l=[]:=by
 unfold ltR;rw[if_neg];intro e
 simp only[Bool.and_eq_true,decide_eq_true_eq]at e
 have:=oL.1 h;omega
theorem oQ {l:List Int} (h:inB ((cntR l:Nat):Int) 1 300=true):ltR l=tls 33 (ag l)∧aU l=true∧(tls 33 (ag l)).length≤300:=by
 have h1:=bw.1 h
 have hr:aU l=true:=Gu (by omega)
 refine⟨?_,hr,?_⟩
 ·unfold ltR;rw[if_pos];simp only[Bool.and_eq_true,decide_eq_true_eq];omega
 ·rw[zt 33 _ (bb hr) (by have:=oV (ag l);omega)]
  have e:=lR hr
  omega
theorem Lr:∀ n s,∀ P∈tls n s,P.length≤n:=by
  intro n
  induction n with
  | zero=>intro s P h;simp [tls]at h
  | succ n ih=>
    intro s P h
    unfold tls at h
    split at h
    · simp at h;subst h;simp
    · rw[List.mem_append]at h
      rcases h with h |h
      · split at h
        · obtain⟨Q,hQ,rfl⟩:=List.mem_map.1 h
          have:=ih _ Q hQ;simp;omega
        · simp at h
      · split at h
        · obtain⟨Q,hQ,rfl⟩:=List.mem_map.1 h
          have:=ih _ Q hQ;simp;omega
        · simp at h
theorem oP {l:List Int} {k:Nat} (h:k<(ltR l).length):(gLd (ltR l) k).length≤33:=by
 rw[ee h]
 have hm:=List.getElem_mem h
 revert hm
 generalize (ltR l)[k]=P
 intro hm
 unfold ltR at hm
 split at hm
 ·exact Lr 33 _ P hm
 ·simp at hm
theorem ui (l:List Int):(ltR l).length≤300:=by
 rcases Bool.eq_false_or_eq_true (inB ((cntR l:Nat):Int) 1 300)with h |h
 ·obtain⟨h1,_,h2⟩:=oQ h
  rw[h1];exact h2
 ·rw[vb h];simp
theorem Fr:∀ (a b:Int) (c:Bool),Tryz.prog.built 54 [(0,.int .i64 a),(1,.int .i64 b),(2,.bool c)]=some ([.int .i64 a,.int .i64 b,.bool c]:List Value).toArray:=fun _ _ _=>rfl
theorem AO:ce Tryz.prog 67 0=some 0:=by kernel_rfl
theorem AP:ce Tryz.prog 67 1=some 1:=by kernel_rfl
theorem HZ:(Tryz.prog.info? 4).map (·.size)=some 1:=by kernel_rfl
theorem Fs:(Tryz.prog.info? 54).map (·.size)=some 3:=by kernel_rfl
theorem qj:TI Tryz.prog 107 false 1:=⟨⟨_,Tryz.underlying107,rfl⟩,by kernel_rfl⟩
theorem xF:TI Tryz.prog 26 true 1:=⟨⟨_,Tryz.underlying26,rfl⟩,by kernel_rfl⟩
theorem jt:TI Tryz.prog 27 false 1:=⟨⟨_,Tryz.underlying27,rfl⟩,by kernel_rfl⟩
theorem AQ:TI Tryz.prog 3 false 1:=⟨⟨_,Tryz.underlying3,rfl⟩,by kernel_rfl⟩
theorem Ia:TI Tryz.prog 4 false 1:=⟨⟨_,Tryz.underlying4,rfl⟩,by kernel_rfl⟩
theorem pg:TI Tryz.prog 50 false 1:=⟨⟨_,Tryz.underlying50,rfl⟩,by kernel_rfl⟩
theorem ju:TI Tryz.prog 54 true 3:=⟨⟨_,Tryz.underlying54,rfl⟩,by kernel_rfl⟩
theorem Ft:TI Tryz.prog 67 true 2:=⟨⟨_,Tryz.underlying67,rfl⟩,by kernel_rfl⟩
theorem Fu:TI Tryz.prog 88 false 1:=⟨⟨_,Tryz.underlying88,rfl⟩,by kernel_rfl⟩
theorem jv:Tryz.prog.underlying 27=some (.slice 54):=Tryz.underlying27
theorem sr:Tryz.prog.underlying 50=some (.slice 27):=Tryz.underlying50
theorem ss:Tryz.prog.underlying 70=some (.slice 4):=Tryz.underlying70
theorem CA:ZI Tryz.prog 107 (.nilFunc) 1 8:=by unfold ZI;kernel_rfl
theorem ph:ZI Tryz.prog 27 (.slice none 0 0) 1 24:=by unfold ZI;kernel_rfl
theorem Ib:ZI Tryz.prog 4 (.bool false) 1 1:=by unfold ZI;kernel_rfl
theorem Fv:ZI Tryz.prog 50 (.slice none 0 0) 1 24:=by unfold ZI;kernel_rfl
theorem kE:ZI Tryz.prog 54 (.agg #[.int .i64 0,.int .i64 0,.bool false]) 3 24:=by unfold ZI;kernel_rfl
theorem Fx:ZI Tryz.prog 67 (.agg #[.int .i64 0,.int .i64 0]) 2 16:=by unfold ZI;kernel_rfl
theorem nX (ds:List Dom) (hl:ds.length≤1048576):Fn Tryz.prog 62 [.a (.slv ds.length 3 (dsl ds))] [.row 54 3 ds.length (dsl ds)]:=by
 refine aN (N:=6) Tryz.func62 rfl (by kernel_rfl) rfl (Nat.le_of_ble_eq_true rfl) [3,5] (dB rfl) (fun W=> ?_)
 show Wp _ _ _ [kV 0 (V.b (.a (.slv ds.length 3 (dsl ds)))),kF 3,kF 5]
 refine sq (rg (zk (nl (sq (rg ?_)))))
 refine z ?_ (h:=fun Z=>b0D (h:=3) Z jv kE)
 refine zm ?_
 refine z ?_ (h:=fun Z=>nF (h2:=5) (m:=ds.length) (nm:=ds.length) (X:= .slv ds.length 3 (dsl ds)) (xs:=dsl []) (ys:=dsl ds) (zs:=dsl ds) Z jv kE rfl (by decide) (by decide) (by exact bQ _) xt (Src.slv _ _ _) (uJ _) (by omega) (by exact(ie _ _).symm) (by(simp;done)))
 refine za (nl (aq ?_))
 exact VRes.tmp _ _ _ (by exact rfl) (BRes.row 5 ds.length _ 3 _ (by kernel_rfl) (by exact bQ _))
theorem nA (L:List (List Dom)) (P:List Dom) (hP:P.length≤100) (hL:L.length≤1000):FnO Tryz.prog 61 [.a (.sl 12 0 P.length),.a (.ptr 11 0)] [(.o 11,some (.o ⟨50,1,true,[(.sl 13 0 L.length:A)]⟩)),(.o 12,some (.o ⟨54,3,true,pl (dsl P)⟩)),(.o 13,some (.o ⟨27,1,true,rwD 54 L⟩))] (V.v (.tuple #[])) [(.o 11,some (.o ⟨50,1,true,[(.sl 23 0 ((L++[P]).length):A)]⟩)),(.o 12,some (.o ⟨54,3,true,pl (dsl P)⟩)),(.o 23,some (.o ⟨27,1,true,rwD 54 (L++[P])⟩))] [11,12]:=by
 refine co (N:=8) Tryz.func61 rfl (by kernel_rfl) rfl (Nat.le_of_ble_eq_true rfl) rfl rfl (by kernel_rfl) (by kernel_rfl) ⟨ocs (by kernel_rfl),bB (fun _=>rfl),ij,trivial⟩ [5,6,7] (Bg rfl) (fun W own kp im0=> ?_)
 show Wp _ _ _ [kS 0 12 0 P.length,kP 1 11 0,kO 11 50 1 true [(.sl 13 0 L.length:A)],kO 12 54 3 true (pl (dsl P)),kO 13 27 1 true (rwD 54 L),kF 5,kF 6,kF 7]
 refine cg ?_
 refine zd ?_ (h:=fun Z=>ai (x:= .sl 13 0 L.length) Z pg (by exact rfl))
 refine zdm ?_
 refine zd ?_ (h:=fun Z=>ah Z (nX P (by omega)) (ac (bR (by exact bQ _)) an) (ResV.row _ _ _ _ 5))
 refine zd ?_ (h:=fun Z=>bs1 (h:=6) Z sr ph (by exact⟨_,_,_,.inl rfl⟩))
 refine zd ?_ (h:=fun Z=>aQ (h2:=7) (nm:=(L++[P]).length) Z sr ph (by exact⟨_,_,_,.inl rfl⟩) (by simp [iU,hZ]) (by omega) (by simp))
 refine zd ?_ (h:=fun _=>aw (cells:=[(.sl 7 0 ((L++[P]).length):A)]) pg xt (by exact rfl) (by decide) (by exact ob1 rfl) (by exact Nat.le_of_ble_eq_true rfl) (by exact rfl))
 refine bJ ?_
 exact⟨[kO 11 50 1 true [(.sl 23 0 ((L++[P]).length):A)],kO 12 54 3 true (pl (dsl P)),kO 23 27 1 true (rwD 54 (L++[P])),kF 6,kF 7],CP (pkD (h:=7) (h1:=5) (T:=54) (T0:=27) (s0:=1) (ex0:=true) (n:=P.length) (L:=L) (r:=P)) (wkf (bn [(23,7)]) (wX<|wP<|wQD<|wF<|wF<|wN)),⟨by kernel_rfl,by kernel_rfl,by kernel_rfl,trivial⟩,trivial⟩
theorem pA:∀ (n:Nat) (s:Nat) (L:List (List Dom)) (P:List Dom) (hs:s<18446744073709551616) (hn:jj s<2*n) (hL:L.length+(tls n s).length≤1000) (hP:P.length+n≤100),FnO Tryz.prog 89 [.a (.val (.int .u64 ((s:Nat):Int))),.a (.ptr 1 0),.a (.ptr 2 0),.a (.ptr 3 0)] [(.o 1,some (.o ⟨88,1,true,[(.fn 61 [11]:A)]⟩)),(.o 2,some (.o ⟨27,1,true,[(.sl 12 0 P.length:A)]⟩)),(.o 3,some (.o ⟨107,1,true,[(.fn 89 [1,2,3]:A)]⟩)),(.o 11,some (.o ⟨50,1,true,[(.sl 13 0 L.length:A)]⟩)),(.o 12,some (.o ⟨54,3,true,pl (dsl P)⟩)),(.o 13,some (.o ⟨27,1,true,rwD 54 L⟩))] (V.v (.tuple #[])) [(.o 1,some (.o ⟨88,1,true,[(.fn 61 [11]:A)]⟩)),(.o 2,some (.o ⟨27,1,true,[(.sl 22 0 P.length:A)]⟩)),(.o 3,some (.o ⟨107,1,true,[(.fn 89 [1,2,3]:A)]⟩)),(.o 11,some (.o ⟨50,1,true,[(.sl 23 0 ((L++(tls n s).map (P++ ·)).length):A)]⟩)),(.o 22,some (.o ⟨54,3,true,pl (dsl P)⟩)),(.o 23,some (.o ⟨27,1,true,rwD 54 (L++(tls n s).map (P++ ·))⟩))] [1,2,3,11]:=by
 intro n
 induction n with
 | zero=>intro s L P hs hn hL hP;exfalso;omega
 | succ n ih=>
  intro s L P hs hn hL hP
  refine co (N:=55) Tryz.func89 rfl (by kernel_rfl) rfl (Nat.le_of_ble_eq_true rfl) rfl rfl (by kernel_rfl) (by kernel_rfl) ⟨ocs (by kernel_rfl),ocs (by kernel_rfl),ocs (by kernel_rfl),ocs (by kernel_rfl),bB (fun _=>rfl),ij,trivial⟩ [5,8,15,16,17,29,33,36,41,42,46,48,51,55,56,57,58,2013] (Bg rfl) (fun W own kp im0=> ?_)
  show Wp _ _ _ [kU 0 ((s:Nat):Int),kP 1 1 0,kP 2 2 0,kP 3 3 0,kO 1 88 1 true [(.fn 61 [11]:A)],kO 2 27 1 true [(.sl 12 0 P.length:A)],kO 3 107 1 true [(.fn 89 [1,2,3]:A)],kO 11 50 1 true [(.sl 13 0 L.length:A)],kO 12 54 3 true (pl (dsl P)),kO 13 27 1 true (rwD 54 L),kF 5,kF 8,kF 15,kF 16,kF 17,kF 29,kF 33,kF 36,kF 41,kF 42,kF 46,kF 48,kF 51,kF 55,kF 56,kF 57,kF 58,kF 2013]
  refine sq (sq (rg (zm ?_)))
  refine z ?_ (h:=fun Z=>ab Z vt vc (cW rfl))
  refine nl ?_
  refine wi (fun c1=> ?_) (fun c1=> ?_)
  ·skip
   have c1P:=of_decide_eq_true c1
   have h0:s=0:=by omega
   refine sq (rg ?_)
   refine z ?_ (h:=fun Z=>ai (x:= .fn 61 [11]) Z Fu (by exact rfl))
   refine z ?_ (h:=fun Z=>ai (x:= .sl 12 0 P.length) Z jt (by exact rfl))
   refine z ?_ (h:=fun Z=>cI (d:=13) (f:=61) (t:=11) (caps:=[11]) (os:=[(.o 11,some (.o ⟨50,1,true,[(.sl 13 0 L.length:A)]⟩)),(.o 12,some (.o ⟨54,3,true,pl (dsl P)⟩)),(.o 13,some (.o ⟨27,1,true,rwD 54 L⟩))]) (os':=[(.o 11,some (.o ⟨50,1,true,[(.sl 5 0 ((L++[P]).length):A)]⟩)),(.o 12,some (.o ⟨54,3,true,pl (dsl P)⟩)),(.o 5,some (.o ⟨27,1,true,rwD 54 (L++[P])⟩))]) (r:=V.v (.tuple #[])) (bs:=[.a (.sl 12 0 P.length)]) (keep:=[11,12]) (new:=[5]) (dead:=[13]) Z (FnO.ren' (nA L P (by omega) (by omega)) (bn [(23,5)]) rfl rfl (by kernel_rfl) (by kernel_rfl) ⟨ocs (by kernel_rfl),bB (fun _=>rfl),ij,trivial⟩ (by kernel_rfl) rfl (by simp only[cH,Ob.ren,bM,aC,aD,aA,bt,bq];first |done |rfl) (by simp only[cH,Ob.ren,bM,aC,aD,aA,bt,bq];first |done |rfl) rfl rfl) (by kernel_rfl) ⟨ocs (by kernel_rfl),bB (fun _=>rfl),ij,trivial⟩ (by kernel_rfl) (ArgOs.cons (ArgO.slot 12 (.a (.sl 12 0 P.length))) (ArgOs.nil)))
   refine nl (aq ?_)
   exact⟨[kO 1 88 1 true [(.fn 61 [11]:A)],kO 2 27 1 true [(.sl 22 0 P.length:A)],kO 3 107 1 true [(.fn 89 [1,2,3]:A)],kO 11 50 1 true [(.sl 23 0 ((L++[P]).length):A)],kO 22 54 3 true (pl (dsl P)),kO 23 27 1 true (rwD 54 (L++[P])),kF 5,kF 8,kF 12,kF 15,kF 16,kF 17,kF 29,kF 33,kF 36,kF 41,kF 42,kF 46,kF 48,kF 51,kF 55,kF 56,kF 57,kF 58,kF 2013],wkf (bn [(22,12),(23,5)]) (wX<|wX<|wX<|wX<|wP<|wQD<|by(iterate 19 refine wF ?_);exact wN),⟨by kernel_rfl,by kernel_rfl,by kernel_rfl,cw (c:=[(.sl 23 0 ((L++[P]).length):A)]) (by kernel_rfl) (congrArg (fun z:Nat=>[(A.sl 23 0 z:A)]) (by exact congrArg List.length (Ej h0))),by kernel_rfl,cw (c:=rwD 54 (L++[P])) (by kernel_rfl) (congrArg (fun z=>rwD 54 z) (by exact Ej h0)),trivial⟩,trivial⟩
  ·skip
   have c1P:=of_decide_eq_false c1
   have h0:s≠0:=by omega
   refine sk (sq (rg (zm ?_)))
   refine z ?_ (h:=fun Z=>ah Z (iQ s (by omega) (by omega)) (ac (ArgV.v vt) an) (ResV.agg [vI ((cN (au s)).x),vI ((cN (au s)).y)]))
   refine z ?_ (h:=fun Z=>aF (h:=5) (cap:=1) (s:=2) (cells:=[aI 0,aI 0]) Z Fx rfl rfl (by decide))
   refine z ?_ (h:=fun _=>aw (cells:=[aI ((cN (au s)).x),aI ((cN (au s)).y)]) Ft xt (by exact rfl) (by decide) (by exact ob1 rfl) (by exact Nat.le_of_ble_eq_true rfl) (by exact rfl))
   refine nl (sq (rg ?_))
   refine z ?_ (h:=fun Z=>aR (h:=16) (xs:=bsl ([false,true]:List Bool)) Z ss Ib (.cons vc (.cons vc OpVs.nil)) (by decide) (by decide) (by kernel_rfl) rfl)
   refine z ?_ (h:=fun Z=>lnS (iv:=2) Z ss)
   refine z ?_ (h:=fun Z=>mc Z)
   refine nl (bkk ?_)
   refine bf (fun(k:Nat)=>k≤2) (fun(k:Nat)=>[kU 0 ((s:Nat):Int),kP 2 2 0,kP 3 3 0,kP 5 5 0,kS 16 16 0 2,kI 17 2,kI 18 ((k:Nat):Int),kO 1 88 1 true [(.fn 61 [11]:A)],kO 2 27 1 true [(.sl 12 0 P.length:A)],kO 3 107 1 true [(.fn 89 [1,2,3]:A)],kO 5 67 2 true [aI ((cN (au s)).x),aI ((cN (au s)).y)],kO 11 50 1 true [(.sl 13 0 ((L++(tlk n s k).map (P++ ·)).length):A)],kO 12 54 3 true (pl (dsl P)),kO 13 27 1 true (rwD 54 (L++(tlk n s k).map (P++ ·))),kO 16 4 1 true (pl (bsl [false,true])),kF 8,kF 15,kF 17,kF 29,kF 33,kF 36,kF 41,kF 42,kF 46,kF 48,kF 51,kF 55,kF 56,kF 57,kF 58,kF 2013]) (fun(k:Nat)=>2-k) ((0:Nat)) (by exact(Nat.zero_le _:0≤_)) (wkf id (wS<|wS<|wS<|wS<|wS<|wS<|wE (e:=(aO (by rfl)))<|wX<|wX<|wX<|wX<|wO (e:=jJ (fun h=>h) (congrArg (fun z:Nat=>[A.sl 13 0 z]) (by(exact congrArg List.length (by first |rfl |omega |(simp [tlk];done) |exact gZ hd hft |exact Eq.symm (gZ hd hft) |exact jK hd hno |exact Eq.symm (jK hd hno))))) rfl)<|wP<|wQD (e:=(by(simp [tlk];done)))<|wP<|by(iterate 16 refine wF ?_);exact wN)) ?_
   rintro k inv2
   replace inv2:k≤2:=inv2
   have inv:=inv2
   have hkl:=CM (n:=n) h0 inv
   refine sq (rg ?_)
   refine z ?_ (h:=fun Z=>ab Z vt vt (bP rfl))
   refine nl (sq ?_)
   refine wi (fun c3=> ?_) (fun c3=> ?_)
   ·skip
    have c3P:=of_decide_eq_true c3
    have hk2:k<2:=by omega
    have hd:(⟨(cN (au s)).x,(cN (au s)).y,gB [false,true] k⟩:Dom)=dmn (au s) (decide (((k:Nat):Int)=1)):=by rw[gB_ft hk2];rfl
    have hfi:=(dr hs h0).1
    refine sk (sq (bkk (sq (rg ?_))))
    refine z ?_ (h:=fun Z=>ix0 Z ss HZ vt (hlt:=(by omega)))
    refine z ?_ (h:=fun Z=>lB Z Ia (by omega))
    refine za (nl (sq (rg ?_)))
    refine z ?_ (h:=fun Z=>ak (off':=0) Z AO rfl)
    refine z ?_ (h:=fun Z=>ai (x:= .val (.int .i64 ((cN (au s)).x))) Z AQ (by exact rfl))
    refine z ?_ (h:=fun Z=>ak (off':=1) Z AP rfl)
    refine z ?_ (h:=fun Z=>ai (x:= .val (.int .i64 ((cN (au s)).y))) Z AQ (by exact rfl))
    refine zm ?_
    refine z ?_ (h:=fun Z=>bD Z Fr vt vt vt)
    refine z ?_ (h:=fun Z=>aF (h:=8) (cap:=1) (s:=3) (cells:=[aI 0,aI 0,aB false]) Z kE rfl rfl (by decide))
    refine z ?_ (h:=fun _=>aw (cells:=[aI ((cN (au s)).x),aI ((cN (au s)).y),aB (gB [false,true] k)]) ju xt (by exact rfl) (by decide) (by exact ob1 rfl) (by exact Nat.le_of_ble_eq_true rfl) (by exact rfl))
    refine nl (sq ?_)
    rcases Bool.eq_false_or_eq_true ((okD (⟨(cN (au s)).x,(cN (au s)).y,(gB [false,true] k)⟩:Dom)))with c4 |c4
    ·skip
     have hok:=c4
     have hdl:=iP c4
     refine cg ?_
     refine zd ?_ (h:=fun Z=>aa (xs:=[vI ((cN (au s)).x),vI ((cN (au s)).y),.bool (gB [false,true] k)].map A.val) Z ju rfl (by decide) rfl)
     refine zd ?_ (h:=fun Z=>ah Z (cp (⟨(cN (au s)).x,(cN (au s)).y,(gB [false,true] k)⟩:Dom) ) (ac (ArgV.va va) an) (aH (congrArg Value.bool c4)))
     refine zdm ?_
     refine zdg ?_ (h:=fun Z=>ae rfl rfl (mt Z))
     refine zdg ?_ (h:=fun Z=>ae rfl rfl (aa (xs:=[vI ((cN (au s)).x),vI ((cN (au s)).y),.bool (gB [false,true] k)].map A.val) Z ju rfl (by decide) rfl))
     refine zdg ?_ (h:=fun Z=>ae rfl rfl (ah Z (cf (⟨(cN (au s)).x,(cN (au s)).y,(gB [false,true] k)⟩:Dom) (by omega)) (ac (ArgV.va va) an) rv))
     refine zdg ?_ (h:=fun Z=>ae rfl rfl (ab Z vt vt (iK (c:=(((s&&&(domS (⟨(cN (au s)).x,(cN (au s)).y,(gB [false,true] k)⟩:Dom))):Nat):Int)) (andU (m:=s) (n:=(domS (⟨(cN (au s)).x,(cN (au s)).y,(gB [false,true] k)⟩:Dom))) rfl rfl (by omega) (by omega)))))
     refine zdg ?_ (h:=fun Z=>ae rfl rfl (aa (xs:=[vI ((cN (au s)).x),vI ((cN (au s)).y),.bool (gB [false,true] k)].map A.val) Z ju rfl (by decide) rfl))
     refine zdg ?_ (h:=fun Z=>ae rfl rfl (ah Z (cf (⟨(cN (au s)).x,(cN (au s)).y,(gB [false,true] k)⟩:Dom) (by omega)) (ac (ArgV.va va) an) rv))
     refine zdg ?_ (h:=fun Z=>ae rfl rfl (ab Z vt vt (cW rfl)))
     refine zd ?_ (h:=fun Z=>al Z vt xt)
     refine bJ ?_
     refine wi (fun c5=> ?_) (fun c5=> ?_)
     ·skip
      have c5P:=of_decide_eq_true c5
      have hft:=JH hok (of_decide_eq_true c5)
      have hln:=IY (n:=n) hd hft h0 hk2
      have hpc:=iT hft
      refine sq (rg ?_)
      refine z ?_ (h:=fun Z=>ai (x:= .sl 12 0 P.length) Z jt (by exact rfl))
      refine z ?_ (h:=fun Z=>aa (xs:=[vI ((cN (au s)).x),vI ((cN (au s)).y),.bool (gB [false,true] k)].map A.val) Z ju rfl (by decide) rfl)
      refine z ?_ (h:=fun Z=>aR (h:=41) (xs:=dsl ([(⟨(cN (au s)).x,(cN (au s)).y,(gB [false,true] k)⟩:Dom)]:List Dom)) Z jv kE (.cons va OpVs.nil) (by decide) (by decide) (by kernel_rfl) rfl)
      refine z ?_ (h:=fun Z=>aD_ (h2:=42) (L3:=(P++[(⟨(cN (au s)).x,(cN (au s)).y,(gB [false,true] k)⟩:Dom)])) Z jv kE (by exact rfl) rfl (by exact rfl) (by(simp;omega)))
      refine z ?_ (h:=fun _=>aw (cells:=[(.sl 42 0 ((P++[(⟨(cN (au s)).x,(cN (au s)).y,(gB [false,true] k)⟩:Dom)]).length):A)]) jt xt (by exact rfl) (by decide) (by exact ob1 rfl) (by exact Nat.le_of_ble_eq_true rfl) (by exact rfl))
      refine nl (sq (cg ?_))
      refine zd ?_ (h:=fun Z=>ai (x:= .fn 89 [1,2,3]) Z qj (by exact rfl))
      refine zdm ?_
      refine zd ?_ (h:=fun Z=>aa (xs:=[vI ((cN (au s)).x),vI ((cN (au s)).y),.bool (gB [false,true] k)].map A.val) Z ju rfl (by decide) rfl)
      refine zd ?_ (h:=fun Z=>ah Z (cf (⟨(cN (au s)).x,(cN (au s)).y,(gB [false,true] k)⟩:Dom) (by omega)) (ac (ArgV.va va) an) rv)
      refine zd ?_ (h:=fun Z=>ab Z vt vt (rf (c:=(((andn s (domS (⟨(cN (au s)).x,(cN (au s)).y,(gB [false,true] k)⟩:Dom))):Nat):Int)) (Gj (m:=s) (n:=(domS (⟨(cN (au s)).x,(cN (au s)).y,(gB [false,true] k)⟩:Dom))) rfl rfl (by omega) (by omega))))
      refine zd ?_ (h:=fun Z=>cI (d:=48) (f:=89) (t:=43) (caps:=[1,2,3]) (os:=[(.o 1,some (.o ⟨88,1,true,[(.fn 61 [11]:A)]⟩)),(.o 2,some (.o ⟨27,1,true,[(.sl 42 0 ((P++[(⟨(cN (au s)).x,(cN (au s)).y,(gB [false,true] k)⟩:Dom)]).length):A)]⟩)),(.o 3,some (.o ⟨107,1,true,[(.fn 89 [1,2,3]:A)]⟩)),(.o 11,some (.o ⟨50,1,true,[(.sl 13 0 ((L++(tlk n s k).map (P++ ·)).length):A)]⟩)),(.o 42,some (.o ⟨54,3,true,pl (dsl (P++[(⟨(cN (au s)).x,(cN (au s)).y,(gB [false,true] k)⟩:Dom)]))⟩)),(.o 13,some (.o ⟨27,1,true,rwD 54 (L++(tlk n s k).map (P++ ·))⟩))]) (os':=[(.o 1,some (.o ⟨88,1,true,[(.fn 61 [11]:A)]⟩)),(.o 2,some (.o ⟨27,1,true,[(.sl 15 0 ((P++[(⟨(cN (au s)).x,(cN (au s)).y,(gB [false,true] k)⟩:Dom)]).length):A)]⟩)),(.o 3,some (.o ⟨107,1,true,[(.fn 89 [1,2,3]:A)]⟩)),(.o 11,some (.o ⟨50,1,true,[(.sl 17 0 (((L++(tlk n s k).map (P++ ·))++(tls n (andn s (domS (⟨(cN (au s)).x,(cN (au s)).y,(gB [false,true] k)⟩:Dom)))).map ((P++[(⟨(cN (au s)).x,(cN (au s)).y,(gB [false,true] k)⟩:Dom)])++ ·)).length):A)]⟩)),(.o 15,some (.o ⟨54,3,true,pl (dsl (P++[(⟨(cN (au s)).x,(cN (au s)).y,(gB [false,true] k)⟩:Dom)]))⟩)),(.o 17,some (.o ⟨27,1,true,rwD 54 ((L++(tlk n s k).map (P++ ·))++(tls n (andn s (domS (⟨(cN (au s)).x,(cN (au s)).y,(gB [false,true] k)⟩:Dom)))).map ((P++[(⟨(cN (au s)).x,(cN (au s)).y,(gB [false,true] k)⟩:Dom)])++ ·))⟩))]) (r:=V.v (.tuple #[])) (bs:=[.a (.val (.int .u64 (((andn s (domS (⟨(cN (au s)).x,(cN (au s)).y,(gB [false,true] k)⟩:Dom))):Nat):Int)))]) (keep:=[1,2,3,11]) (new:=[15,17]) (dead:=[42,13]) Z (FnO.ren' (ih (andn s (domS (⟨(cN (au s)).x,(cN (au s)).y,(gB [false,true] k)⟩:Dom))) (L++(tlk n s k).map (P++ ·)) (P++[(⟨(cN (au s)).x,(cN (au s)).y,(gB [false,true] k)⟩:Dom)]) (by exact dQ hs) (by omega) (by(simp only[List.length_append,List.length_map,List.length_singleton];omega)) (by(simp only[List.length_append,List.length_map,List.length_singleton];omega))) (bn [(12,42),(22,15),(23,17)]) rfl rfl (by kernel_rfl) (by kernel_rfl) ⟨ocs (by kernel_rfl),ocs (by kernel_rfl),ocs (by kernel_rfl),ocs (by kernel_rfl),bB (fun _=>rfl),ij,trivial⟩ (by kernel_rfl) rfl (by simp only[cH,Ob.ren,bM,aC,aD,aA,bt,bq];first |done |rfl) (by simp only[cH,Ob.ren,bM,aC,aD,aA,bt,bq];first |done |rfl) rfl rfl) (by kernel_rfl) ⟨ocs (by kernel_rfl),ocs (by kernel_rfl),ocs (by kernel_rfl),ocs (by kernel_rfl),bB (fun _=>rfl),ij,trivial⟩ (by kernel_rfl) (ArgOs.cons ((ArgO.v vt)) (ArgOs.nil)))
      refine bJ (rg ?_)
      refine z ?_ (h:=fun Z=>ai (x:= .sl 15 0 ((P++[(⟨(cN (au s)).x,(cN (au s)).y,(gB [false,true] k)⟩:Dom)]).length)) Z jt (by exact rfl))
      refine z ?_ (h:=fun Z=>ai (x:= .sl 15 0 ((P++[(⟨(cN (au s)).x,(cN (au s)).y,(gB [false,true] k)⟩:Dom)]).length)) Z jt (by exact rfl))
      refine z ?_ (h:=fun Z=>lnS Z jv)
      refine z ?_ (h:=fun Z=>ab Z vt vc (rS (by omega) (by(simp only[List.length_append,List.length_singleton];omega))))
      refine z ?_ (h:=fun Z=>slS (m:=(((((P++[(⟨(cN (au s)).x,(cN (au s)).y,(gB [false,true] k)⟩:Dom)]).length:Nat):Int)-1).toNat)) (off':=0) Z jv Fs (OpB.no _) (OpB.so _ (((((P++[(⟨(cN (au s)).x,(cN (au s)).y,(gB [false,true] k)⟩:Dom)]).length:Nat):Int)-1).toNat) vt (Int.toNat_of_nonneg (by(simp only[List.length_append,List.length_singleton];omega))).symm) (by omega) (by omega) (by exact rfl) (by omega))
      refine z ?_ (h:=fun _=>aw (cells:=[(.sl 15 0 (((((P++[(⟨(cN (au s)).x,(cN (au s)).y,(gB [false,true] k)⟩:Dom)]).length:Nat):Int)-1).toNat):A)]) jt xt (by exact rfl) (by decide) (by exact ob1 rfl) (by exact Nat.le_of_ble_eq_true rfl) (by exact rfl))
      refine nl ?_
      rw[show((((P++[(⟨(cN (au s)).x,(cN (au s)).y,(gB [false,true] k)⟩:Dom)]).length:Nat):Int)-1).toNat=P.length from(by simp)]
      refine dE (trD (h:=15) (T:=54) (ex:=true) (L:=(P++[(⟨(cN (au s)).x,(cN (au s)).y,(gB [false,true] k)⟩:Dom)])) (L':=P) (P.length) (hc:=by simp)) ?_
      refine rg ?_
      refine z ?_ (h:=fun Z=>ab Z vt vc (rA (by omega) (by omega)))
      refine zm (nl ?_)
      exact ar ((k+1)) (by show _≤_;omega) (by show 2-(k+1)<2-k;omega) (wkf (bn [(12,15),(13,17)]) (wS<|wS<|wS<|wS<|wS<|wS<|wE (e:=(aO (by rfl)))<|wX<|wX<|wX<|wX<|wO (e:=jJ (fun h=>h) (congrArg (fun z:Nat=>[A.sl 17 0 z]) (by(exact congrArg List.length (by first |rfl |omega |(simp [tlk];done) |exact gZ hd hft |exact Eq.symm (gZ hd hft) |exact jK hd hno |exact Eq.symm (jK hd hno))))) rfl)<|wP<|wQD (e:=(by exact Eq.symm (gZ hd hft)))<|wP<|by(iterate 16 refine wF ?_);exact wN))
     ·skip
      have c5P:=of_decide_eq_false c5
      have hno:=JG (of_decide_eq_false c5)
      refine sk (rg ?_)
      refine z ?_ (h:=fun Z=>ab Z vt vc (rA (by omega) (by omega)))
      refine zm (nl ?_)
      exact ar ((k+1)) (by show _≤_;omega) (by show 2-(k+1)<2-k;omega) (wkf id (wS<|wS<|wS<|wS<|wS<|wS<|wE (e:=(aO (by rfl)))<|wX<|wX<|wX<|wX<|wO (e:=jJ (fun h=>h) (congrArg (fun z:Nat=>[A.sl 13 0 z]) (by(exact congrArg List.length (by first |rfl |omega |(simp [tlk];done) |exact gZ hd hft |exact Eq.symm (gZ hd hft) |exact jK hd hno |exact Eq.symm (jK hd hno))))) rfl)<|wP<|wQD (e:=(by exact Eq.symm (jK hd hno)))<|wP<|by(iterate 16 refine wF ?_);exact wN))
    ·skip
     have hno:=Dg (s:=s) c4
     refine cg ?_
     refine zd ?_ (h:=fun Z=>aa (xs:=[vI ((cN (au s)).x),vI ((cN (au s)).y),.bool (gB [false,true] k)].map A.val) Z ju rfl (by decide) rfl)
     refine zd ?_ (h:=fun Z=>ah Z (cp (⟨(cN (au s)).x,(cN (au s)).y,(gB [false,true] k)⟩:Dom) ) (ac (ArgV.va va) an) (aH (congrArg Value.bool c4)))
     refine zdm ?_
     refine zdg ?_ (h:=fun Z=>am rfl rfl (by decide) rfl Z)
     refine zdg ?_ (h:=fun Z=>am rfl rfl (by decide) rfl Z)
     refine zdg ?_ (h:=fun Z=>am rfl rfl (by decide) rfl Z)
     refine zdg ?_ (h:=fun Z=>am rfl rfl (by decide) rfl Z)
     refine zdg ?_ (h:=fun Z=>am rfl rfl (by decide) rfl Z)
     refine zdg ?_ (h:=fun Z=>am rfl rfl (by decide) rfl Z)
     refine zdg ?_ (h:=fun Z=>am rfl rfl (by decide) rfl Z)
     refine zd ?_ (h:=fun Z=>ao Z vt xc)
     refine bJ (wf (sk (rg ?_)))
     refine z ?_ (h:=fun Z=>ab Z vt vc (rA (by omega) (by omega)))
     refine zm (nl ?_)
     exact ar ((k+1)) (by show _≤_;omega) (by show 2-(k+1)<2-k;omega) (wkf id (wS<|wS<|wS<|wS<|wS<|wS<|wE (e:=(aO (by rfl)))<|wX<|wX<|wX<|wX<|wO (e:=jJ (fun h=>h) (congrArg (fun z:Nat=>[A.sl 13 0 z]) (by(exact congrArg List.length (by first |rfl |omega |(simp [tlk];done) |exact gZ hd hft |exact Eq.symm (gZ hd hft) |exact jK hd hno |exact Eq.symm (jK hd hno))))) rfl)<|wP<|wQD (e:=(by exact Eq.symm (jK hd hno)))<|wP<|by(iterate 16 refine wF ?_);exact wN))
   ·skip
    have c3P:=of_decide_eq_false c3
    refine aJ ?_
    exact⟨[kO 1 88 1 true [(.fn 61 [11]:A)],kO 2 27 1 true [(.sl 22 0 P.length:A)],kO 3 107 1 true [(.fn 89 [1,2,3]:A)],kO 11 50 1 true [(.sl 23 0 ((L++(tlk n s k).map (P++ ·)).length):A)],kO 22 54 3 true (pl (dsl P)),kO 23 27 1 true (rwD 54 (L++(tlk n s k).map (P++ ·))),kF 5,kF 8,kF 12,kF 13,kF 15,kF 16,kF 17,kF 29,kF 33,kF 36,kF 41,kF 42,kF 46,kF 48,kF 51,kF 55,kF 56,kF 57,kF 58,kF 2013],wkf (bn [(22,12),(23,13)]) (wX<|wX<|wX<|wX<|wP<|wQD<|by(iterate 20 refine wF ?_);exact wN),⟨by kernel_rfl,by kernel_rfl,by kernel_rfl,cw (c:=[(.sl 23 0 ((L++(tlk n s k).map (P++ ·)).length):A)]) (by kernel_rfl) (congrArg (fun z:Nat=>[(A.sl 23 0 z:A)]) (by exact congrArg List.length (IX h0 (by omega) (by omega)))),by kernel_rfl,cw (c:=rwD 54 (L++(tlk n s k).map (P++ ·))) (by kernel_rfl) (congrArg (fun z=>rwD 54 z) (by exact IX h0 (by omega) (by omega))),trivial⟩,trivial⟩
theorem qT (s:Nat) (hs:s<18446744073709551616) (hL:(tls 33 s).length≤1000):FnO Tryz.prog 60 [.a (.val (.int .u64 ((s:Nat):Int))),.a (.fn 61 [11])] [(.o 11,some (.o ⟨50,1,true,[(.sl 13 0 0:A)]⟩)),(.o 13,some (.o ⟨27,1,true,rwD 54 []⟩))] (V.v (.tuple #[])) [(.o 11,some (.o ⟨50,1,true,[(.sl 23 0 ((tls 33 s).length):A)]⟩)),(.o 23,some (.o ⟨27,1,true,rwD 54 (tls 33 s)⟩))] [11]:=by
 refine co (N:=11) Tryz.func60 rfl (by kernel_rfl) rfl (Nat.le_of_ble_eq_true rfl) rfl rfl (by kernel_rfl) (by kernel_rfl) ⟨ocs (by kernel_rfl),ij,trivial⟩ [3,4,5,6,10,12,14,2011,2013] (Bg rfl) (fun W own kp im0=> ?_)
 show Wp _ _ _ [kU 0 ((s:Nat):Int),kV 1 (V.b (.a (.fn 61 [11]))),kO 11 50 1 true [(.sl 13 0 0:A)],kO 13 27 1 true (rwD 54 []),kF 3,kF 4,kF 5,kF 6,kF 10,kF 12,kF 14,kF 2011,kF 2013]
 refine sq (rg ?_)
 refine z ?_ (h:=fun Z=>aM (h:=3) Z xt (by exact ob1 rfl))
 refine nl (sq (rg ?_))
 refine z ?_ (h:=fun Z=>b0D (h:=6) Z jv kE)
 refine z ?_ (h:=fun Z=>aF (h:=4) (cap:=1) (s:=1) (cells:=[(.val (.slice none 0 0):A)]) Z ph rfl rfl (by decide))
 refine z ?_ (h:=fun _=>aw (cells:=[(.sl 6 0 0:A)]) jt xt (by exact rfl) (by decide) (by exact ob1 rfl) (by exact Nat.le_of_ble_eq_true rfl) (by exact rfl))
 refine nl (sq (rg ?_))
 refine z ?_ (h:=fun Z=>aF (h:=5) (cap:=1) (s:=1) (cells:=[(.val (.nilFunc):A)]) Z CA rfl rfl (by decide))
 refine nl (sq (rg ?_))
 refine z ?_ (h:=fun Z=>gT (d:=7) (f:=89) (l:=[(3,3),(4,4),(5,5)]) Z)
 refine z ?_ (h:=fun _=>aw (cells:=[(.fn 89 [3,4,5]:A)]) qj xt (by exact rfl) (by decide) (by exact ob1 rfl) (by exact Nat.le_of_ble_eq_true rfl) (by exact rfl))
 refine nl (rg ?_)
 refine z ?_ (h:=fun Z=>ai (x:= .fn 89 [3,4,5]) Z qj (by exact rfl))
 refine zm ?_
 refine z ?_ (h:=fun Z=>cI (d:=10) (f:=89) (t:=8) (caps:=[3,4,5]) (os:=[(.o 3,some (.o ⟨88,1,true,[(.fn 61 [11]:A)]⟩)),(.o 4,some (.o ⟨27,1,true,[(.sl 6 0 [].length:A)]⟩)),(.o 5,some (.o ⟨107,1,true,[(.fn 89 [3,4,5]:A)]⟩)),(.o 11,some (.o ⟨50,1,true,[(.sl 13 0 [].length:A)]⟩)),(.o 6,some (.o ⟨54,3,true,pl (dsl [])⟩)),(.o 13,some (.o ⟨27,1,true,rwD 54 []⟩))]) (os':=[(.o 3,some (.o ⟨88,1,true,[(.fn 61 [11]:A)]⟩)),(.o 4,some (.o ⟨27,1,true,[(.sl 10 0 [].length:A)]⟩)),(.o 5,some (.o ⟨107,1,true,[(.fn 89 [3,4,5]:A)]⟩)),(.o 11,some (.o ⟨50,1,true,[(.sl 12 0 (([]++(tls 33 s).map ([]++ ·)).length):A)]⟩)),(.o 10,some (.o ⟨54,3,true,pl (dsl [])⟩)),(.o 12,some (.o ⟨27,1,true,rwD 54 ([]++(tls 33 s).map ([]++ ·))⟩))]) (r:=V.v (.tuple #[])) (bs:=[.a (.val (.int .u64 ((s:Nat):Int)))]) (keep:=[3,4,5,11]) (new:=[10,12]) (dead:=[6,13]) Z (FnO.ren' (pA 33 s [] [] (by omega) (by(have:=oV s;omega)) (by(simp;omega)) (by simp)) (bn [(1,3),(2,4),(3,5),(12,6),(22,10),(23,12)]) rfl rfl (by kernel_rfl) (by kernel_rfl) ⟨ocs (by kernel_rfl),ocs (by kernel_rfl),ocs (by kernel_rfl),ocs (by kernel_rfl),bB (fun _=>rfl),ij,trivial⟩ (by kernel_rfl) rfl (by simp only[cH,Ob.ren,bM,aC,aD,aA,bt,bq];first |done |rfl) (by simp only[cH,Ob.ren,bM,aC,aD,aA,bt,bq];first |done |rfl) rfl rfl) (by kernel_rfl) ⟨ocs (by kernel_rfl),ocs (by kernel_rfl),ocs (by kernel_rfl),ocs (by kernel_rfl),bB (fun _=>rfl),ij,trivial⟩ (by kernel_rfl) (ArgOs.cons ((ArgO.v vt)) (ArgOs.nil)))
 refine nl ?_
 exact⟨[kO 11 50 1 true [(.sl 23 0 (([]++(tls 33 s).map ([]++ ·)).length):A)],kO 23 27 1 true (rwD 54 ([]++(tls 33 s).map ([]++ ·))),kF 3,kF 4,kF 5,kF 10,kF 12,kF 14,kF 2011,kF 2013],wkf (bn [(23,12)]) (wX<|wQD<|wF<|wF<|wF<|wF<|wF<|wF<|wF<|wF<|wN),⟨cw (c:=[(.sl 23 0 (([]++(tls 33 s).map ([]++ ·)).length):A)]) (by kernel_rfl) (congrArg (fun z:Nat=>[(A.sl 23 0 z:A)]) (by simp)),cw (c:=rwD 54 ([]++(tls 33 s).map ([]++ ·))) (by kernel_rfl) (congrArg (fun z=>rwD 54 z) (by simp)),trivial⟩,trivial⟩
theorem ki (l:List Int) (hl:l.length≤4194304):FnO Tryz.prog 32 [.agg [(.sl 800 0 l.length:A)]] [(.o 800,some (.o ⟨3,1,true,pl (isl l)⟩))] (V.b (.a (.sl 900 0 ((ltR l).length)))) [(.o 800,some (.o ⟨3,1,true,pl (isl l)⟩)),(.o 900,some (.o ⟨27,1,true,rwD 54 (ltR l)⟩))] [800]:=by
 refine co (N:=14) Tryz.func32 rfl (by kernel_rfl) rfl (Nat.le_of_ble_eq_true rfl) rfl rfl (by kernel_rfl) (by kernel_rfl) ⟨bB (fun _=>rfl),trivial⟩ [1,3,5,6,8,10,12] (mn rfl) (fun W own kp im0=> ?_)
 show Wp _ _ _ [kV 0 (V.b (.agg [(.sl 800 0 l.length:A)])),kO 800 3 1 true (pl (isl l)),kF 1,kF 3,kF 5,kF 6,kF 8,kF 10,kF 12]
 refine sq (rg ?_)
 refine z ?_ (h:=fun Z=>aM (h:=1) Z xt (by exact ob1 rfl))
 refine zk (nl (sq (sq (rg ?_))))
 refine z ?_ (h:=fun Z=>aa (xs:=[(.sl 800 0 l.length:A)]) Z xF rfl (by decide) rfl)
 refine z ?_ (h:=fun Z=>ah Z (nU l (by omega)) (ac (ArgV.reg _ _ _ (s:=1) (by simp [isl]) (by exact List.take_of_length_le (by simp [isl]))) an) rv)
 refine z ?_ (h:=fun Z=>ah Z (eh (((cntR l):Nat):Int) 1 300 ) (ac (ArgV.v vt) (ac (ArgV.v vc) (ac (ArgV.v vc) an))) rv)
 refine z ?_ (h:=fun Z=>aK Z vt (bE rfl))
 refine nl ?_
 refine wi (b:=(!(inB (((cntR l):Nat):Int) 1 300))) (fun c1=> ?_) (fun c1=> ?_)
 ·skip
  have c2:(inB (((cntR l):Nat):Int) 1 300)=false:=by first |(rw[←Bool.not_eq_true'];exact c1) |simpa using c1
  have hlt:=vb c2
  refine sq (rg (zk (nl ?_)))
  refine dE (wnP (k:=2) (h:=3) (T:=27) (T':=54) (by kernel_rfl) (by kernel_rfl)) ?_
  refine aq ?_
  exact⟨[kS 2 900 0 0,kO 800 3 1 true (pl (isl l)),kO 900 27 1 true (rwD 54 []),kF 1,kF 3,kF 5,kF 6,kF 8,kF 10,kF 12],wkf (bn [(900,3)]) (wS<|wP<|wQD<|wF<|wF<|wF<|wF<|wF<|wF<|wF<|wN),⟨by kernel_rfl,cw (c:=rwD 54 []) (by kernel_rfl) (congrArg (fun z=>rwD 54 z) (by exact hlt.symm)),trivial⟩,da 2 (.a (.sl 900 0 0)) (.a (.sl 900 0 ((ltR l).length))) (by kernel_rfl) (congrArg (fun z:Nat=>B.a (.sl 900 0 z)) (by rw[hlt];rfl))⟩
 ·skip
  have c3:(inB (((cntR l):Nat):Int) 1 300)=true:=by first |(rw[←Bool.not_eq_false'];exact c1) |simpa using c1
  obtain⟨hlt,hro,hl3⟩:=oQ c3
  refine sk (sq (rg ?_))
  refine z ?_ (h:=fun Z=>b0P (h:=8) (T:=54) Z sr ph)
  refine z ?_ (h:=fun Z=>aF (h:=3) (cap:=1) (s:=1) (cells:=[(.val (.slice none 0 0):A)]) Z Fv rfl rfl (by decide))
  refine z ?_ (h:=fun _=>aw (cells:=[(.sl 8 0 0:A)]) pg xt (by exact rfl) (by decide) (by exact ob1 rfl) (by exact Nat.le_of_ble_eq_true rfl) (by exact rfl))
  refine nl (sq (rg ?_))
  refine z ?_ (h:=fun Z=>aa (xs:=[(.sl 800 0 l.length:A)]) Z xF rfl (by decide) rfl)
  refine z ?_ (h:=fun Z=>ah Z (cA l (by omega)) (ac (ArgV.reg _ _ _ (s:=1) (by simp [isl]) (by exact List.take_of_length_le (by simp [isl]))) an) rv)
  refine z ?_ (h:=fun Z=>gT (d:=11) (f:=61) (l:=[(3,3)]) Z)
  refine z ?_ (h:=fun Z=>bo (d:=12) (f:=60) (os:=[(.o 3,some (.o ⟨50,1,true,[(.sl 8 0 0:A)]⟩)),(.o 8,some (.o ⟨27,1,true,rwD 54 []⟩))]) (os':=[(.o 3,some (.o ⟨50,1,true,[(.sl 5 0 ((tls 33 (ag l)).length):A)]⟩)),(.o 5,some (.o ⟨27,1,true,rwD 54 (tls 33 (ag l))⟩))]) (r:=V.v (.tuple #[])) (bs:=[.a (.val (.int .u64 (((ag l):Nat):Int))),.a (.fn 61 [3])]) (keep:=[3]) (new:=[5]) (dead:=[8]) Z (FnO.ren' (qT (ag l) (by exact bb hro) (by omega)) (bn [(11,3),(13,8),(23,5)]) rfl rfl (by kernel_rfl) (by kernel_rfl) ⟨ocs (by kernel_rfl),ij,trivial⟩ (by kernel_rfl) rfl (by simp only[cH,Ob.ren,bM,aC,aD,aA,bt,bq];first |done |rfl) (by simp only[cH,Ob.ren,bM,aC,aD,aA,bt,bq];first |done |rfl) rfl rfl) (by kernel_rfl) ⟨ocs (by kernel_rfl),ij,trivial⟩ (by kernel_rfl) (ArgOs.cons ((ArgO.v vt)) (ArgOs.cons (ArgO.slot 11 (.a (.fn 61 [3]))) (ArgOs.nil))))
  refine nl (sq (rg ?_))
  refine z ?_ (h:=fun Z=>ai (x:= .sl 5 0 ((tls 33 (ag l)).length)) Z pg (by exact rfl))
  refine za (nl (aq ?_))
  exact⟨[kS 2 900 0 ((tls 33 (ag l)).length),kO 800 3 1 true (pl (isl l)),kO 900 27 1 true (rwD 54 (tls 33 (ag l))),kF 1,kF 3,kF 5,kF 6,kF 10,kF 12],wkf (bn [(900,5)]) (wS<|wP<|wQD<|wF<|wF<|wF<|wF<|wF<|wF<|wN),⟨by kernel_rfl,cw (c:=rwD 54 (tls 33 (ag l))) (by kernel_rfl) (congrArg (fun z=>rwD 54 z) (by exact hlt.symm)),trivial⟩,da 2 (.a (.sl 900 0 ((tls 33 (ag l)).length))) (.a (.sl 900 0 ((ltR l).length))) (by kernel_rfl) (congrArg (fun z:Nat=>B.a (.sl 900 0 z)) (by rw[hlt]))⟩
theorem Nb (P:List Dom) (M:List (List Dom)):(M.map (P++ ·)).length=M.length:=by simp
theorem Nc {n s:Nat}:(tls n s).map (fun x=>([]:List Dom)++x)=tls n s:=by
 have:(fun x:List Dom=>([]:List Dom)++x)=id:=funext fun x=>List.nil_append x
 rw[this,List.map_id]
theorem gG {n s k:Nat} {P:List Dom} {d:Dom} (hd:d=dmn (au s) (decide (((k:Nat):Int)=1))) (h:fc s d=true):(tlk n s k).map (P++ ·)++(tls n (andn s (domS d))).map ((P++[d])++ ·)=(tlk n s (k+1)).map (P++ ·):=by
  have:=gZ (n:=n) (L:=[]) (P:=P) hd h
  simpa using this
theorem gu {n s k:Nat} {P:List Dom} {d:Dom} (hd:d=dmn (au s) (decide (((k:Nat):Int)=1))) (h:fc s d=false):(tlk n s k).map (P++ ·)=(tlk n s (k+1)).map (P++ ·):=by rw[Ja hd h]
theorem Ls {n s:Nat} {P:List Dom} (h:s=0):[]++[P]=(tls (n+1) s).map (P++ ·):=by rw[mv h];simp
theorem Em {n s k:Nat} {P:List Dom} (h0:s≠0) (hk:k≤2) (h:¬k<2∨(tls (n+1) s).length≤(tlk n s k).length):(tlk n s k).map (P++ ·)=(tls (n+1) s).map (P++ ·):=by
  rcases h with h |h
  · rw[rB h0,show k=2 by omega]
  · rw[IZ h0 hk h]
theorem Hq {l:List Int} {P:List Dom} {d:Dom} (ho:aU l=true) (hd:okD d=true) (ha:(lft l P).testBit (idx (ca d))=true) (h:((!(eJ l (cb d)))||(decide (0≤atD P (cb d))))=true):fc (lft l P) d=false:=by
 rw[Du ho hd ha]
 simp only[Bool.or_eq_true,Bool.not_eq_true',decide_eq_true_eq]at h
 rcases h with h |h
 ·rw[h];rfl
 ·rw[decide_eq_false (by omega),Bool.and_false]
theorem Kg {l:List Int} {P:List Dom} {d:Dom} (ho:aU l=true) (hd:okD d=true) (ha:(lft l P).testBit (idx (ca d))=true) (h1:eJ l (cb d)=true) (h2:atD P (cb d)<0):fc (lft l P) d=true:=by
 rw[Du ho hd ha,h1,decide_eq_true h2];rfl
theorem Fy:∀ (a b:Int) (c:Bool),Tryz.prog.built 54 [(0,.int .i64 a),(1,.int .i64 b),(2,.bool c)]=some ([.int .i64 a,.int .i64 b,.bool c]:List Value).toArray:=fun _ _ _=>rfl
theorem xG:∀ (a b:Int),Tryz.prog.built 67 [(0,.int .i64 a),(1,.int .i64 b)]=some ([.int .i64 a,.int .i64 b]:List Value).toArray:=fun _ _=>rfl
theorem tu:ce Tryz.prog 54 0=some 0:=by kernel_rfl
theorem tv:ce Tryz.prog 54 1=some 1:=by kernel_rfl
theorem AR:ce Tryz.prog 54 2=some 2:=by kernel_rfl
theorem AU:ce Tryz.prog 67 0=some 0:=by kernel_rfl
theorem AV:ce Tryz.prog 67 1=some 1:=by kernel_rfl
theorem xH:(Tryz.prog.info? 67).map (·.size)=some 2:=by kernel_rfl
theorem kG:TI Tryz.prog 26 true 1:=⟨⟨_,Tryz.underlying26,rfl⟩,by kernel_rfl⟩
theorem mg:TI Tryz.prog 3 false 1:=⟨⟨_,Tryz.underlying3,rfl⟩,by kernel_rfl⟩
theorem Ic:TI Tryz.prog 4 false 1:=⟨⟨_,Tryz.underlying4,rfl⟩,by kernel_rfl⟩
theorem kH:TI Tryz.prog 54 true 3:=⟨⟨_,Tryz.underlying54,rfl⟩,by kernel_rfl⟩
theorem iH:TI Tryz.prog 67 true 2:=⟨⟨_,Tryz.underlying67,rfl⟩,by kernel_rfl⟩
theorem jw:Tryz.prog.underlying 27=some (.slice 54):=Tryz.underlying27
theorem jx:Tryz.prog.underlying 50=some (.slice 27):=Tryz.underlying50
theorem su:Tryz.prog.underlying 63=some (.slice 67):=Tryz.underlying63
theorem mh:ZI Tryz.prog 27 (.slice none 0 0) 1 24:=by unfold ZI;kernel_rfl
theorem iI:ZI Tryz.prog 54 (.agg #[.int .i64 0,.int .i64 0,.bool false]) 3 24:=by unfold ZI;kernel_rfl
theorem xI:ZI Tryz.prog 67 (.agg #[.int .i64 0,.int .i64 0]) 2 16:=by unfold ZI;kernel_rfl
theorem Al (d:Dom) (hb:0≤d.x∧d.x≤100∧0≤d.y∧d.y≤100):Fn Tryz.prog 77 [.agg ([vI d.x,vI d.y,.bool d.d].map A.val)] [.val (.agg ([.int .i64 (cb d).x,.int .i64 (cb d).y]:List Value).toArray)]:=by
 refine aN (N:=17) Tryz.func77 rfl (by kernel_rfl) rfl (Nat.le_of_ble_eq_true rfl) [1,2] (dB rfl) (fun W=> ?_)
 show Wp _ _ _ [kV 0 (V.av [vI d.x,vI d.y,.bool d.d]),kF 1,kF 2]
 refine sq (rg ?_)
 refine z ?_ (h:=fun Z=>aM (h:=1) Z xt (by exact ob1 rfl))
 refine z ?_ (h:=fun Z=>aF (h:=2) (cap:=1) (s:=2) (cells:=[aI 0,aI 0]) Z xI rfl rfl (by decide))
 refine nl (sq (sq (rg ?_)))
 refine z ?_ (h:=fun Z=>ak (off':=2) Z AR rfl)
 refine z ?_ (h:=fun Z=>ai (x:= .val (.bool d.d)) Z Ic (by exact rfl))
 refine nl ?_
 refine wi (b:=d.d) (fun c1=> ?_) (fun c1=> ?_)
 ·skip
  refine sq (rg ?_)
  refine z ?_ (h:=fun Z=>ak (off':=0) Z tu rfl)
  refine z ?_ (h:=fun Z=>ai (x:= .val (.int .i64 d.x)) Z mg (by exact rfl))
  refine z ?_ (h:=fun Z=>ak (off':=1) Z tv rfl)
  refine z ?_ (h:=fun Z=>ai (x:= .val (.int .i64 d.y)) Z mg (by exact rfl))
  refine z ?_ (h:=fun Z=>ab Z vt vc rA)
  refine z ?_ (h:=fun Z=>bC Z xG vt vt)
  refine z ?_ (h:=fun _=>aw (cells:=[aI d.x,aI (d.y+1)]) iH xt (by exact rfl) (by decide) (by exact ob1 rfl) (by exact Nat.le_of_ble_eq_true rfl) (by exact rfl))
  refine nl (aq ?_)
  exact VRes.cells 2 67 2 ⟨67,2,true,[aI d.x,aI (d.y+1)]⟩ _ (by kernel_rfl) (by kernel_rfl) iH (Nat.le_of_ble_eq_true rfl) (nL (vs:=[vI d.x,vI (d.y+1)]) (by(unfold cb;simp_all;done)))
 ·skip
  refine sk (sq (rg ?_))
  refine z ?_ (h:=fun Z=>ak (off':=0) Z tu rfl)
  refine z ?_ (h:=fun Z=>ai (x:= .val (.int .i64 d.x)) Z mg (by exact rfl))
  refine z ?_ (h:=fun Z=>ab Z vt vc rA)
  refine z ?_ (h:=fun Z=>ak (off':=1) Z tv rfl)
  refine z ?_ (h:=fun Z=>ai (x:= .val (.int .i64 d.y)) Z mg (by exact rfl))
  refine z ?_ (h:=fun Z=>bC Z xG vt vt)
  refine z ?_ (h:=fun _=>aw (cells:=[aI (d.x+1),aI d.y]) iH xt (by exact rfl) (by decide) (by exact ob1 rfl) (by exact Nat.le_of_ble_eq_true rfl) (by exact rfl))
  refine nl (aq ?_)
  exact VRes.cells 2 67 2 ⟨67,2,true,[aI (d.x+1),aI d.y]⟩ _ (by kernel_rfl) (by kernel_rfl) iH (Nat.le_of_ble_eq_true rfl) (nL (vs:=[vI (d.x+1),vI d.y]) (by(unfold cb;simp_all;done)))
theorem tY:∀ (n:Nat) (l:List Int) (P:List Dom) (most:Int) (hl:l.length≤4194304) (ho:aU l=true) (hn:jj (lft l P)<2*n) (hm:((tls n (lft l P)).length:Int)≤most) (hm3:most≤300) (hP:P.length+n≤100),FnO Tryz.prog 40 [.agg [(.sl 800 0 l.length:A)],.a (.sl 900 0 P.length),.a (.val (.int .i64 most))] [(.o 800,some (.o ⟨3,1,true,pl (isl l)⟩)),(.o 900,some (.o ⟨54,3,true,pl (dsl P)⟩))] (V.b (.a (.slvv 3 (vwD ((tls n (lft l P)).map (P++ ·)))))) [(.o 800,some (.o ⟨3,1,true,pl (isl l)⟩)),(.o 900,some (.o ⟨54,3,true,pl (dsl P)⟩))] [800,900]:=by
 intro n
 induction n with
 | zero=>intro l P most hl ho hn hm hm3 hP;exfalso;omega
 | succ n ih=>
  intro l P most hl ho hn hm hm3 hP
  have hlt:=qU (l:=l) (P:=P) ho
  have hul:=Lu l P
  refine co (N:=78) Tryz.func40 rfl (by kernel_rfl) rfl (Nat.le_of_ble_eq_true rfl) rfl rfl (by kernel_rfl) (by kernel_rfl) ⟨bB (fun _=>rfl),bB (fun _=>rfl),trivial⟩ [3,10,11,12,15,17,20,22,23,24,29,47,49,54,60,65,67,69,70,73,75,76,78,79,80,81] (mn rfl) (fun W own kp im0=> ?_)
  show Wp _ _ _ [kV 0 (V.b (.agg [(.sl 800 0 l.length:A)])),kS 1 900 0 P.length,kI 2 most,kO 800 3 1 true (pl (isl l)),kO 900 54 3 true (pl (dsl P)),kF 3,kF 10,kF 11,kF 12,kF 15,kF 17,kF 20,kF 22,kF 23,kF 24,kF 29,kF 47,kF 49,kF 54,kF 60,kF 65,kF 67,kF 69,kF 70,kF 73,kF 75,kF 76,kF 78,kF 79,kF 80,kF 81]
  refine sq (rg ?_)
  refine z ?_ (h:=fun Z=>aM (h:=3) Z xt (by exact ob1 rfl))
  refine zk (nl (sq (rg ?_)))
  refine z ?_ (h:=fun Z=>b0P (h:=12) (T:=54) Z jx mh)
  refine za (nl (sq (rg ?_)))
  refine z ?_ (h:=fun Z=>aa (xs:=[(.sl 800 0 l.length:A)]) Z kG rfl (by decide) rfl)
  refine zm ?_
  refine z ?_ (h:=fun Z=>ah Z (pG l P (by omega) (by omega)) (ac (ArgV.reg _ _ _ (s:=1) (by simp [isl]) (by exact List.take_of_length_le (by simp [isl]))) (ac (bR (by exact bQ _)) an)) (ResV.row _ _ _ _ 15))
  refine za (nl (sq (sq (rg (zm ?_)))))
  refine z ?_ (h:=fun Z=>lnS Z su)
  refine z ?_ (h:=fun Z=>ab Z vt vc (cW rfl))
  refine nl ?_
  refine wi (fun c1=> ?_) (fun c1=> ?_)
  ·skip
   have c1P:=of_decide_eq_true c1
   have h0:lft l P=0:=Jd ho (of_decide_eq_true c1)
   refine sq (rg (zm ?_))
   refine z ?_ (h:=fun Z=>b0D (h:=20) Z jw iI)
   refine zm ?_
   refine z ?_ (h:=fun Z=>aD_ (h2:=22) (L3:=P) Z jw iI (by exact rfl) rfl (by exact rfl) (by omega))
   refine z ?_ (h:=fun Z=>bs1 (h:=23) Z jx mh (by exact⟨_,_,_,.inl rfl⟩))
   refine z ?_ (h:=fun Z=>aQ (h2:=24) (nm:=[P].length) Z jx mh (by exact⟨_,_,_,.inl rfl⟩) (by simp [iU,hZ]) (by omega) (by simp))
   refine za (nl ?_)
   refine dE (pkD (h:=24) (h1:=22) (T:=54) (T0:=27) (s0:=1) (ex0:=true) (n:=P.length) (L:=[]) (r:=P)) ?_
   refine dE (fzD (k:=6) (h:=24) (T0:=27) (T:=54) (ex0:=true) (n:=[P].length) (L:=([]++[P])) (hn:=by simp)) ?_
   refine aq ?_
   exact⟨_,dK,⟨by kernel_rfl,by kernel_rfl,trivial⟩,da 6 (.a (.slvv 3 (vwD ([]++[P])))) (.a (.slvv 3 (vwD ((tls (n+1) (lft l P)).map (P++ ·))))) (by kernel_rfl) (congrArg (fun z=>B.a (.slvv 3 (vwD z))) (by exact Ls h0))⟩
  ·skip
   have c1P:=of_decide_eq_false c1
   have h0:lft l P≠0:=Je ho (of_decide_eq_false c1)
   have huf:=FZ ho h0
   have hup:=huf.2
   refine sk (sq (sq (rg (zk (nl (bkk ?_))))))
   refine bf (fun(k:Nat)=>k≤2) (fun(k:Nat)=>[kS 1 900 0 P.length,kI 2 most,kP 3 3 0,kS 7 12 0 (((tlk n (lft l P) k).map (P++ ·)).length),kS 8 15 0 ((unc l P).length),kI 9 ((k:Nat):Int),kO 3 26 1 true [(.sl 800 0 l.length:A)],kO 12 27 1 true (rvD ((tlk n (lft l P) k).map (P++ ·))),kO 15 67 2 true (pl (csl (unc l P))),kO 800 3 1 true (pl (isl l)),kO 900 54 3 true (pl (dsl P)),kF 10,kF 11,kF 17,kF 20,kF 22,kF 23,kF 24,kF 29,kF 47,kF 49,kF 54,kF 60,kF 65,kF 67,kF 69,kF 70,kF 73,kF 75,kF 76,kF 78,kF 79,kF 80,kF 81]) (fun(k:Nat)=>2-k) ((0:Nat)) (by exact(Nat.zero_le _:0≤_)) (wkf id (wS<|wS<|wS<|wE (e:=(vsl (by rfl) rfl))<|wS<|wE (e:=(aO (by rfl)))<|wX<|wO (e:=jJ (fun h=>h) rfl rfl)<|wP<|wP<|wP<|by(iterate 23 refine wF ?_);exact wN)) ?_
   rintro k inv2
   replace inv2:k≤2:=inv2
   have inv:=inv2
   have hkl:=CM (n:=n) h0 inv
   have hml:=Nb P (tlk n (lft l P) k)
   refine sq (sq ?_)
   rcases Bool.eq_false_or_eq_true (decide (((k:Nat):Int)<2))with c3 |c3
   ·skip
    have c3P:=of_decide_eq_true c3
    have hk2:k<2:=by omega
    have hd:(⟨(gC (unc l P) 0).x,(gC (unc l P) 0).y,decide (((k:Nat):Int)=1)⟩:Dom)=dmn (au (lft l P)) (decide (((k:Nat):Int)=1)):=by rw[huf.1];rfl
    have hbt:=Kf (b:=decide (((k:Nat):Int)=1)) ho h0
    rw[←hd]at hbt
    have hfi:=(dr hlt h0).1
    have hxb:0≤(gC (unc l P) 0).x∧(gC (unc l P) 0).x≤100∧0≤(gC (unc l P) 0).y∧(gC (unc l P) 0).y≤100:=by rw[huf.1];unfold cN;dsimp only;omega
    refine rg (zm ?_)
    refine z ?_ (h:=fun Z=>ab Z vt vc (bP (c:=true) c3))
    refine zm ?_
    refine zg ?_ (h:=fun Z=>ae rfl rfl (mt Z))
    refine zg ?_ (h:=fun Z=>ae rfl rfl (lnS Z jx))
    refine zg ?_ (h:=fun Z=>ae rfl rfl (mt Z))
    refine zg ?_ (h:=fun Z=>ae rfl rfl (ab Z vt vt (bP rfl)))
    refine z ?_ (h:=fun Z=>al Z vt xt)
    refine nl ?_
    refine wi (fun c4=> ?_) (fun c4=> ?_)
    ·skip
     have c4P:=of_decide_eq_true c4
     refine sk (sq (bkk (sq (cg (zdm ?_)))))
     refine zd ?_ (h:=fun Z=>ix0 (k:=0) Z su xH vc (hlt:=(by omega)))
     refine zd ?_ (h:=fun Z=>ak (off':=(0*2)) Z AU rfl)
     refine zd ?_ (h:=fun Z=>ai Z mg (by exact la (LC (k:=0) (by omega))))
     refine zdm ?_
     refine zd ?_ (h:=fun Z=>ix0 (k:=0) Z su xH vc (hlt:=(by omega)))
     refine zd ?_ (h:=fun Z=>ak (off':=(0*2+1)) Z AV rfl)
     refine zd ?_ (h:=fun Z=>ai Z mg (by exact la (LD (k:=0) (by omega))))
     refine zdm ?_
     refine zd ?_ (h:=fun Z=>ab Z vt vc (cW rfl))
     refine zd ?_ (h:=fun Z=>bD Z Fy vt vt vt)
     refine zd ?_ (h:=fun Z=>aF (h:=10) (cap:=1) (s:=3) (cells:=[aI 0,aI 0,aB false]) Z iI rfl rfl (by decide))
     refine zd ?_ (h:=fun _=>aw (cells:=[aI ((gC (unc l P) 0).x),aI ((gC (unc l P) 0).y),aB (decide (((k:Nat):Int)=1))]) kH xt (by exact rfl) (by decide) (by exact ob1 rfl) (by exact Nat.le_of_ble_eq_true rfl) (by exact rfl))
     refine bJ (sq (rg ?_))
     refine z ?_ (h:=fun Z=>aa (xs:=[vI ((gC (unc l P) 0).x),vI ((gC (unc l P) 0).y),.bool (decide (((k:Nat):Int)=1))].map A.val) Z kH rfl (by decide) rfl)
     refine z ?_ (h:=fun Z=>ah Z (Al (⟨(gC (unc l P) 0).x,(gC (unc l P) 0).y,decide (((k:Nat):Int)=1)⟩:Dom) (by omega)) (ac (ArgV.va va) an) (ResV.agg [vI ((cb (⟨(gC (unc l P) 0).x,(gC (unc l P) 0).y,decide (((k:Nat):Int)=1)⟩:Dom)).x),vI ((cb (⟨(gC (unc l P) 0).x,(gC (unc l P) 0).y,decide (((k:Nat):Int)=1)⟩:Dom)).y)]))
     refine z ?_ (h:=fun Z=>aF (h:=11) (cap:=1) (s:=2) (cells:=[aI 0,aI 0]) Z xI rfl rfl (by decide))
     refine z ?_ (h:=fun _=>aw (cells:=[aI ((cb (⟨(gC (unc l P) 0).x,(gC (unc l P) 0).y,decide (((k:Nat):Int)=1)⟩:Dom)).x),aI ((cb (⟨(gC (unc l P) 0).x,(gC (unc l P) 0).y,decide (((k:Nat):Int)=1)⟩:Dom)).y)]) iH xt (by exact rfl) (by decide) (by exact ob1 rfl) (by exact Nat.le_of_ble_eq_true rfl) (by exact rfl))
     refine nl (sq (sq ?_))
     rcases Bool.eq_false_or_eq_true ((okD (⟨(gC (unc l P) 0).x,(gC (unc l P) 0).y,decide (((k:Nat):Int)=1)⟩:Dom)))with c5 |c5
     ·skip
      have hok:=c5
      rcases Bool.eq_false_or_eq_true ((eJ l (cb (⟨(gC (unc l P) 0).x,(gC (unc l P) 0).y,decide (((k:Nat):Int)=1)⟩:Dom))))with c6 |c6
      ·skip
       have hhc:=c6
       refine rg ?_
       refine z ?_ (h:=fun Z=>aa (xs:=[vI ((gC (unc l P) 0).x),vI ((gC (unc l P) 0).y),.bool (decide (((k:Nat):Int)=1))].map A.val) Z kH rfl (by decide) rfl)
       refine z ?_ (h:=fun Z=>ah Z (cE (⟨(gC (unc l P) 0).x,(gC (unc l P) 0).y,decide (((k:Nat):Int)=1)⟩:Dom) ) (ac (ArgV.va va) an) (aH (congrArg Value.bool c5)))
       refine z ?_ (h:=fun Z=>aK Z vt (bE (c:=false) rfl))
       refine zm ?_
       refine zg ?_ (h:=fun Z=>ae rfl rfl (aa (xs:=[(.sl 800 0 l.length:A)]) Z kG rfl (by decide) rfl))
       refine zg ?_ (h:=fun Z=>ae rfl rfl (aa (xs:=[vI ((cb (⟨(gC (unc l P) 0).x,(gC (unc l P) 0).y,decide (((k:Nat):Int)=1)⟩:Dom)).x),vI ((cb (⟨(gC (unc l P) 0).x,(gC (unc l P) 0).y,decide (((k:Nat):Int)=1)⟩:Dom)).y)].map A.val) Z iH rfl (by decide) rfl))
       refine zg ?_ (h:=fun Z=>ae rfl rfl (ah Z (cB l (cb (⟨(gC (unc l P) 0).x,(gC (unc l P) 0).y,decide (((k:Nat):Int)=1)⟩:Dom)) (by omega)) (ac (ArgV.reg _ _ _ (s:=1) (by simp [isl]) (by exact List.take_of_length_le (by simp [isl]))) (ac (ArgV.va va) an)) (aH (congrArg Value.bool c6))))
       refine zg ?_ (h:=fun Z=>ae rfl rfl (aK Z vt (bE (c:=false) rfl)))
       refine z ?_ (h:=fun Z=>ao Z vt xt)
       refine zm ?_
       refine zg ?_ (h:=fun Z=>ae rfl rfl (mt Z))
       refine zg ?_ (h:=fun Z=>ae rfl rfl (aa (xs:=[vI ((cb (⟨(gC (unc l P) 0).x,(gC (unc l P) 0).y,decide (((k:Nat):Int)=1)⟩:Dom)).x),vI ((cb (⟨(gC (unc l P) 0).x,(gC (unc l P) 0).y,decide (((k:Nat):Int)=1)⟩:Dom)).y)].map A.val) Z iH rfl (by decide) rfl))
       refine zg ?_ (h:=fun Z=>ae rfl rfl (ah Z (mo P (cb (⟨(gC (unc l P) 0).x,(gC (unc l P) 0).y,decide (((k:Nat):Int)=1)⟩:Dom)) (by omega)) (ac (bR (by exact bQ _)) (ac (ArgV.va va) an)) rv))
       refine zg ?_ (h:=fun Z=>ae rfl rfl (ab Z vt vc (r_geq rfl)))
       refine z ?_ (h:=fun Z=>ao Z vt xt)
       refine nl ?_
       refine wi (fun c7=> ?_) (fun c7=> ?_)
       ·skip
        have c7P:=of_decide_eq_true c7
        have hno:fc (lft l P) (⟨(gC (unc l P) 0).x,(gC (unc l P) 0).y,decide (((k:Nat):Int)=1)⟩:Dom)=false:=Hq ho hok hbt (by rw[c7];simp)
        refine aJ (rg (zm ?_))
        refine z ?_ (h:=fun Z=>ab Z vt vc (rA (by omega) (by omega)))
        refine za (nl ?_)
        exact ar ((k+1)) (by show _≤_;omega) (by show 2-(k+1)<2-k;omega) (wkf id (wS<|wS<|wS<|wE (e:=(vsl (by(exact congrArg List.length (by first |rfl |omega |(rw[hls];exact gG hd hft) |(rw[hls];exact Eq.symm (gG hd hft)) |exact gu hd hno |exact Eq.symm (gu hd hno) |(simp [tlk];done)))) rfl))<|wS<|wE (e:=(aO (by rfl)))<|wX<|wQV (e:=(by exact Eq.symm (gu hd hno)))<|wP<|wP<|wP<|by(iterate 23 refine wF ?_);exact wN))
       ·skip
        have c7P:=of_decide_eq_false c7
        have hft:fc (lft l P) (⟨(gC (unc l P) 0).x,(gC (unc l P) 0).y,decide (((k:Nat):Int)=1)⟩:Dom)=true:=Kg ho hok hbt hhc (by have:=of_decide_eq_false c7;omega)
        have hls:=Hv (l:=l) (P:=P) hok
        have hln:=IY (n:=n) hd hft h0 hk2
        have hpc:=iT hft
        refine sk (cg (zdm ?_))
        refine zd ?_ (h:=fun Z=>aa (xs:=[(.sl 800 0 l.length:A)]) Z kG rfl (by decide) rfl)
        refine zd ?_ (h:=fun Z=>b0D (h:=65) Z jw iI)
        refine zdm ?_
        refine zd ?_ (h:=fun Z=>aD_ (h2:=67) (L3:=P) Z jw iI (by exact rfl) rfl (by exact rfl) (by omega))
        refine zd ?_ (h:=fun Z=>aa (xs:=[vI ((gC (unc l P) 0).x),vI ((gC (unc l P) 0).y),.bool (decide (((k:Nat):Int)=1))].map A.val) Z kH rfl (by decide) rfl)
        refine zd ?_ (h:=fun Z=>aR (h:=69) (xs:=dsl ([(⟨(gC (unc l P) 0).x,(gC (unc l P) 0).y,decide (((k:Nat):Int)=1)⟩:Dom)]:List Dom)) Z jw iI (.cons va OpVs.nil) (by decide) (by decide) (by kernel_rfl) rfl)
        refine zd ?_ (h:=fun Z=>aD_ (h2:=70) (L3:=(P++[(⟨(gC (unc l P) 0).x,(gC (unc l P) 0).y,decide (((k:Nat):Int)=1)⟩:Dom)])) Z jw iI (by exact rfl) rfl (by exact rfl) (by(simp;omega)))
        refine zdm (zdm ?_)
        refine zd ?_ (h:=fun Z=>lnS Z jx)
        refine zd ?_ (h:=fun Z=>ab Z vt vt (rS (by omega) (by omega)))
        refine zd ?_ (h:=fun Z=>bo (d:=75) (f:=40) (os:=[(.o 800,some (.o ⟨3,1,true,pl (isl l)⟩)),(.o 70,some (.o ⟨54,3,true,pl (dsl (P++[(⟨(gC (unc l P) 0).x,(gC (unc l P) 0).y,decide (((k:Nat):Int)=1)⟩:Dom)]))⟩))]) (os':=[(.o 800,some (.o ⟨3,1,true,pl (isl l)⟩)),(.o 70,some (.o ⟨54,3,true,pl (dsl (P++[(⟨(gC (unc l P) 0).x,(gC (unc l P) 0).y,decide (((k:Nat):Int)=1)⟩:Dom)]))⟩))]) (r:=V.b (.a (.slvv 3 (vwD ((tls n (lft l (P++[(⟨(gC (unc l P) 0).x,(gC (unc l P) 0).y,decide (((k:Nat):Int)=1)⟩:Dom)]))).map ((P++[(⟨(gC (unc l P) 0).x,(gC (unc l P) 0).y,decide (((k:Nat):Int)=1)⟩:Dom)])++ ·)))))) (bs:=[.agg [(.sl 800 0 l.length:A)],.a (.sl 70 0 ((P++[(⟨(gC (unc l P) 0).x,(gC (unc l P) 0).y,decide (((k:Nat):Int)=1)⟩:Dom)]).length)),.a (.val (.int .i64 (most-((((tlk n (lft l P) k).map (P++ ·)).length:Nat):Int))))]) (keep:=[800,70]) (new:=[]) (dead:=[]) Z (FnO.ren' (ih l (P++[(⟨(gC (unc l P) 0).x,(gC (unc l P) 0).y,decide (((k:Nat):Int)=1)⟩:Dom)]) (most-((((tlk n (lft l P) k).map (P++ ·)).length:Nat):Int)) (by omega) (by omega) (by(rw[hls];omega)) (by(rw[hls];omega)) (by omega) (by(simp only[List.length_append,List.length_singleton];omega))) (bn [(900,70)]) rfl rfl (by kernel_rfl) (by kernel_rfl) ⟨bB (fun _=>rfl),bB (fun _=>rfl),trivial⟩ (by kernel_rfl) rfl (by simp only[cH,Ob.ren,bM,aC,aD,aA,bt,bq];first |done |rfl) (by simp only[cH,Ob.ren,bM,aC,aD,aA,bt,bq];first |done |rfl) rfl rfl) (by kernel_rfl) ⟨bB (fun _=>rfl),bB (fun _=>rfl),trivial⟩ (by kernel_rfl) (ArgOs.cons (ArgO.slot 64 (.agg [(.sl 800 0 l.length:A)])) (ArgOs.cons (ArgO.slot 70 (.a (.sl 70 0 ((P++[(⟨(gC (unc l P) 0).x,(gC (unc l P) 0).y,decide (((k:Nat):Int)=1)⟩:Dom)]).length)))) (ArgOs.cons ((ArgO.v vt)) (ArgOs.nil)))))
        refine zd ?_ (h:=fun Z=>aV (h2:=76) (nm:=(((tlk n (lft l P) k).map (P++ ·))++((tls n (lft l (P++[(⟨(gC (unc l P) 0).x,(gC (unc l P) 0).y,decide (((k:Nat):Int)=1)⟩:Dom)]))).map ((P++[(⟨(gC (unc l P) 0).x,(gC (unc l P) 0).y,decide (((k:Nat):Int)=1)⟩:Dom)])++ ·))).length) (L:=((tlk n (lft l P) k).map (P++ ·))) (M:=((tls n (lft l (P++[(⟨(gC (unc l P) 0).x,(gC (unc l P) 0).y,decide (((k:Nat):Int)=1)⟩:Dom)]))).map ((P++[(⟨(gC (unc l P) 0).x,(gC (unc l P) 0).y,decide (((k:Nat):Int)=1)⟩:Dom)])++ ·))) Z jx mh (by rfl) (by(first |omega |assumption |(simp only[List.length_map];omega) |(rw[hls];simp only[List.length_map];omega) |(rw[hls];omega))) (by simp))
        refine zd ?_ (h:=fun Z=>gt Z)
        refine bJ (rg (zm ?_))
        refine z ?_ (h:=fun Z=>ab Z vt vc (rA (by omega) (by omega)))
        refine za (nl ?_)
        exact ar ((k+1)) (by show _≤_;omega) (by show 2-(k+1)<2-k;omega) (wkf (bn [(12,76)]) (wS<|wS<|wS<|wE (e:=(vsl (by(exact congrArg List.length (by first |rfl |omega |(rw[hls];exact gG hd hft) |(rw[hls];exact Eq.symm (gG hd hft)) |exact gu hd hno |exact Eq.symm (gu hd hno) |(simp [tlk];done)))) rfl))<|wS<|wE (e:=(aO (by rfl)))<|wX<|wQV (e:=(by(rw[hls];exact Eq.symm (gG hd hft))))<|wP<|wP<|wP<|by(iterate 23 refine wF ?_);exact wN))
      ·skip
       have hno:fc (lft l P) (⟨(gC (unc l P) 0).x,(gC (unc l P) 0).y,decide (((k:Nat):Int)=1)⟩:Dom)=false:=Hq ho hok hbt (by rw[c6];rfl)
       refine rg ?_
       refine z ?_ (h:=fun Z=>aa (xs:=[vI ((gC (unc l P) 0).x),vI ((gC (unc l P) 0).y),.bool (decide (((k:Nat):Int)=1))].map A.val) Z kH rfl (by decide) rfl)
       refine z ?_ (h:=fun Z=>ah Z (cE (⟨(gC (unc l P) 0).x,(gC (unc l P) 0).y,decide (((k:Nat):Int)=1)⟩:Dom) ) (ac (ArgV.va va) an) (aH (congrArg Value.bool c5)))
       refine z ?_ (h:=fun Z=>aK Z vt (bE (c:=false) rfl))
       refine zm ?_
       refine zg ?_ (h:=fun Z=>ae rfl rfl (aa (xs:=[(.sl 800 0 l.length:A)]) Z kG rfl (by decide) rfl))
       refine zg ?_ (h:=fun Z=>ae rfl rfl (aa (xs:=[vI ((cb (⟨(gC (unc l P) 0).x,(gC (unc l P) 0).y,decide (((k:Nat):Int)=1)⟩:Dom)).x),vI ((cb (⟨(gC (unc l P) 0).x,(gC (unc l P) 0).y,decide (((k:Nat):Int)=1)⟩:Dom)).y)].map A.val) Z iH rfl (by decide) rfl))
       refine zg ?_ (h:=fun Z=>ae rfl rfl (ah Z (cB l (cb (⟨(gC (unc l P) 0).x,(gC (unc l P) 0).y,decide (((k:Nat):Int)=1)⟩:Dom)) (by omega)) (ac (ArgV.reg _ _ _ (s:=1) (by simp [isl]) (by exact List.take_of_length_le (by simp [isl]))) (ac (ArgV.va va) an)) (aH (congrArg Value.bool c6))))
       refine zg ?_ (h:=fun Z=>ae rfl rfl (aK Z vt (bE (c:=true) rfl)))
       refine z ?_ (h:=fun Z=>ao Z vt xt)
       refine zm (zo (zo (zo (zo ?_))))
       refine z ?_ (h:=fun Z=>al Z vt xc)
       refine nl (wt (aJ (rg (zm ?_))))
       refine z ?_ (h:=fun Z=>ab Z vt vc (rA (by omega) (by omega)))
       refine za (nl ?_)
       exact ar ((k+1)) (by show _≤_;omega) (by show 2-(k+1)<2-k;omega) (wkf id (wS<|wS<|wS<|wE (e:=(vsl (by(exact congrArg List.length (by first |rfl |omega |(rw[hls];exact gG hd hft) |(rw[hls];exact Eq.symm (gG hd hft)) |exact gu hd hno |exact Eq.symm (gu hd hno) |(simp [tlk];done)))) rfl))<|wS<|wE (e:=(aO (by rfl)))<|wX<|wQV (e:=(by exact Eq.symm (gu hd hno)))<|wP<|wP<|wP<|by(iterate 23 refine wF ?_);exact wN))
     ·skip
      have hno:=Dg (s:=lft l P) c5
      refine rg ?_
      refine z ?_ (h:=fun Z=>aa (xs:=[vI ((gC (unc l P) 0).x),vI ((gC (unc l P) 0).y),.bool (decide (((k:Nat):Int)=1))].map A.val) Z kH rfl (by decide) rfl)
      refine z ?_ (h:=fun Z=>ah Z (cE (⟨(gC (unc l P) 0).x,(gC (unc l P) 0).y,decide (((k:Nat):Int)=1)⟩:Dom) ) (ac (ArgV.va va) an) (aH (congrArg Value.bool c5)))
      refine z ?_ (h:=fun Z=>aK Z vt (bE (c:=true) rfl))
      refine zm (zo (zo (zo (zo ?_))))
      refine z ?_ (h:=fun Z=>al Z vt xc)
      refine zm (zo (zo (zo (zo ?_))))
      refine z ?_ (h:=fun Z=>al Z vt xc)
      refine nl (wt (aJ (rg (zm ?_))))
      refine z ?_ (h:=fun Z=>ab Z vt vc (rA (by omega) (by omega)))
      refine za (nl ?_)
      exact ar ((k+1)) (by show _≤_;omega) (by show 2-(k+1)<2-k;omega) (wkf id (wS<|wS<|wS<|wE (e:=(vsl (by(exact congrArg List.length (by first |rfl |omega |(rw[hls];exact gG hd hft) |(rw[hls];exact Eq.symm (gG hd hft)) |exact gu hd hno |exact Eq.symm (gu hd hno) |(simp [tlk];done)))) rfl))<|wS<|wE (e:=(aO (by rfl)))<|wX<|wQV (e:=(by exact Eq.symm (gu hd hno)))<|wP<|wP<|wP<|by(iterate 23 refine wF ?_);exact wN))
    ·skip
     have c4P:=of_decide_eq_false c4
     refine aJ (sq (rg (zm (za (nl ?_)))))
     refine dE (fzV (k:=6) (h:=12) (T0:=27) (ex0:=true) (n:=(((tlk n (lft l P) k).map (P++ ·)).length)) (L:=((tlk n (lft l P) k).map (P++ ·))) (hn:=by rfl)) ?_
     refine aq ?_
     exact⟨_,dK,⟨by kernel_rfl,by kernel_rfl,trivial⟩,da 6 (.a (.slvv 3 (vwD ((tlk n (lft l P) k).map (P++ ·))))) (.a (.slvv 3 (vwD ((tls (n+1) (lft l P)).map (P++ ·))))) (by kernel_rfl) (congrArg (fun z=>B.a (.slvv 3 (vwD z))) (by exact Em h0 (by omega) (by omega)))⟩
   ·skip
    have c3P:=of_decide_eq_false c3
    refine rg (zm ?_)
    refine z ?_ (h:=fun Z=>ab Z vt vc (bP (c:=false) c3))
    refine zm (zo (zo (zo (zo ?_))))
    refine z ?_ (h:=fun Z=>ao Z vt xc)
    refine nl (wf (aJ (sq (rg (zm (za (nl ?_)))))))
    refine dE (fzV (k:=6) (h:=12) (T0:=27) (ex0:=true) (n:=(((tlk n (lft l P) k).map (P++ ·)).length)) (L:=((tlk n (lft l P) k).map (P++ ·))) (hn:=by rfl)) ?_
    refine aq ?_
    exact⟨_,dK,⟨by kernel_rfl,by kernel_rfl,trivial⟩,da 6 (.a (.slvv 3 (vwD ((tlk n (lft l P) k).map (P++ ·))))) (.a (.slvv 3 (vwD ((tls (n+1) (lft l P)).map (P++ ·))))) (by kernel_rfl) (congrArg (fun z=>B.a (.slvv 3 (vwD z))) (by exact Em h0 (by omega) (by omega)))⟩
theorem gS (l:List Int) (hl:l.length≤4194304):FnO Tryz.prog 26 [.agg [(.sl 800 0 l.length:A)]] [(.o 800,some (.o ⟨3,1,true,pl (isl l)⟩))] (V.b (.a (.slvv 3 (vwD (ltR l))))) [(.o 800,some (.o ⟨3,1,true,pl (isl l)⟩))] [800]:=by
 refine co (N:=11) Tryz.func26 rfl (by kernel_rfl) rfl (Nat.le_of_ble_eq_true rfl) rfl rfl (by kernel_rfl) (by kernel_rfl) ⟨bB (fun _=>rfl),trivial⟩ [1,4,5,7,9,10,11,12,13,14] (mn rfl) (fun W own kp im0=> ?_)
 show Wp _ _ _ [kV 0 (V.b (.agg [(.sl 800 0 l.length:A)])),kO 800 3 1 true (pl (isl l)),kF 1,kF 4,kF 5,kF 7,kF 9,kF 10,kF 11,kF 12,kF 13,kF 14]
 refine sq (rg ?_)
 refine z ?_ (h:=fun Z=>aM (h:=1) Z xt (by exact ob1 rfl))
 refine zk (nl (sq (sq (rg ?_))))
 refine z ?_ (h:=fun Z=>aa (xs:=[(.sl 800 0 l.length:A)]) Z kG rfl (by decide) rfl)
 refine z ?_ (h:=fun Z=>ah Z (ov l (by omega)) (ac (ArgV.reg _ _ _ (s:=1) (by simp [isl]) (by exact List.take_of_length_le (by simp [isl]))) an) rv)
 refine z ?_ (h:=fun Z=>ah Z (cP (((cntR l):Nat):Int) 1 300 ) (ac (ArgV.v vt) (ac (ArgV.v vc) (ac (ArgV.v vc) an))) rv)
 refine z ?_ (h:=fun Z=>aK Z vt (bE rfl))
 refine nl ?_
 refine wi (b:=(!(inB (((cntR l):Nat):Int) 1 300))) (fun c1=> ?_) (fun c1=> ?_)
 ·skip
  have c2:(inB (((cntR l):Nat):Int) 1 300)=false:=by first |(rw[←Bool.not_eq_true'];exact c1) |simpa using c1
  have hlt:=vb c2
  refine sq (rg ?_)
  refine z ?_ (h:=fun Z=>b0P (h:=7) (T:=54) Z jx mh)
  refine za (nl ?_)
  refine dE (fzD (k:=2) (h:=7) (T0:=27) (T:=54) (ex0:=true) (n:=0) (L:=[]) (hn:=by simp)) ?_
  refine aq ?_
  exact⟨_,dK,⟨by kernel_rfl,trivial⟩,da 2 (.a (.slvv 3 (vwD []))) (.a (.slvv 3 (vwD (ltR l)))) (by kernel_rfl) (congrArg (fun z=>B.a (.slvv 3 (vwD z))) (by exact hlt.symm))⟩
 ·skip
  have c3:(inB (((cntR l):Nat):Int) 1 300)=true:=by first |(rw[←Bool.not_eq_false'];exact c1) |simpa using c1
  obtain⟨hlt,hro,hl3⟩:=oQ c3
  have hrp:=oV (ag l)
  have hln:=Kj l
  refine sk (sq (rg ?_))
  refine z ?_ (h:=fun Z=>aa (xs:=[(.sl 800 0 l.length:A)]) Z kG rfl (by decide) rfl)
  refine z ?_ (h:=fun Z=>b0D (h:=9) Z jw iI)
  refine z ?_ (h:=fun Z=>bo (d:=10) (f:=40) (os:=[(.o 800,some (.o ⟨3,1,true,pl (isl l)⟩)),(.o 9,some (.o ⟨54,3,true,pl (dsl [])⟩))]) (os':=[(.o 800,some (.o ⟨3,1,true,pl (isl l)⟩)),(.o 9,some (.o ⟨54,3,true,pl (dsl [])⟩))]) (r:=V.b (.a (.slvv 3 (vwD ((tls 33 (lft l [])).map ([]++ ·)))))) (bs:=[.agg [(.sl 800 0 l.length:A)],.a (.sl 9 0 0),.a (.val (.int .i64 300))]) (keep:=[800,9]) (new:=[]) (dead:=[]) Z (FnO.ren' (tY 33 l [] 300 (by omega) (by omega) (by(rw[hln];omega)) (by(rw[hln];omega)) (by omega) (by(simp;done))) (bn [(900,9)]) rfl rfl (by kernel_rfl) (by kernel_rfl) ⟨bB (fun _=>rfl),bB (fun _=>rfl),trivial⟩ (by kernel_rfl) rfl (by simp only[cH,Ob.ren,bM,aC,aD,aA,bt,bq];first |done |rfl) (by simp only[cH,Ob.ren,bM,aC,aD,aA,bt,bq];first |done |rfl) rfl rfl) (by kernel_rfl) ⟨bB (fun _=>rfl),bB (fun _=>rfl),trivial⟩ (by kernel_rfl) (ArgOs.cons (ArgO.slot 8 (.agg [(.sl 800 0 l.length:A)])) (ArgOs.cons (ArgO.slot 9 (.a (.sl 9 0 0))) (ArgOs.cons ((ArgO.v vc)) (ArgOs.nil)))))
  refine za (nl (aq ?_))
  exact⟨_,dK,⟨by kernel_rfl,trivial⟩,da 2 (.a (.slvv 3 (vwD ((tls 33 (lft l [])).map ([]++ ·))))) (.a (.slvv 3 (vwD (ltR l)))) (by kernel_rfl) (congrArg (fun z=>B.a (.slvv 3 (vwD z))) (by(rw[hlt,hln];exact Nc)))⟩
def cin (d:Dom) (i:Nat):Bool:=decide (idx (ca d)=i)||decide (idx (cb d)=i)
theorem ud (d:Dom) (i:Nat):(domS d).testBit i=cin d i:=eR d i
def cvN (P:List Dom) (i:Nat):Nat:=P.countP (fun d=>cin d i)
theorem lS (d:Dom) (P:List Dom) (i:Nat):cvN (d::P) i=cvN P i+(if cin d i=true then 1 else 0):=by unfold cvN;rw[List.countP_cons]
theorem qF {P:List Dom} {d:Dom} {i:Nat} (h:d∈P) (hc:cin d i=true):0<cvN P i:=List.countP_pos_iff.2 ⟨d,h,hc⟩
theorem Gz {P:List Dom} {i:Nat} (h:0<cvN P i):∃ d∈P,cin d i=true:=List.countP_pos_iff.1 h
def SO (P:List Dom):Prop:=P.Pairwise (fun a b=>ord a<ord b)
structure TilS (s:Nat) (P:List Dom):Prop where
 ok:∀ d∈P,okD d=true
 cv:∀ i,cvN P i=if s.testBit i=true then 1 else 0
 so:SO P
def ya:Nat→List Dom→Prop
 | s,[]=>s=0
 | s,d::P=>s≠0∧fc s d=true∧d=dmn (au s) d.d∧ya (andn s (domS d)) P
theorem uu {n s:Nat} (h:s≠0):tls (n+1) s=tlb n s false++tlb n s true:=by rw[tls,if_neg h];rfl
theorem pq {n s:Nat} {b:Bool} {d:Dom} {P:List Dom}:(d::P)∈tlb n s b↔fc s (dmn (au s) b)=true∧d=dmn (au s) b∧P∈tls n (andn s (domS (dmn (au s) b))):=by
 unfold tlb
 split
 ·rename_i h
  rw[List.mem_map]
  constructor
  ·rintro⟨Q,hQ,e⟩
   injection e with e1 e2
   subst e2
   exact⟨h,e1.symm,hQ⟩
  ·rintro⟨_,rfl,hP⟩;exact⟨P,hP,rfl⟩
 ·rename_i h
  constructor
  ·intro e;cases e
  ·intro e;exact absurd e.1 h
theorem ut {n s:Nat} {b:Bool}:¬[]∈tlb n s b:=by
 unfold tlb
 split
 ·rw[List.mem_map];rintro⟨Q,_,e⟩;cases e
 ·intro e;cases e
theorem El:∀ (n s:Nat) (P:List Dom),s<18446744073709551616→jj s<2*n→(P∈tls n s↔ya s P):=by
  intro n
  induction n with
  | zero=>intro s P _ h;omega
  | succ n ih=>
    intro s P hs hp
    by_cases h0:s=0
    · rw[mv h0]
      cases P with
      | nil=>simp [ya,h0]
      | cons d P=>simp [ya,h0]
    · rw[uu h0,List.mem_append]
      cases P with
      | nil=>
        constructor
        · rintro(h |h)<;>exact absurd h ut
        · intro h;exact absurd h h0
      | cons d P=>
        rw[pq,pq]
        have key:∀ b,(fc s (dmn (au s) b)=true∧d=dmn (au s) b∧P∈tls n (andn s (domS (dmn (au s) b))))↔(d.d=b∧ya s (d::P)):=by
          intro b
          constructor
          · rintro⟨h1,rfl,h3⟩
            have:=iT h1
            exact⟨rfl,h0,h1,rfl,(ih _ _ (dQ hs) (by omega)).1 h3⟩
          · rintro⟨rfl,_,h1,h2,h3⟩
            have:=iT h1
            rw[←h2]
            exact⟨h1,rfl,(ih _ _ (dQ hs) (by omega)).2 h3⟩
        rw[key,key]
        constructor
        · rintro(h |h)<;>exact h.2
        · intro h;cases e:d.d
          · exact .inl ⟨rfl,h⟩
          · exact .inr ⟨rfl,h⟩
theorem FX:∀ (n s:Nat),(tls n s).Nodup:=by
  intro n
  induction n with
  | zero=>intro s;simp [tls]
  | succ n ih=>
    intro s
    by_cases h0:s=0
    · rw[mv h0];simp
    · rw[uu h0]
      have hb:∀ b,(tlb n s b).Nodup:=by
        intro b;unfold tlb;split
        · exact List.Pairwise.map _ (fun a c h e=>h (by injection e)) (ih _)
        · simp
      refine List.nodup_append.2 ⟨hb _,hb _,?_⟩
      intro P hP Q hQ e
      subst e
      cases P with
      | nil=>exact ut hP
      | cons d P=>
        have h1:=(pq.1 hP).2.1
        have h2:=(pq.1 hQ).2.1
        rw[h1]at h2
        unfold dmn at h2;simp at h2
theorem pJ (d:Dom):cin d (idx (ca d))=true:=by simp [cin]
theorem zA (d:Dom):cin d (idx (cb d))=true:=by simp [cin]
theorem Gp {d:Dom} (h:okD d=true):idx (ca d)<idx (cb d):=by
 have hb:=eK h
 unfold idx ca cb;cases e:d.d<;>simp [e]<;>omega
theorem JF {s:Nat} {d:Dom} (h:fc s d=true) {i:Nat} (hc:cin d i=true):s.testBit i=true:=by
 obtain⟨_,h1,h2⟩:=BJ h
 unfold cin at hc;simp only[Bool.or_eq_true,decide_eq_true_eq]at hc
 rcases hc with rfl |rfl
 ·exact h1
 ·exact h2
theorem uL {s i:Nat} (h:s.testBit i=true):au s≤i:=by
 rcases Nat.lt_or_ge i (au s)with h1 |h1
 ·rw[ig h1]at h;cases h
 ·exact h1
theorem JA {d:Dom} {i:Nat} (hi:i<64) (h:d=dmn i d.d):idx (ca d)=i:=by rw[h];exact rL _ hi
theorem ND:∀ (P:List Dom) (s:Nat),s<18446744073709551616→ya s P→TilS s P:=by
  intro P
  induction P with
  | nil=>
    intro s _ h
    have h:s=0:=h
    subst h
    exact⟨by simp,fun i=>by rw[Nat.zero_testBit];rfl,List.Pairwise.nil⟩
  | cons d P ih=>
    intro s hs ⟨h0,hf,hd,hr⟩
    have hI:=ih _ (dQ hs) hr
    have hfi:=dr hs h0
    have hda:idx (ca d)=au s:=JA hfi.1 hd
    refine⟨fun e he=> ?_,fun i=> ?_,List.pairwise_cons.2 ⟨fun e he=> ?_,hI.so⟩⟩
    · rcases List.mem_cons.1 he with rfl |he
      · exact(BJ hf).1
      · exact hI.ok e he
    · rw[lS,hI.cv,du,ud]
      cases hc:cin d i
      · simp
      · have:=JF hf hc
        simp [this]
    · have hp:=qF he (pJ e)
      rw[hI.cv,du,ud]at hp
      have hq:(s.testBit (idx (ca e))&& !cin d (idx (ca e)))=true:=by
        cases hz:(s.testBit (idx (ca e))&& !cin d (idx (ca e)))
        · rw[hz]at hp;simp at hp
        · rfl
      simp only[Bool.and_eq_true,Bool.not_eq_true']at hq
      have h1:=uL hq.1
      have h2:idx (ca e)≠au s:=fun e'=>by
        rw[e',←hda,pJ]at hq;exact absurd hq.2 (by simp)
      unfold ord;rw[hda]
      split<;>split<;>omega
theorem NF:∀ (P:List Dom) (s:Nat),s<18446744073709551616→TilS s P→ya s P:=by
  intro P
  induction P with
  | nil=>
    intro s hs h
    rcases Nat.eq_zero_or_pos s with h0 |h0
    · exact h0
    · have hf:=dr hs (by omega)
      have:=h.cv (au s)
      rw[hf.2]at this;simp [cvN]at this
  | cons d P ih=>
    intro s hs h
    have hbit:∀ e∈d::P,∀ i,cin e i=true→s.testBit i=true:=fun e he i hc=>by
      have hp:=qF he hc
      rw[h.cv]at hp
      cases hz:s.testBit i
      · rw[hz]at hp;simp at hp
      · rfl
    have hda:=hbit d (by simp) _ (pJ d)
    have hdb:=hbit d (by simp) _ (zA d)
    have h0:s≠0:=fun e=>by rw[e,Nat.zero_testBit]at hda;cases hda
    have hfi:=dr hs h0
    have hokd:=h.ok d (by simp)
    have hfit:fc s d=true:=by unfold fc;rw[hokd,qK,hda,hdb];rfl
    obtain⟨hhead,hso⟩:=List.pairwise_cons.1 h.so
    have hd:idx (ca d)=au s:=by
      have hp:0<cvN (d::P) (au s):=by rw[h.cv,hfi.2];simp
      obtain⟨e,he,hc⟩:=Gz hp
      have hoe:=h.ok e he
      have hea:idx (ca e)=au s:=by
        unfold cin at hc;simp only[Bool.or_eq_true,decide_eq_true_eq]at hc
        rcases hc with hc |hc
        · exact hc
        · have h1:=uL (hbit e he _ (pJ e))
          have h2:=Gp hoe
          omega
      rcases List.mem_cons.1 he with rfl |he'
      · exact hea
      · have h1:=hhead e he'
        have h2:=uL hda
        unfold ord at h1
        rw[hea]at h1
        cases e1:d.d<;>cases e2:e.d<;>simp [e1,e2]at h1<;>omega
    have hdm:d=dmn (au s) d.d:=by
      have hc:ca d=cN (au s):=gx (eX hokd) (fk hfi.1) (by rw[hd,dF hfi.1])
      unfold ca at hc;unfold dmn;rw[←hc]
    refine⟨h0,hfit,hdm,ih _ (dQ hs) ⟨fun e he=>h.ok e (by simp [he]),fun i=> ?_,hso⟩⟩
    have:=h.cv i
    rw[lS]at this
    rw[du,ud]
    cases hc:cin d i
    · rw[hc]at this;simpa using this
    · rw[hc,hbit d (by simp) i hc]at this
      simp at this;simp [this]
theorem zr {s:Nat} {P:List Dom} (hs:s<18446744073709551616):ya s P↔TilS s P:=⟨ND P s hs,NF P s hs⟩
theorem mQ {l:List Int} {P:List Dom} (h:P∈ltR l):aU l=true∧TilS (ag l) P:=by
 rcases Bool.eq_false_or_eq_true (inB ((cntR l:Nat):Int) 1 300)with e |e
 ·obtain⟨h1,h2,h3⟩:=oQ e
  rw[h1]at h
  have hs:=bb h2
  exact⟨h2,(zr hs).1 ((El 33 _ P hs (by have:=oV (ag l);omega)).1 h)⟩
 ·rw[vb e]at h;cases h
theorem Hx {l:List Int} {P Q:List Dom} (h:P∈ltR l) (hQ:TilS (ag l) Q):Q∈ltR l:=by
 rcases Bool.eq_false_or_eq_true (inB ((cntR l:Nat):Int) 1 300)with e |e
 ·obtain⟨h1,h2,h3⟩:=oQ e
  have hs:=bb h2
  rw[h1]
  exact(El 33 _ Q hs (by have:=oV (ag l);omega)).2 ((zr hs).2 hQ)
 ·rw[vb e]at h;cases h
theorem xr (l:List Int):(ltR l).Nodup:=by
 unfold ltR;split
 ·exact FX _ _
 ·simp
theorem qt {P:List Dom} (h:SO P):P.Nodup:=h.imp fun {a b} h e=>by rw[e]at h;omega
end Cl
end Go.Proofs.YtonlghbbdcddoaaGreat
