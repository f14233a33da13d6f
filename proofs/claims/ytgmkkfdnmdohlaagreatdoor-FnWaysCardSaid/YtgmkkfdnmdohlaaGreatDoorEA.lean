/- Parts put together: E1, E2, E3, E6. -/
import Derived.Test.YtgmkkfdnmdohlaaGreatDoorC16
import Derived.Test.YtgmkkfdnmdohlaaGreatDoorClB
import Derived.Test.YtgmkkfdnmdohlaaGreatDoorC3w
set_option linter.unusedSimpArgs false
set_option linter.unusedVariables false
set_option maxHeartbeats 4000000
set_option maxRecDepth 100000
namespace Go.Proofs.YtgmkkfdnmdohlaaGreatDoor
namespace Cl
open Go.ChangeShapes Go.WideShapes Go.ChangeAt Go.RowKit
theorem gB_ft {k:Nat} (h:k<2):gB [false,true] k=decide (((k:Nat):Int)=1):=by
 match k,h with
 | 0,_=>rfl
 | 1,_=>rfl
def tlb (n s:Nat) (b:Bool):List (List Dom):=if dZ s (dmn (aF s) b)=true then(tls n (andn s (domS (dmn (aF s) b)))).map (dmn (aF s) b:: ·)else []
def tlk (n s:Nat):Nat→List (List Dom)
 | 0=>[]
 | k+1=>tlk n s k++tlb n s (decide (((k:Nat):Int)=1))
theorem pL {n s:Nat} (h:s≠0):tls (n+1) s=tlk n s 2:=by rw[tls,if_neg h];rfl
theorem kG {n s:Nat} (h:s=0):tls (n+1) s=[[]]:=by rw[tls,if_pos h]
theorem FS {n s k:Nat} {d:Dom} (hd:d=dmn (aF s) (decide (((k:Nat):Int)=1))) (h:dZ s d=false):tlk n s (k+1)=tlk n s k:=by
 show tlk n s k++tlb n s _=_
 unfold tlb;rw[←hd,h];simp
theorem Bh {n s k:Nat} {d:Dom} (hd:d=dmn (aF s) (decide (((k:Nat):Int)=1))) (h:dZ s d=true):tlk n s (k+1)=tlk n s k++(tls n (andn s (domS d))).map (d:: ·):=by
  show tlk n s k++tlb n s _=_
  unfold tlb;rw[←hd,if_pos h]
theorem zN {n s k:Nat} (h0:s≠0) (hk:k≤2):(tlk n s k).length≤(tls (n+1) s).length:=by
 rw[pL h0]
 match k,hk with
 | 0,_=>exact Nat.zero_le _
 | 1,_=>show _≤(tlk n s 1++_).length;rw[List.length_append];omega
 | 2,_=>exact Nat.le_refl _
theorem FR {n s k:Nat} (h0:s≠0) (hk:k≤2) (h:(tls (n+1) s).length≤(tlk n s k).length):tlk n s k=tls (n+1) s:=by
  rw[pL h0]at h⊢
  match k,hk,h with
  | 0,_,h=>exact(List.eq_nil_of_length_eq_zero (Nat.le_zero.1 h)).symm
  | 1,_,h=>
    have e:tlk n s 2=tlk n s 1++tlb n s (decide (((1:Nat):Int)=1)):=rfl
    rw[e,List.length_append]at h
    rw[e,List.eq_nil_of_length_eq_zero (l:=tlb n s (decide (((1:Nat):Int)=1))) (by omega),List.append_nil]
  | 2,_,_=>rfl
theorem fG {n s k:Nat} {L:List (List Dom)} {P:List Dom} {d:Dom} (hd:d=dmn (aF s) (decide (((k:Nat):Int)=1))) (h:dZ s d=true):(L++(tlk n s k).map (P++ ·))++(tls n (andn s (domS d))).map ((P++[d])++ ·)=L++(tlk n s (k+1)).map (P++ ·):=by
  rw[Bh hd h,List.map_append,List.map_map,List.append_assoc]
  congr 2
  apply List.map_congr_left
  intro x _;show(P++[d])++x=P++(d::x);rw[List.append_assoc];rfl
theorem ib {n s k:Nat} {L:List (List Dom)} {P:List Dom} {d:Dom} (hd:d=dmn (aF s) (decide (((k:Nat):Int)=1))) (h:dZ s d=false):L++(tlk n s k).map (P++ ·)=L++(tlk n s (k+1)).map (P++ ·):=by rw[FS hd h]
theorem FP {n s k:Nat} {L:List (List Dom)} {P:List Dom} (h0:s≠0) (hk:k≤2) (hk2:¬k<2):L++(tlk n s k).map (P++ ·)=L++(tls (n+1) s).map (P++ ·):=by
  rw[pL h0,show k=2 by omega]
theorem Bg {n s:Nat} {L:List (List Dom)} {P:List Dom} (h0:s=0):L++[P]=L++(tls (n+1) s).map (P++ ·):=by rw[kG h0];simp
theorem FQ {n s k:Nat} {d:Dom} (hd:d=dmn (aF s) (decide (((k:Nat):Int)=1))) (h:dZ s d=true) (h0:s≠0) (hk:k<2):(tlk n s k).length+(tls n (andn s (domS d))).length≤(tls (n+1) s).length:=by
 have:=zN (n:=n) h0 (show k+1≤2 by omega)
 rw[Bh hd h,List.length_append,List.length_map]at this;exact this
theorem Ah {s:Nat} {d:Dom} (h:okD d=false):dZ s d=false:=by unfold dZ;rw[h];rfl
theorem GL {s:Nat} {d:Dom} (h:¬(((s&&&domS d:Nat):Int)=((domS d:Nat):Int))):dZ s d=false:=by
 unfold dZ;rw[decide_eq_false (fun e=>h (by rw[e]))];simp
theorem GM {s:Nat} {d:Dom} (h1:okD d=true) (h:((s&&&domS d:Nat):Int)=((domS d:Nat):Int)):dZ s d=true:=by
 unfold dZ;rw[h1,decide_eq_true (Int.ofNat.inj h)];rfl
theorem CJ {s:Nat} (hlt:s<18446744073709551616) (h0:s≠0):gC (bM s) 0=cN (aF s)∧0<(bM s).length:=by
 have hf:=ed hlt h0
 have hm:cN (aF s)∈bM s:=gw.2 (by unfold bO;rw[fP hf.1,eU hf.1,hf.2];rfl)
 have hpos:=List.length_pos_of_mem hm
 refine⟨?_,hpos⟩
 have h1:=gw.1 (qi hpos)
 obtain⟨j,hj,e⟩:=List.getElem_of_mem hm
 rw[←gk hj]at e
 have hi:idx (gC (bM s) 0)=aF s:=by
  rcases Nat.eq_zero_or_pos j with rfl |hp
  ·rw[e,eU hf.1]
  ·have:=mp (s:=s) hp hj
   rw[e,eU hf.1]at this
   have hb:=kX (s:=s) this
   unfold bO at h1;rw[hb]at h1;simp at h1
 have h2:=dk h1
 rw[←iG h2 (fP hf.1) (by rw[hi,eU hf.1])]
theorem oU {l:List Int} {P:List Dom} (ho:bj l=true):lft l P<18446744073709551616:=ff (dr ho)
theorem Hl (l:List Int):lft l []=ao l:=by unfold lft;exact Bs _ []
theorem Ex {l:List Int} {P:List Dom} {d:Dom} (hd:okD d=true):lft l (P++[d])=andn (lft l P) (domS d):=by
 unfold lft;rw[Gp];congr 1
 unfold lQ;rw[List.foldl_append];show cov1 _ d=_
 unfold cov1;rw[if_pos hd]
theorem FY {l:List Int} {P:List Dom} (ho:bj l=true) (h:((unc l P).length:Int)=0):lft l P=0:=by
 rw[←wR P ho]at h
 exact HD (oU ho) (by rw[←xX (s:=lft l P) (oU ho)];exact Int.ofNat.inj h)
theorem FZ {l:List Int} {P:List Dom} (ho:bj l=true) (h:¬((unc l P).length:Int)=0):lft l P≠0:=by
 intro e
 rw[←wR P ho,show andn (ao l) (lQ P)=lft l P from rfl,e]at h
 exact h (by decide)
theorem CS {l:List Int} {P:List Dom} (ho:bj l=true) (h:lft l P≠0):gC (unc l P) 0=cN (aF (lft l P))∧0<(unc l P).length:=by
 rw[←wR P ho];exact CJ (oU ho) h
theorem Aw {l:List Int} {P:List Dom} {d:Dom} (ho:bj l=true) (hd:okD d=true) (ha:(lft l P).testBit (idx (ca d))=true):dZ (lft l P) d=(gA l (cb d)&&decide (atD P (cb d)<0)):=by
 unfold dZ;rw[hd,Bool.true_and,show decide (lft l P&&&domS d=domS d)=fits (ao l) (lQ P) d from rfl,sz]
 have ha':((ao l).testBit (idx (ca d))&& !(lQ P).testBit (idx (ca d)))=true:=by unfold lft at ha;rw[cE]at ha;exact ha
 rw[ha',Bool.true_and,oF P (oY hd),vP];unfold gA;rw[ho,oY hd];simp
theorem Hj {l:List Int} {P:List Dom} {b:Bool} (ho:bj l=true) (h0:lft l P≠0):(lft l P).testBit (idx (ca (dmn (aF (lft l P)) b)))=true:=by
 have hf:=ed (oU (P:=P) ho) h0
 rw[pV b hf.1];exact hf.2
def ltR (l:List Int):List (List Dom):=if(decide (1≤cntR l)&&decide (cntR l≤300))=true then tls 33 (ao l)else []
theorem sN {l:List Int} (h:inB ((cntR l:Nat):Int) 1 300=false):ltR l=[]:=by
 unfold ltR;rw[if_neg];intro e
 simp only[Bool.and_eq_true,decide_eq_true_eq]at e
 have:=uG.1 h;omega
theorem mO {l:List Int} (h:inB ((cntR l:Nat):Int) 1 300=true):ltR l=tls 33 (ao l)∧bj l=true∧(tls 33 (ao l)).length≤300:=by
 have h1:=bP.1 h
 have hr:bj l=true:=Dp (by omega)
 refine⟨?_,hr,?_⟩
 ·unfold ltR;rw[if_pos];simp only[Bool.and_eq_true,decide_eq_true_eq];omega
 ·rw[wM 33 _ (dr hr) (by have:=mT (ao l);omega)]
  have e:=lP hr
  omega
theorem Ix:∀ n s,∀ P∈tls n s,P.length≤n:=by
  intro n
  induction n with
  | zero=>intro s P h;simp [tls]at h
  | succ n ih=>
    intro s P h
    unfold tls at h
    split at h
    · simp at h;subst h;simp
    · rw[List.mem_append]at h
      rcases h with h |h
      · split at h
        · obtain⟨Q,hQ,rfl⟩:=List.mem_map.1 h
          have:=ih _ Q hQ;simp;omega
        · simp at h
      · split at h
        · obtain⟨Q,hQ,rfl⟩:=List.mem_map.1 h
          have:=ih _ Q hQ;simp;omega
        · simp at h
theorem lf {l:List Int} {k:Nat} (h:k<(ltR l).length):(gLd (ltR l) k).length≤33:=by
 rw[cI h]
 have hm:=List.getElem_mem h
 revert hm
 generalize (ltR l)[k]=P
 intro hm
 unfold ltR at hm
 split at hm
 ·exact Ix 33 _ P hm
 ·simp at hm
theorem ld (l:List Int):(ltR l).length≤300:=by
 rcases Bool.eq_false_or_eq_true (inB ((cntR l:Nat):Int) 1 300)with h |h
 ·obtain⟨h1,_,h2⟩:=mO h
  rw[h1];exact h2
 ·rw[sN h];simp
theorem Ca:∀ (a b:Int) (c:Bool),Tryz.prog.built 62 [(0,.int .i64 a),(1,.int .i64 b),(2,.bool c)]=some ([.int .i64 a,.int .i64 b,.bool c]:List Value).toArray:=fun _ _ _=>rfl
theorem yb:bK Tryz.prog 70 0=some 0:=by kernel_rfl
theorem yc:bK Tryz.prog 70 1=some 1:=by kernel_rfl
theorem Fb:(Tryz.prog.info? 4).map (·.size)=some 1:=by kernel_rfl
theorem Cb:(Tryz.prog.info? 62).map (·.size)=some 3:=by kernel_rfl
theorem oa:TI Tryz.prog 111 false 1:=⟨⟨_,Tryz.underlying111,rfl⟩,by kernel_rfl⟩
theorem vd:TI Tryz.prog 29 true 1:=⟨⟨_,Tryz.underlying29,rfl⟩,by kernel_rfl⟩
theorem yd:TI Tryz.prog 3 false 1:=⟨⟨_,Tryz.underlying3,rfl⟩,by kernel_rfl⟩
theorem gP:TI Tryz.prog 31 false 1:=⟨⟨_,Tryz.underlying31,rfl⟩,by kernel_rfl⟩
theorem Fc:TI Tryz.prog 4 false 1:=⟨⟨_,Tryz.underlying4,rfl⟩,by kernel_rfl⟩
theorem mY:TI Tryz.prog 58 false 1:=⟨⟨_,Tryz.underlying58,rfl⟩,by kernel_rfl⟩
theorem gQ:TI Tryz.prog 62 true 3:=⟨⟨_,Tryz.underlying62,rfl⟩,by kernel_rfl⟩
theorem Cc:TI Tryz.prog 70 true 2:=⟨⟨_,Tryz.underlying70,rfl⟩,by kernel_rfl⟩
theorem Cd:TI Tryz.prog 85 false 1:=⟨⟨_,Tryz.underlying85,rfl⟩,by kernel_rfl⟩
theorem gS:Tryz.prog.underlying 31=some (.slice 62):=Tryz.underlying31
theorem qp:Tryz.prog.underlying 58=some (.slice 31):=Tryz.underlying58
theorem qq:Tryz.prog.underlying 77=some (.slice 4):=Tryz.underlying77
theorem zA:ZI Tryz.prog 111 (.nilFunc) 1 8:=by unfold ZI;kernel_rfl
theorem mZ:ZI Tryz.prog 31 (.slice none 0 0) 1 24:=by unfold ZI;kernel_rfl
theorem Fd:ZI Tryz.prog 4 (.bool false) 1 1:=by unfold ZI;kernel_rfl
theorem Ce:ZI Tryz.prog 58 (.slice none 0 0) 1 24:=by unfold ZI;kernel_rfl
theorem iY:ZI Tryz.prog 62 (.agg #[.int .i64 0,.int .i64 0,.bool false]) 3 24:=by unfold ZI;kernel_rfl
theorem Cf:ZI Tryz.prog 70 (.agg #[.int .i64 0,.int .i64 0]) 2 16:=by unfold ZI;kernel_rfl
theorem eX (ds:List Dom) (hl:ds.length≤1048576):Fn Tryz.prog 44 [.a (.slv ds.length 3 (dsl ds))] [.row 62 3 ds.length (dsl ds)]:=by
 refine bm (N:=6) Tryz.func44 rfl (by kernel_rfl) rfl (Nat.le_of_ble_eq_true rfl) [3,5] (dN rfl) (fun W=> ?_)
 show Wp _ _ _ [kV 0 (V.b (.a (.slv ds.length 3 (dsl ds)))),kF 3,kF 5]
 refine sq (rg (zk (nl (sq (rg ?_)))))
 refine z ?_ (h:=fun Z=>b0D (h:=3) Z gS iY)
 refine zm ?_
 refine z ?_ (h:=fun Z=>gf (h2:=5) (m:=ds.length) (nm:=ds.length) (X:= .slv ds.length 3 (dsl ds)) (xs:=dsl []) (ys:=dsl ds) (zs:=dsl ds) Z gS iY rfl (by decide) (by decide) (by exact cc _) xt (Src.slv _ _ _) (kg _) (by omega) (by exact(dv _ _).symm) (by(simp;done)))
 refine za (nl (aC ?_))
 exact VRes.tmp _ _ _ (by exact rfl) (BRes.row 5 ds.length _ 3 _ (by kernel_rfl) (by exact cc _))
theorem lH (L:List (List Dom)) (P:List Dom) (hP:P.length≤100) (hL:L.length≤1000):FnO Tryz.prog 65 [.a (.sl 12 0 P.length),.a (.ptr 11 0)] [(.o 11,some (.o ⟨58,1,true,[(.sl 13 0 L.length:A)]⟩)),(.o 12,some (.o ⟨62,3,true,pl (dsl P)⟩)),(.o 13,some (.o ⟨31,1,true,rwD 62 L⟩))] (V.v (.tuple #[])) [(.o 11,some (.o ⟨58,1,true,[(.sl 23 0 ((L++[P]).length):A)]⟩)),(.o 12,some (.o ⟨62,3,true,pl (dsl P)⟩)),(.o 23,some (.o ⟨31,1,true,rwD 62 (L++[P])⟩))] [11,12]:=by
 refine bW (N:=8) Tryz.func65 rfl (by kernel_rfl) rfl (Nat.le_of_ble_eq_true rfl) rfl rfl (by kernel_rfl) (by kernel_rfl) ⟨ocs (by kernel_rfl),bh (fun _=>rfl),en,trivial⟩ [5,6,7] (AQ rfl) (fun W own kp im0=> ?_)
 show Wp _ _ _ [kS 0 12 0 P.length,kP 1 11 0,kO 11 58 1 true [(.sl 13 0 L.length:A)],kO 12 62 3 true (pl (dsl P)),kO 13 31 1 true (rwD 62 L),kF 5,kF 6,kF 7]
 refine ch ?_
 refine zd ?_ (h:=fun Z=>ah (x:= .sl 13 0 L.length) Z mY (by exact rfl))
 refine zdm ?_
 refine zd ?_ (h:=fun Z=>ag Z (eX P (by omega)) (ac (ci (by exact cc _)) an) (ResV.row _ _ _ _ 5))
 refine zd ?_ (h:=fun Z=>bs1 (h:=6) Z qp mZ (by exact⟨_,_,_,.inl rfl⟩))
 refine zd ?_ (h:=fun Z=>aQ (h2:=7) (nm:=(L++[P]).length) Z qp mZ (by exact⟨_,_,_,.inl rfl⟩) (by simp [lv,lu]) (by omega) (by simp))
 refine zd ?_ (h:=fun _=>aE (cells:=[(.sl 7 0 ((L++[P]).length):A)]) mY xt (by exact rfl) (by decide) (by exact ob1 rfl) (by exact Nat.le_of_ble_eq_true rfl) (by exact rfl))
 refine bG ?_
 exact⟨[kO 11 58 1 true [(.sl 23 0 ((L++[P]).length):A)],kO 12 62 3 true (pl (dsl P)),kO 23 31 1 true (rwD 62 (L++[P])),kF 6,kF 7],zS (pkD (h:=7) (h1:=5) (T:=62) (T0:=31) (s0:=1) (ex0:=true) (n:=P.length) (L:=L) (r:=P)) (wkf (aX [(23,7)]) (wX<|wP<|wQD<|wF<|wF<|wN)),⟨by kernel_rfl,by kernel_rfl,by kernel_rfl,trivial⟩,trivial⟩
theorem nz:∀ (n:Nat) (s:Nat) (L:List (List Dom)) (P:List Dom) (hs:s<18446744073709551616) (hn:jC s<2*n) (hL:L.length+(tls n s).length≤1000) (hP:P.length+n≤100),FnO Tryz.prog 90 [.a (.val (.int .u64 ((s:Nat):Int))),.a (.ptr 1 0),.a (.ptr 2 0),.a (.ptr 3 0)] [(.o 1,some (.o ⟨85,1,true,[(.fn 65 [11]:A)]⟩)),(.o 2,some (.o ⟨31,1,true,[(.sl 12 0 P.length:A)]⟩)),(.o 3,some (.o ⟨111,1,true,[(.fn 90 [1,2,3]:A)]⟩)),(.o 11,some (.o ⟨58,1,true,[(.sl 13 0 L.length:A)]⟩)),(.o 12,some (.o ⟨62,3,true,pl (dsl P)⟩)),(.o 13,some (.o ⟨31,1,true,rwD 62 L⟩))] (V.v (.tuple #[])) [(.o 1,some (.o ⟨85,1,true,[(.fn 65 [11]:A)]⟩)),(.o 2,some (.o ⟨31,1,true,[(.sl 22 0 P.length:A)]⟩)),(.o 3,some (.o ⟨111,1,true,[(.fn 90 [1,2,3]:A)]⟩)),(.o 11,some (.o ⟨58,1,true,[(.sl 23 0 ((L++(tls n s).map (P++ ·)).length):A)]⟩)),(.o 22,some (.o ⟨62,3,true,pl (dsl P)⟩)),(.o 23,some (.o ⟨31,1,true,rwD 62 (L++(tls n s).map (P++ ·))⟩))] [1,2,3,11]:=by
 intro n
 induction n with
 | zero=>intro s L P hs hn hL hP;exfalso;omega
 | succ n ih=>
  intro s L P hs hn hL hP
  refine bW (N:=55) Tryz.func90 rfl (by kernel_rfl) rfl (Nat.le_of_ble_eq_true rfl) rfl rfl (by kernel_rfl) (by kernel_rfl) ⟨ocs (by kernel_rfl),ocs (by kernel_rfl),ocs (by kernel_rfl),ocs (by kernel_rfl),bh (fun _=>rfl),en,trivial⟩ [5,8,15,16,17,29,33,36,41,42,46,48,51,55,56,57,58,2013] (AQ rfl) (fun W own kp im0=> ?_)
  show Wp _ _ _ [kU 0 ((s:Nat):Int),kP 1 1 0,kP 2 2 0,kP 3 3 0,kO 1 85 1 true [(.fn 65 [11]:A)],kO 2 31 1 true [(.sl 12 0 P.length:A)],kO 3 111 1 true [(.fn 90 [1,2,3]:A)],kO 11 58 1 true [(.sl 13 0 L.length:A)],kO 12 62 3 true (pl (dsl P)),kO 13 31 1 true (rwD 62 L),kF 5,kF 8,kF 15,kF 16,kF 17,kF 29,kF 33,kF 36,kF 41,kF 42,kF 46,kF 48,kF 51,kF 55,kF 56,kF 57,kF 58,kF 2013]
  refine sq (sq (rg (zm ?_)))
  refine z ?_ (h:=fun Z=>aa Z vt vc (ct rfl))
  refine nl ?_
  refine wi (fun c1=> ?_) (fun c1=> ?_)
  ·skip
   have c1P:=of_decide_eq_true c1
   have h0:s=0:=by omega
   refine sq (rg ?_)
   refine z ?_ (h:=fun Z=>ah (x:= .fn 65 [11]) Z Cd (by exact rfl))
   refine z ?_ (h:=fun Z=>ah (x:= .sl 12 0 P.length) Z gP (by exact rfl))
   refine z ?_ (h:=fun Z=>cV (d:=13) (f:=65) (t:=11) (caps:=[11]) (os:=[(.o 11,some (.o ⟨58,1,true,[(.sl 13 0 L.length:A)]⟩)),(.o 12,some (.o ⟨62,3,true,pl (dsl P)⟩)),(.o 13,some (.o ⟨31,1,true,rwD 62 L⟩))]) (os':=[(.o 11,some (.o ⟨58,1,true,[(.sl 5 0 ((L++[P]).length):A)]⟩)),(.o 12,some (.o ⟨62,3,true,pl (dsl P)⟩)),(.o 5,some (.o ⟨31,1,true,rwD 62 (L++[P])⟩))]) (r:=V.v (.tuple #[])) (bs:=[.a (.sl 12 0 P.length)]) (keep:=[11,12]) (new:=[5]) (dead:=[13]) Z (FnO.ren' (lH L P (by omega) (by omega)) (aX [(23,5)]) rfl rfl (by kernel_rfl) (by kernel_rfl) ⟨ocs (by kernel_rfl),bh (fun _=>rfl),en,trivial⟩ (by kernel_rfl) rfl (by simp only[bv,Ob.ren,aY,ak,am,aj,aO,aN];first |done |rfl) (by simp only[bv,Ob.ren,aY,ak,am,aj,aO,aN];first |done |rfl) rfl rfl) (by kernel_rfl) ⟨ocs (by kernel_rfl),bh (fun _=>rfl),en,trivial⟩ (by kernel_rfl) (ArgOs.cons (ArgO.slot 12 (.a (.sl 12 0 P.length))) (ArgOs.nil)))
   refine nl (aC ?_)
   exact⟨[kO 1 85 1 true [(.fn 65 [11]:A)],kO 2 31 1 true [(.sl 22 0 P.length:A)],kO 3 111 1 true [(.fn 90 [1,2,3]:A)],kO 11 58 1 true [(.sl 23 0 ((L++[P]).length):A)],kO 22 62 3 true (pl (dsl P)),kO 23 31 1 true (rwD 62 (L++[P])),kF 5,kF 8,kF 12,kF 15,kF 16,kF 17,kF 29,kF 33,kF 36,kF 41,kF 42,kF 46,kF 48,kF 51,kF 55,kF 56,kF 57,kF 58,kF 2013],wkf (aX [(22,12),(23,5)]) (wX<|wX<|wX<|wX<|wP<|wQD<|by(iterate 19 refine wF ?_);exact wN),⟨by kernel_rfl,by kernel_rfl,by kernel_rfl,bT (c:=[(.sl 23 0 ((L++[P]).length):A)]) (by kernel_rfl) (congrArg (fun z:Nat=>[(A.sl 23 0 z:A)]) (by exact congrArg List.length (Bg h0))),by kernel_rfl,bT (c:=rwD 62 (L++[P])) (by kernel_rfl) (congrArg (fun z=>rwD 62 z) (by exact Bg h0)),trivial⟩,trivial⟩
  ·skip
   have c1P:=of_decide_eq_false c1
   have h0:s≠0:=by omega
   refine sk (sq (rg (zm ?_)))
   refine z ?_ (h:=fun Z=>ag Z (la s (by omega) (by omega)) (ac (ArgV.v vt) an) (ResV.agg [vI ((cN (aF s)).x),vI ((cN (aF s)).y)]))
   refine z ?_ (h:=fun Z=>aL (h:=5) (cap:=1) (s:=2) (cells:=[aI 0,aI 0]) Z Cf rfl rfl (by decide))
   refine z ?_ (h:=fun _=>aE (cells:=[aI ((cN (aF s)).x),aI ((cN (aF s)).y)]) Cc xt (by exact rfl) (by decide) (by exact ob1 rfl) (by exact Nat.le_of_ble_eq_true rfl) (by exact rfl))
   refine nl (sq (rg ?_))
   refine z ?_ (h:=fun Z=>aP (h:=16) (xs:=bsl ([false,true]:List Bool)) Z qq Fd (.cons vc (.cons vc OpVs.nil)) (by decide) (by decide) (by kernel_rfl) rfl)
   refine z ?_ (h:=fun Z=>lnS (iv:=2) Z qq)
   refine z ?_ (h:=fun Z=>mc Z)
   refine nl (bkk ?_)
   refine bg (fun(k:Nat)=>k≤2) (fun(k:Nat)=>[kU 0 ((s:Nat):Int),kP 2 2 0,kP 3 3 0,kP 5 5 0,kS 16 16 0 2,kI 17 2,kI 18 ((k:Nat):Int),kO 1 85 1 true [(.fn 65 [11]:A)],kO 2 31 1 true [(.sl 12 0 P.length:A)],kO 3 111 1 true [(.fn 90 [1,2,3]:A)],kO 5 70 2 true [aI ((cN (aF s)).x),aI ((cN (aF s)).y)],kO 11 58 1 true [(.sl 13 0 ((L++(tlk n s k).map (P++ ·)).length):A)],kO 12 62 3 true (pl (dsl P)),kO 13 31 1 true (rwD 62 (L++(tlk n s k).map (P++ ·))),kO 16 4 1 true (pl (bsl [false,true])),kF 8,kF 15,kF 17,kF 29,kF 33,kF 36,kF 41,kF 42,kF 46,kF 48,kF 51,kF 55,kF 56,kF 57,kF 58,kF 2013]) (fun(k:Nat)=>2-k) ((0:Nat)) (by exact(Nat.zero_le _:0≤_)) (wkf id (wS<|wS<|wS<|wS<|wS<|wS<|wE (e:=(be (by rfl)))<|wX<|wX<|wX<|wX<|wO (e:=gv (fun h=>h) (congrArg (fun z:Nat=>[A.sl 13 0 z]) (by(exact congrArg List.length (by first |rfl |omega |(simp [tlk];done) |exact fG hd hft |exact Eq.symm (fG hd hft) |exact ib hd hno |exact Eq.symm (ib hd hno))))) rfl)<|wP<|wQD (e:=(by(simp [tlk];done)))<|wP<|by(iterate 16 refine wF ?_);exact wN)) ?_
   rintro k inv2
   replace inv2:k≤2:=inv2
   have inv:=inv2
   have hkl:=zN (n:=n) h0 inv
   refine sq (rg ?_)
   refine z ?_ (h:=fun Z=>aa Z vt vt (bA rfl))
   refine nl (sq ?_)
   refine wi (fun c3=> ?_) (fun c3=> ?_)
   ·skip
    have c3P:=of_decide_eq_true c3
    have hk2:k<2:=by omega
    have hd:(⟨(cN (aF s)).x,(cN (aF s)).y,gB [false,true] k⟩:Dom)=dmn (aF s) (decide (((k:Nat):Int)=1)):=by rw[gB_ft hk2];rfl
    have hfi:=(ed hs h0).1
    refine sk (sq (bkk (sq (rg ?_))))
    refine z ?_ (h:=fun Z=>ix0 Z qq Fb vt (hlt:=(by omega)))
    refine z ?_ (h:=fun Z=>lB Z Fc (by omega))
    refine za (nl (sq (rg ?_)))
    refine z ?_ (h:=fun Z=>aq (off':=0) Z yb rfl)
    refine z ?_ (h:=fun Z=>ah (x:= .val (.int .i64 ((cN (aF s)).x))) Z yd (by exact rfl))
    refine z ?_ (h:=fun Z=>aq (off':=1) Z yc rfl)
    refine z ?_ (h:=fun Z=>ah (x:= .val (.int .i64 ((cN (aF s)).y))) Z yd (by exact rfl))
    refine zm ?_
    refine z ?_ (h:=fun Z=>bD Z Ca vt vt vt)
    refine z ?_ (h:=fun Z=>aL (h:=8) (cap:=1) (s:=3) (cells:=[aI 0,aI 0,aB false]) Z iY rfl rfl (by decide))
    refine z ?_ (h:=fun _=>aE (cells:=[aI ((cN (aF s)).x),aI ((cN (aF s)).y),aB (gB [false,true] k)]) gQ xt (by exact rfl) (by decide) (by exact ob1 rfl) (by exact Nat.le_of_ble_eq_true rfl) (by exact rfl))
    refine nl (sq ?_)
    rcases Bool.eq_false_or_eq_true ((okD (⟨(cN (aF s)).x,(cN (aF s)).y,(gB [false,true] k)⟩:Dom)))with c4 |c4
    ·skip
     have hok:=c4
     have hdl:=GD c4
     refine ch ?_
     refine zd ?_ (h:=fun Z=>ab (xs:=[vI ((cN (aF s)).x),vI ((cN (aF s)).y),.bool (gB [false,true] k)].map A.val) Z gQ rfl (by decide) rfl)
     refine zd ?_ (h:=fun Z=>ag Z (fi (⟨(cN (aF s)).x,(cN (aF s)).y,(gB [false,true] k)⟩:Dom) ) (ac (ArgV.va va) an) (bi (congrArg Value.bool c4)))
     refine zdm ?_
     refine zdg ?_ (h:=fun Z=>ae rfl rfl (mt Z))
     refine zdg ?_ (h:=fun Z=>ae rfl rfl (ab (xs:=[vI ((cN (aF s)).x),vI ((cN (aF s)).y),.bool (gB [false,true] k)].map A.val) Z gQ rfl (by decide) rfl))
     refine zdg ?_ (h:=fun Z=>ae rfl rfl (ag Z (fC (⟨(cN (aF s)).x,(cN (aF s)).y,(gB [false,true] k)⟩:Dom) (by omega)) (ac (ArgV.va va) an) rv))
     refine zdg ?_ (h:=fun Z=>ae rfl rfl (aa Z vt vt (io (c:=(((s&&&(domS (⟨(cN (aF s)).x,(cN (aF s)).y,(gB [false,true] k)⟩:Dom))):Nat):Int)) (andU (m:=s) (n:=(domS (⟨(cN (aF s)).x,(cN (aF s)).y,(gB [false,true] k)⟩:Dom))) rfl rfl (by omega) (by omega)))))
     refine zdg ?_ (h:=fun Z=>ae rfl rfl (ab (xs:=[vI ((cN (aF s)).x),vI ((cN (aF s)).y),.bool (gB [false,true] k)].map A.val) Z gQ rfl (by decide) rfl))
     refine zdg ?_ (h:=fun Z=>ae rfl rfl (ag Z (fC (⟨(cN (aF s)).x,(cN (aF s)).y,(gB [false,true] k)⟩:Dom) (by omega)) (ac (ArgV.va va) an) rv))
     refine zdg ?_ (h:=fun Z=>ae rfl rfl (aa Z vt vt (ct rfl)))
     refine zd ?_ (h:=fun Z=>au Z vt xt)
     refine bG ?_
     refine wi (fun c5=> ?_) (fun c5=> ?_)
     ·skip
      have c5P:=of_decide_eq_true c5
      have hft:=GM hok (of_decide_eq_true c5)
      have hln:=FQ (n:=n) hd hft h0 hk2
      have hpc:=gr hft
      refine sq (rg ?_)
      refine z ?_ (h:=fun Z=>ah (x:= .sl 12 0 P.length) Z gP (by exact rfl))
      refine z ?_ (h:=fun Z=>ab (xs:=[vI ((cN (aF s)).x),vI ((cN (aF s)).y),.bool (gB [false,true] k)].map A.val) Z gQ rfl (by decide) rfl)
      refine z ?_ (h:=fun Z=>aP (h:=41) (xs:=dsl ([(⟨(cN (aF s)).x,(cN (aF s)).y,(gB [false,true] k)⟩:Dom)]:List Dom)) Z gS iY (.cons va OpVs.nil) (by decide) (by decide) (by kernel_rfl) rfl)
      refine z ?_ (h:=fun Z=>aD_ (h2:=42) (L3:=(P++[(⟨(cN (aF s)).x,(cN (aF s)).y,(gB [false,true] k)⟩:Dom)])) Z gS iY (by exact rfl) rfl (by exact rfl) (by(simp;omega)))
      refine z ?_ (h:=fun _=>aE (cells:=[(.sl 42 0 ((P++[(⟨(cN (aF s)).x,(cN (aF s)).y,(gB [false,true] k)⟩:Dom)]).length):A)]) gP xt (by exact rfl) (by decide) (by exact ob1 rfl) (by exact Nat.le_of_ble_eq_true rfl) (by exact rfl))
      refine nl (sq (ch ?_))
      refine zd ?_ (h:=fun Z=>ah (x:= .fn 90 [1,2,3]) Z oa (by exact rfl))
      refine zdm ?_
      refine zd ?_ (h:=fun Z=>ab (xs:=[vI ((cN (aF s)).x),vI ((cN (aF s)).y),.bool (gB [false,true] k)].map A.val) Z gQ rfl (by decide) rfl)
      refine zd ?_ (h:=fun Z=>ag Z (fC (⟨(cN (aF s)).x,(cN (aF s)).y,(gB [false,true] k)⟩:Dom) (by omega)) (ac (ArgV.va va) an) rv)
      refine zd ?_ (h:=fun Z=>aa Z vt vt (yv (c:=(((andn s (domS (⟨(cN (aF s)).x,(cN (aF s)).y,(gB [false,true] k)⟩:Dom))):Nat):Int)) (andnU (m:=s) (n:=(domS (⟨(cN (aF s)).x,(cN (aF s)).y,(gB [false,true] k)⟩:Dom))) rfl rfl (by omega) (by omega))))
      refine zd ?_ (h:=fun Z=>cV (d:=48) (f:=90) (t:=43) (caps:=[1,2,3]) (os:=[(.o 1,some (.o ⟨85,1,true,[(.fn 65 [11]:A)]⟩)),(.o 2,some (.o ⟨31,1,true,[(.sl 42 0 ((P++[(⟨(cN (aF s)).x,(cN (aF s)).y,(gB [false,true] k)⟩:Dom)]).length):A)]⟩)),(.o 3,some (.o ⟨111,1,true,[(.fn 90 [1,2,3]:A)]⟩)),(.o 11,some (.o ⟨58,1,true,[(.sl 13 0 ((L++(tlk n s k).map (P++ ·)).length):A)]⟩)),(.o 42,some (.o ⟨62,3,true,pl (dsl (P++[(⟨(cN (aF s)).x,(cN (aF s)).y,(gB [false,true] k)⟩:Dom)]))⟩)),(.o 13,some (.o ⟨31,1,true,rwD 62 (L++(tlk n s k).map (P++ ·))⟩))]) (os':=[(.o 1,some (.o ⟨85,1,true,[(.fn 65 [11]:A)]⟩)),(.o 2,some (.o ⟨31,1,true,[(.sl 15 0 ((P++[(⟨(cN (aF s)).x,(cN (aF s)).y,(gB [false,true] k)⟩:Dom)]).length):A)]⟩)),(.o 3,some (.o ⟨111,1,true,[(.fn 90 [1,2,3]:A)]⟩)),(.o 11,some (.o ⟨58,1,true,[(.sl 17 0 (((L++(tlk n s k).map (P++ ·))++(tls n (andn s (domS (⟨(cN (aF s)).x,(cN (aF s)).y,(gB [false,true] k)⟩:Dom)))).map ((P++[(⟨(cN (aF s)).x,(cN (aF s)).y,(gB [false,true] k)⟩:Dom)])++ ·)).length):A)]⟩)),(.o 15,some (.o ⟨62,3,true,pl (dsl (P++[(⟨(cN (aF s)).x,(cN (aF s)).y,(gB [false,true] k)⟩:Dom)]))⟩)),(.o 17,some (.o ⟨31,1,true,rwD 62 ((L++(tlk n s k).map (P++ ·))++(tls n (andn s (domS (⟨(cN (aF s)).x,(cN (aF s)).y,(gB [false,true] k)⟩:Dom)))).map ((P++[(⟨(cN (aF s)).x,(cN (aF s)).y,(gB [false,true] k)⟩:Dom)])++ ·))⟩))]) (r:=V.v (.tuple #[])) (bs:=[.a (.val (.int .u64 (((andn s (domS (⟨(cN (aF s)).x,(cN (aF s)).y,(gB [false,true] k)⟩:Dom))):Nat):Int)))]) (keep:=[1,2,3,11]) (new:=[15,17]) (dead:=[42,13]) Z (FnO.ren' (ih (andn s (domS (⟨(cN (aF s)).x,(cN (aF s)).y,(gB [false,true] k)⟩:Dom))) (L++(tlk n s k).map (P++ ·)) (P++[(⟨(cN (aF s)).x,(cN (aF s)).y,(gB [false,true] k)⟩:Dom)]) (by exact ff hs) (by omega) (by(simp only[List.length_append,List.length_map,List.length_singleton];omega)) (by(simp only[List.length_append,List.length_map,List.length_singleton];omega))) (aX [(12,42),(22,15),(23,17)]) rfl rfl (by kernel_rfl) (by kernel_rfl) ⟨ocs (by kernel_rfl),ocs (by kernel_rfl),ocs (by kernel_rfl),ocs (by kernel_rfl),bh (fun _=>rfl),en,trivial⟩ (by kernel_rfl) rfl (by simp only[bv,Ob.ren,aY,ak,am,aj,aO,aN];first |done |rfl) (by simp only[bv,Ob.ren,aY,ak,am,aj,aO,aN];first |done |rfl) rfl rfl) (by kernel_rfl) ⟨ocs (by kernel_rfl),ocs (by kernel_rfl),ocs (by kernel_rfl),ocs (by kernel_rfl),bh (fun _=>rfl),en,trivial⟩ (by kernel_rfl) (ArgOs.cons ((ArgO.v vt)) (ArgOs.nil)))
      refine bG (rg ?_)
      refine z ?_ (h:=fun Z=>ah (x:= .sl 15 0 ((P++[(⟨(cN (aF s)).x,(cN (aF s)).y,(gB [false,true] k)⟩:Dom)]).length)) Z gP (by exact rfl))
      refine z ?_ (h:=fun Z=>ah (x:= .sl 15 0 ((P++[(⟨(cN (aF s)).x,(cN (aF s)).y,(gB [false,true] k)⟩:Dom)]).length)) Z gP (by exact rfl))
      refine z ?_ (h:=fun Z=>lnS Z gS)
      refine z ?_ (h:=fun Z=>aa Z vt vc (rS (by omega) (by(simp only[List.length_append,List.length_singleton];omega))))
      refine z ?_ (h:=fun Z=>slS (m:=(((((P++[(⟨(cN (aF s)).x,(cN (aF s)).y,(gB [false,true] k)⟩:Dom)]).length:Nat):Int)-1).toNat)) (off':=0) Z gS Cb (OpB.no _) (OpB.so _ (((((P++[(⟨(cN (aF s)).x,(cN (aF s)).y,(gB [false,true] k)⟩:Dom)]).length:Nat):Int)-1).toNat) vt (Int.toNat_of_nonneg (by(simp only[List.length_append,List.length_singleton];omega))).symm) (by omega) (by omega) (by exact rfl) (by omega))
      refine z ?_ (h:=fun _=>aE (cells:=[(.sl 15 0 (((((P++[(⟨(cN (aF s)).x,(cN (aF s)).y,(gB [false,true] k)⟩:Dom)]).length:Nat):Int)-1).toNat):A)]) gP xt (by exact rfl) (by decide) (by exact ob1 rfl) (by exact Nat.le_of_ble_eq_true rfl) (by exact rfl))
      refine nl ?_
      rw[show((((P++[(⟨(cN (aF s)).x,(cN (aF s)).y,(gB [false,true] k)⟩:Dom)]).length:Nat):Int)-1).toNat=P.length from(by simp)]
      refine dW (trD (h:=15) (T:=62) (ex:=true) (L:=(P++[(⟨(cN (aF s)).x,(cN (aF s)).y,(gB [false,true] k)⟩:Dom)])) (L':=P) (P.length) (hc:=by simp)) ?_
      refine rg ?_
      refine z ?_ (h:=fun Z=>aa Z vt vc (rA (by omega) (by omega)))
      refine zm (nl ?_)
      exact aA ((k+1)) (by show _≤_;omega) (by show 2-(k+1)<2-k;omega) (wkf (aX [(12,15),(13,17)]) (wS<|wS<|wS<|wS<|wS<|wS<|wE (e:=(be (by rfl)))<|wX<|wX<|wX<|wX<|wO (e:=gv (fun h=>h) (congrArg (fun z:Nat=>[A.sl 17 0 z]) (by(exact congrArg List.length (by first |rfl |omega |(simp [tlk];done) |exact fG hd hft |exact Eq.symm (fG hd hft) |exact ib hd hno |exact Eq.symm (ib hd hno))))) rfl)<|wP<|wQD (e:=(by exact Eq.symm (fG hd hft)))<|wP<|by(iterate 16 refine wF ?_);exact wN))
     ·skip
      have c5P:=of_decide_eq_false c5
      have hno:=GL (of_decide_eq_false c5)
      refine sk (rg ?_)
      refine z ?_ (h:=fun Z=>aa Z vt vc (rA (by omega) (by omega)))
      refine zm (nl ?_)
      exact aA ((k+1)) (by show _≤_;omega) (by show 2-(k+1)<2-k;omega) (wkf id (wS<|wS<|wS<|wS<|wS<|wS<|wE (e:=(be (by rfl)))<|wX<|wX<|wX<|wX<|wO (e:=gv (fun h=>h) (congrArg (fun z:Nat=>[A.sl 13 0 z]) (by(exact congrArg List.length (by first |rfl |omega |(simp [tlk];done) |exact fG hd hft |exact Eq.symm (fG hd hft) |exact ib hd hno |exact Eq.symm (ib hd hno))))) rfl)<|wP<|wQD (e:=(by exact Eq.symm (ib hd hno)))<|wP<|by(iterate 16 refine wF ?_);exact wN))
    ·skip
     have hno:=Ah (s:=s) c4
     refine ch ?_
     refine zd ?_ (h:=fun Z=>ab (xs:=[vI ((cN (aF s)).x),vI ((cN (aF s)).y),.bool (gB [false,true] k)].map A.val) Z gQ rfl (by decide) rfl)
     refine zd ?_ (h:=fun Z=>ag Z (fi (⟨(cN (aF s)).x,(cN (aF s)).y,(gB [false,true] k)⟩:Dom) ) (ac (ArgV.va va) an) (bi (congrArg Value.bool c4)))
     refine zdm ?_
     refine zdg ?_ (h:=fun Z=>aG rfl rfl (by decide) rfl Z)
     refine zdg ?_ (h:=fun Z=>aG rfl rfl (by decide) rfl Z)
     refine zdg ?_ (h:=fun Z=>aG rfl rfl (by decide) rfl Z)
     refine zdg ?_ (h:=fun Z=>aG rfl rfl (by decide) rfl Z)
     refine zdg ?_ (h:=fun Z=>aG rfl rfl (by decide) rfl Z)
     refine zdg ?_ (h:=fun Z=>aG rfl rfl (by decide) rfl Z)
     refine zdg ?_ (h:=fun Z=>aG rfl rfl (by decide) rfl Z)
     refine zd ?_ (h:=fun Z=>ar Z vt xc)
     refine bG (wf (sk (rg ?_)))
     refine z ?_ (h:=fun Z=>aa Z vt vc (rA (by omega) (by omega)))
     refine zm (nl ?_)
     exact aA ((k+1)) (by show _≤_;omega) (by show 2-(k+1)<2-k;omega) (wkf id (wS<|wS<|wS<|wS<|wS<|wS<|wE (e:=(be (by rfl)))<|wX<|wX<|wX<|wX<|wO (e:=gv (fun h=>h) (congrArg (fun z:Nat=>[A.sl 13 0 z]) (by(exact congrArg List.length (by first |rfl |omega |(simp [tlk];done) |exact fG hd hft |exact Eq.symm (fG hd hft) |exact ib hd hno |exact Eq.symm (ib hd hno))))) rfl)<|wP<|wQD (e:=(by exact Eq.symm (ib hd hno)))<|wP<|by(iterate 16 refine wF ?_);exact wN))
   ·skip
    have c3P:=of_decide_eq_false c3
    refine aU ?_
    exact⟨[kO 1 85 1 true [(.fn 65 [11]:A)],kO 2 31 1 true [(.sl 22 0 P.length:A)],kO 3 111 1 true [(.fn 90 [1,2,3]:A)],kO 11 58 1 true [(.sl 23 0 ((L++(tlk n s k).map (P++ ·)).length):A)],kO 22 62 3 true (pl (dsl P)),kO 23 31 1 true (rwD 62 (L++(tlk n s k).map (P++ ·))),kF 5,kF 8,kF 12,kF 13,kF 15,kF 16,kF 17,kF 29,kF 33,kF 36,kF 41,kF 42,kF 46,kF 48,kF 51,kF 55,kF 56,kF 57,kF 58,kF 2013],wkf (aX [(22,12),(23,13)]) (wX<|wX<|wX<|wX<|wP<|wQD<|by(iterate 20 refine wF ?_);exact wN),⟨by kernel_rfl,by kernel_rfl,by kernel_rfl,bT (c:=[(.sl 23 0 ((L++(tlk n s k).map (P++ ·)).length):A)]) (by kernel_rfl) (congrArg (fun z:Nat=>[(A.sl 23 0 z:A)]) (by exact congrArg List.length (FP h0 (by omega) (by omega)))),by kernel_rfl,bT (c:=rwD 62 (L++(tlk n s k).map (P++ ·))) (by kernel_rfl) (congrArg (fun z=>rwD 62 z) (by exact FP h0 (by omega) (by omega))),trivial⟩,trivial⟩
theorem oS (s:Nat) (hs:s<18446744073709551616) (hL:(tls 33 s).length≤1000):FnO Tryz.prog 64 [.a (.val (.int .u64 ((s:Nat):Int))),.a (.fn 65 [11])] [(.o 11,some (.o ⟨58,1,true,[(.sl 13 0 0:A)]⟩)),(.o 13,some (.o ⟨31,1,true,rwD 62 []⟩))] (V.v (.tuple #[])) [(.o 11,some (.o ⟨58,1,true,[(.sl 23 0 ((tls 33 s).length):A)]⟩)),(.o 23,some (.o ⟨31,1,true,rwD 62 (tls 33 s)⟩))] [11]:=by
 refine bW (N:=11) Tryz.func64 rfl (by kernel_rfl) rfl (Nat.le_of_ble_eq_true rfl) rfl rfl (by kernel_rfl) (by kernel_rfl) ⟨ocs (by kernel_rfl),en,trivial⟩ [3,4,5,6,10,12,14,2011,2013] (AQ rfl) (fun W own kp im0=> ?_)
 show Wp _ _ _ [kU 0 ((s:Nat):Int),kV 1 (V.b (.a (.fn 65 [11]))),kO 11 58 1 true [(.sl 13 0 0:A)],kO 13 31 1 true (rwD 62 []),kF 3,kF 4,kF 5,kF 6,kF 10,kF 12,kF 14,kF 2011,kF 2013]
 refine sq (rg ?_)
 refine z ?_ (h:=fun Z=>bo (h:=3) Z xt (by exact ob1 rfl))
 refine nl (sq (rg ?_))
 refine z ?_ (h:=fun Z=>b0D (h:=6) Z gS iY)
 refine z ?_ (h:=fun Z=>aL (h:=4) (cap:=1) (s:=1) (cells:=[(.val (.slice none 0 0):A)]) Z mZ rfl rfl (by decide))
 refine z ?_ (h:=fun _=>aE (cells:=[(.sl 6 0 0:A)]) gP xt (by exact rfl) (by decide) (by exact ob1 rfl) (by exact Nat.le_of_ble_eq_true rfl) (by exact rfl))
 refine nl (sq (rg ?_))
 refine z ?_ (h:=fun Z=>aL (h:=5) (cap:=1) (s:=1) (cells:=[(.val (.nilFunc):A)]) Z zA rfl rfl (by decide))
 refine nl (sq (rg ?_))
 refine z ?_ (h:=fun Z=>jS (d:=7) (f:=90) (l:=[(3,3),(4,4),(5,5)]) Z)
 refine z ?_ (h:=fun _=>aE (cells:=[(.fn 90 [3,4,5]:A)]) oa xt (by exact rfl) (by decide) (by exact ob1 rfl) (by exact Nat.le_of_ble_eq_true rfl) (by exact rfl))
 refine nl (rg ?_)
 refine z ?_ (h:=fun Z=>ah (x:= .fn 90 [3,4,5]) Z oa (by exact rfl))
 refine zm ?_
 refine z ?_ (h:=fun Z=>cV (d:=10) (f:=90) (t:=8) (caps:=[3,4,5]) (os:=[(.o 3,some (.o ⟨85,1,true,[(.fn 65 [11]:A)]⟩)),(.o 4,some (.o ⟨31,1,true,[(.sl 6 0 [].length:A)]⟩)),(.o 5,some (.o ⟨111,1,true,[(.fn 90 [3,4,5]:A)]⟩)),(.o 11,some (.o ⟨58,1,true,[(.sl 13 0 [].length:A)]⟩)),(.o 6,some (.o ⟨62,3,true,pl (dsl [])⟩)),(.o 13,some (.o ⟨31,1,true,rwD 62 []⟩))]) (os':=[(.o 3,some (.o ⟨85,1,true,[(.fn 65 [11]:A)]⟩)),(.o 4,some (.o ⟨31,1,true,[(.sl 10 0 [].length:A)]⟩)),(.o 5,some (.o ⟨111,1,true,[(.fn 90 [3,4,5]:A)]⟩)),(.o 11,some (.o ⟨58,1,true,[(.sl 12 0 (([]++(tls 33 s).map ([]++ ·)).length):A)]⟩)),(.o 10,some (.o ⟨62,3,true,pl (dsl [])⟩)),(.o 12,some (.o ⟨31,1,true,rwD 62 ([]++(tls 33 s).map ([]++ ·))⟩))]) (r:=V.v (.tuple #[])) (bs:=[.a (.val (.int .u64 ((s:Nat):Int)))]) (keep:=[3,4,5,11]) (new:=[10,12]) (dead:=[6,13]) Z (FnO.ren' (nz 33 s [] [] (by omega) (by(have:=mT s;omega)) (by(simp;omega)) (by simp)) (aX [(1,3),(2,4),(3,5),(12,6),(22,10),(23,12)]) rfl rfl (by kernel_rfl) (by kernel_rfl) ⟨ocs (by kernel_rfl),ocs (by kernel_rfl),ocs (by kernel_rfl),ocs (by kernel_rfl),bh (fun _=>rfl),en,trivial⟩ (by kernel_rfl) rfl (by simp only[bv,Ob.ren,aY,ak,am,aj,aO,aN];first |done |rfl) (by simp only[bv,Ob.ren,aY,ak,am,aj,aO,aN];first |done |rfl) rfl rfl) (by kernel_rfl) ⟨ocs (by kernel_rfl),ocs (by kernel_rfl),ocs (by kernel_rfl),ocs (by kernel_rfl),bh (fun _=>rfl),en,trivial⟩ (by kernel_rfl) (ArgOs.cons ((ArgO.v vt)) (ArgOs.nil)))
 refine nl ?_
 exact⟨[kO 11 58 1 true [(.sl 23 0 (([]++(tls 33 s).map ([]++ ·)).length):A)],kO 23 31 1 true (rwD 62 ([]++(tls 33 s).map ([]++ ·))),kF 3,kF 4,kF 5,kF 10,kF 12,kF 14,kF 2011,kF 2013],wkf (aX [(23,12)]) (wX<|wQD<|wF<|wF<|wF<|wF<|wF<|wF<|wF<|wF<|wN),⟨bT (c:=[(.sl 23 0 (([]++(tls 33 s).map ([]++ ·)).length):A)]) (by kernel_rfl) (congrArg (fun z:Nat=>[(A.sl 23 0 z:A)]) (by simp)),bT (c:=rwD 62 ([]++(tls 33 s).map ([]++ ·))) (by kernel_rfl) (congrArg (fun z=>rwD 62 z) (by simp)),trivial⟩,trivial⟩
theorem eb (l:List Int) (hl:l.length≤4194304):FnO Tryz.prog 37 [.agg [(.sl 800 0 l.length:A)]] [(.o 800,some (.o ⟨3,1,true,pl (isl l)⟩))] (V.b (.a (.sl 900 0 ((ltR l).length)))) [(.o 800,some (.o ⟨3,1,true,pl (isl l)⟩)),(.o 900,some (.o ⟨31,1,true,rwD 62 (ltR l)⟩))] [800]:=by
 refine bW (N:=14) Tryz.func37 rfl (by kernel_rfl) rfl (Nat.le_of_ble_eq_true rfl) rfl rfl (by kernel_rfl) (by kernel_rfl) ⟨bh (fun _=>rfl),trivial⟩ [1,3,5,6,8,10,12] (ip rfl) (fun W own kp im0=> ?_)
 show Wp _ _ _ [kV 0 (V.b (.agg [(.sl 800 0 l.length:A)])),kO 800 3 1 true (pl (isl l)),kF 1,kF 3,kF 5,kF 6,kF 8,kF 10,kF 12]
 refine sq (rg ?_)
 refine z ?_ (h:=fun Z=>bo (h:=1) Z xt (by exact ob1 rfl))
 refine zk (nl (sq (sq (rg ?_))))
 refine z ?_ (h:=fun Z=>ab (xs:=[(.sl 800 0 l.length:A)]) Z vd rfl (by decide) rfl)
 refine z ?_ (h:=fun Z=>ag Z (lU l (by omega)) (ac (ArgV.reg _ _ _ (s:=1) (by simp [isl]) (by exact List.take_of_length_le (by simp [isl]))) an) rv)
 refine z ?_ (h:=fun Z=>ag Z (sF (((cntR l):Nat):Int) 1 300 ) (ac (ArgV.v vt) (ac (ArgV.v vc) (ac (ArgV.v vc) an))) rv)
 refine z ?_ (h:=fun Z=>bn Z vt (bS rfl))
 refine nl ?_
 refine wi (b:=(!(inB (((cntR l):Nat):Int) 1 300))) (fun c1=> ?_) (fun c1=> ?_)
 ·skip
  have c2:(inB (((cntR l):Nat):Int) 1 300)=false:=by first |(rw[←Bool.not_eq_true'];exact c1) |simpa using c1
  have hlt:=sN c2
  refine sq (rg (zk (nl ?_)))
  refine dW (wnP (k:=2) (h:=3) (T:=31) (T':=62) (by kernel_rfl) (by kernel_rfl)) ?_
  refine aC ?_
  exact⟨[kS 2 900 0 0,kO 800 3 1 true (pl (isl l)),kO 900 31 1 true (rwD 62 []),kF 1,kF 3,kF 5,kF 6,kF 8,kF 10,kF 12],wkf (aX [(900,3)]) (wS<|wP<|wQD<|wF<|wF<|wF<|wF<|wF<|wF<|wF<|wN),⟨by kernel_rfl,bT (c:=rwD 62 []) (by kernel_rfl) (congrArg (fun z=>rwD 62 z) (by exact hlt.symm)),trivial⟩,dC 2 (.a (.sl 900 0 0)) (.a (.sl 900 0 ((ltR l).length))) (by kernel_rfl) (congrArg (fun z:Nat=>B.a (.sl 900 0 z)) (by rw[hlt];rfl))⟩
 ·skip
  have c3:(inB (((cntR l):Nat):Int) 1 300)=true:=by first |(rw[←Bool.not_eq_false'];exact c1) |simpa using c1
  obtain⟨hlt,hro,hl3⟩:=mO c3
  refine sk (sq (rg ?_))
  refine z ?_ (h:=fun Z=>b0P (h:=8) (T:=62) Z qp mZ)
  refine z ?_ (h:=fun Z=>aL (h:=3) (cap:=1) (s:=1) (cells:=[(.val (.slice none 0 0):A)]) Z Ce rfl rfl (by decide))
  refine z ?_ (h:=fun _=>aE (cells:=[(.sl 8 0 0:A)]) mY xt (by exact rfl) (by decide) (by exact ob1 rfl) (by exact Nat.le_of_ble_eq_true rfl) (by exact rfl))
  refine nl (sq (rg ?_))
  refine z ?_ (h:=fun Z=>ab (xs:=[(.sl 800 0 l.length:A)]) Z vd rfl (by decide) rfl)
  refine z ?_ (h:=fun Z=>ag Z (iB l (by omega)) (ac (ArgV.reg _ _ _ (s:=1) (by simp [isl]) (by exact List.take_of_length_le (by simp [isl]))) an) rv)
  refine z ?_ (h:=fun Z=>jS (d:=11) (f:=65) (l:=[(3,3)]) Z)
  refine z ?_ (h:=fun Z=>aK (d:=12) (f:=64) (os:=[(.o 3,some (.o ⟨58,1,true,[(.sl 8 0 0:A)]⟩)),(.o 8,some (.o ⟨31,1,true,rwD 62 []⟩))]) (os':=[(.o 3,some (.o ⟨58,1,true,[(.sl 5 0 ((tls 33 (ao l)).length):A)]⟩)),(.o 5,some (.o ⟨31,1,true,rwD 62 (tls 33 (ao l))⟩))]) (r:=V.v (.tuple #[])) (bs:=[.a (.val (.int .u64 (((ao l):Nat):Int))),.a (.fn 65 [3])]) (keep:=[3]) (new:=[5]) (dead:=[8]) Z (FnO.ren' (oS (ao l) (by exact dr hro) (by omega)) (aX [(11,3),(13,8),(23,5)]) rfl rfl (by kernel_rfl) (by kernel_rfl) ⟨ocs (by kernel_rfl),en,trivial⟩ (by kernel_rfl) rfl (by simp only[bv,Ob.ren,aY,ak,am,aj,aO,aN];first |done |rfl) (by simp only[bv,Ob.ren,aY,ak,am,aj,aO,aN];first |done |rfl) rfl rfl) (by kernel_rfl) ⟨ocs (by kernel_rfl),en,trivial⟩ (by kernel_rfl) (ArgOs.cons ((ArgO.v vt)) (ArgOs.cons (ArgO.slot 11 (.a (.fn 65 [3]))) (ArgOs.nil))))
  refine nl (sq (rg ?_))
  refine z ?_ (h:=fun Z=>ah (x:= .sl 5 0 ((tls 33 (ao l)).length)) Z mY (by exact rfl))
  refine za (nl (aC ?_))
  exact⟨[kS 2 900 0 ((tls 33 (ao l)).length),kO 800 3 1 true (pl (isl l)),kO 900 31 1 true (rwD 62 (tls 33 (ao l))),kF 1,kF 3,kF 5,kF 6,kF 10,kF 12],wkf (aX [(900,5)]) (wS<|wP<|wQD<|wF<|wF<|wF<|wF<|wF<|wF<|wN),⟨by kernel_rfl,bT (c:=rwD 62 (tls 33 (ao l))) (by kernel_rfl) (congrArg (fun z=>rwD 62 z) (by exact hlt.symm)),trivial⟩,dC 2 (.a (.sl 900 0 ((tls 33 (ao l)).length))) (.a (.sl 900 0 ((ltR l).length))) (by kernel_rfl) (congrArg (fun z:Nat=>B.a (.sl 900 0 z)) (by rw[hlt]))⟩
theorem Kb (P:List Dom) (M:List (List Dom)):(M.map (P++ ·)).length=M.length:=by simp
theorem Kc {n s:Nat}:(tls n s).map (fun x=>([]:List Dom)++x)=tls n s:=by
 have:(fun x:List Dom=>([]:List Dom)++x)=id:=funext fun x=>List.nil_append x
 rw[this,List.map_id]
theorem ft {n s k:Nat} {P:List Dom} {d:Dom} (hd:d=dmn (aF s) (decide (((k:Nat):Int)=1))) (h:dZ s d=true):(tlk n s k).map (P++ ·)++(tls n (andn s (domS d))).map ((P++[d])++ ·)=(tlk n s (k+1)).map (P++ ·):=by
  have:=fG (n:=n) (L:=[]) (P:=P) hd h
  simpa using this
theorem fe {n s k:Nat} {P:List Dom} {d:Dom} (hd:d=dmn (aF s) (decide (((k:Nat):Int)=1))) (h:dZ s d=false):(tlk n s k).map (P++ ·)=(tlk n s (k+1)).map (P++ ·):=by rw[FS hd h]
theorem Iy {n s:Nat} {P:List Dom} (h:s=0):[]++[P]=(tls (n+1) s).map (P++ ·):=by rw[kG h];simp
theorem Bj {n s k:Nat} {P:List Dom} (h0:s≠0) (hk:k≤2) (h:¬k<2∨(tls (n+1) s).length≤(tlk n s k).length):(tlk n s k).map (P++ ·)=(tls (n+1) s).map (P++ ·):=by
  rcases h with h |h
  · rw[pL h0,show k=2 by omega]
  · rw[FR h0 hk h]
theorem Eu {l:List Int} {P:List Dom} {d:Dom} (ho:bj l=true) (hd:okD d=true) (ha:(lft l P).testBit (idx (ca d))=true) (h:((!(gA l (cb d)))||(decide (0≤atD P (cb d))))=true):dZ (lft l P) d=false:=by
 rw[Aw ho hd ha]
 simp only[Bool.or_eq_true,Bool.not_eq_true',decide_eq_true_eq]at h
 rcases h with h |h
 ·rw[h];rfl
 ·rw[decide_eq_false (by omega),Bool.and_false]
theorem Hk {l:List Int} {P:List Dom} {d:Dom} (ho:bj l=true) (hd:okD d=true) (ha:(lft l P).testBit (idx (ca d))=true) (h1:gA l (cb d)=true) (h2:atD P (cb d)<0):dZ (lft l P) d=true:=by
 rw[Aw ho hd ha,h1,decide_eq_true h2];rfl
theorem Cg:∀ (a b:Int) (c:Bool),Tryz.prog.built 62 [(0,.int .i64 a),(1,.int .i64 b),(2,.bool c)]=some ([.int .i64 a,.int .i64 b,.bool c]:List Value).toArray:=fun _ _ _=>rfl
theorem ve:∀ (a b:Int),Tryz.prog.built 70 [(0,.int .i64 a),(1,.int .i64 b)]=some ([.int .i64 a,.int .i64 b]:List Value).toArray:=fun _ _=>rfl
theorem qV:bK Tryz.prog 62 0=some 0:=by kernel_rfl
theorem qW:bK Tryz.prog 62 1=some 1:=by kernel_rfl
theorem ye:bK Tryz.prog 62 2=some 2:=by kernel_rfl
theorem yf:bK Tryz.prog 70 0=some 0:=by kernel_rfl
theorem yg:bK Tryz.prog 70 1=some 1:=by kernel_rfl
theorem vf:(Tryz.prog.info? 70).map (·.size)=some 2:=by kernel_rfl
theorem iZ:TI Tryz.prog 29 true 1:=⟨⟨_,Tryz.underlying29,rfl⟩,by kernel_rfl⟩
theorem kt:TI Tryz.prog 3 false 1:=⟨⟨_,Tryz.underlying3,rfl⟩,by kernel_rfl⟩
theorem Fe:TI Tryz.prog 4 false 1:=⟨⟨_,Tryz.underlying4,rfl⟩,by kernel_rfl⟩
theorem ja:TI Tryz.prog 62 true 3:=⟨⟨_,Tryz.underlying62,rfl⟩,by kernel_rfl⟩
theorem fV:TI Tryz.prog 70 true 2:=⟨⟨_,Tryz.underlying70,rfl⟩,by kernel_rfl⟩
theorem gT:Tryz.prog.underlying 31=some (.slice 62):=Tryz.underlying31
theorem qr:Tryz.prog.underlying 36=some (.slice 70):=Tryz.underlying36
theorem gV:Tryz.prog.underlying 58=some (.slice 31):=Tryz.underlying58
theorem ku:ZI Tryz.prog 31 (.slice none 0 0) 1 24:=by unfold ZI;kernel_rfl
theorem fW:ZI Tryz.prog 62 (.agg #[.int .i64 0,.int .i64 0,.bool false]) 3 24:=by unfold ZI;kernel_rfl
theorem vg:ZI Tryz.prog 70 (.agg #[.int .i64 0,.int .i64 0]) 2 16:=by unfold ZI;kernel_rfl
theorem xI (d:Dom) (hb:0≤d.x∧d.x≤100∧0≤d.y∧d.y≤100):Fn Tryz.prog 85 [.agg ([vI d.x,vI d.y,.bool d.d].map A.val)] [.val (.agg ([.int .i64 (cb d).x,.int .i64 (cb d).y]:List Value).toArray)]:=by
 refine bm (N:=17) Tryz.func85 rfl (by kernel_rfl) rfl (Nat.le_of_ble_eq_true rfl) [1,2] (dN rfl) (fun W=> ?_)
 show Wp _ _ _ [kV 0 (V.av [vI d.x,vI d.y,.bool d.d]),kF 1,kF 2]
 refine sq (rg ?_)
 refine z ?_ (h:=fun Z=>bo (h:=1) Z xt (by exact ob1 rfl))
 refine z ?_ (h:=fun Z=>aL (h:=2) (cap:=1) (s:=2) (cells:=[aI 0,aI 0]) Z vg rfl rfl (by decide))
 refine nl (sq (sq (rg ?_)))
 refine z ?_ (h:=fun Z=>aq (off':=2) Z ye rfl)
 refine z ?_ (h:=fun Z=>ah (x:= .val (.bool d.d)) Z Fe (by exact rfl))
 refine nl ?_
 refine wi (b:=d.d) (fun c1=> ?_) (fun c1=> ?_)
 ·skip
  refine sq (rg ?_)
  refine z ?_ (h:=fun Z=>aq (off':=0) Z qV rfl)
  refine z ?_ (h:=fun Z=>ah (x:= .val (.int .i64 d.x)) Z kt (by exact rfl))
  refine z ?_ (h:=fun Z=>aq (off':=1) Z qW rfl)
  refine z ?_ (h:=fun Z=>ah (x:= .val (.int .i64 d.y)) Z kt (by exact rfl))
  refine z ?_ (h:=fun Z=>aa Z vt vc rA)
  refine z ?_ (h:=fun Z=>bC Z ve vt vt)
  refine z ?_ (h:=fun _=>aE (cells:=[aI d.x,aI (d.y+1)]) fV xt (by exact rfl) (by decide) (by exact ob1 rfl) (by exact Nat.le_of_ble_eq_true rfl) (by exact rfl))
  refine nl (aC ?_)
  exact VRes.cells 2 70 2 ⟨70,2,true,[aI d.x,aI (d.y+1)]⟩ _ (by kernel_rfl) (by kernel_rfl) fV (Nat.le_of_ble_eq_true rfl) (pQ (vs:=[vI d.x,vI (d.y+1)]) (by(unfold cb;simp_all;done)))
 ·skip
  refine sk (sq (rg ?_))
  refine z ?_ (h:=fun Z=>aq (off':=0) Z qV rfl)
  refine z ?_ (h:=fun Z=>ah (x:= .val (.int .i64 d.x)) Z kt (by exact rfl))
  refine z ?_ (h:=fun Z=>aa Z vt vc rA)
  refine z ?_ (h:=fun Z=>aq (off':=1) Z qW rfl)
  refine z ?_ (h:=fun Z=>ah (x:= .val (.int .i64 d.y)) Z kt (by exact rfl))
  refine z ?_ (h:=fun Z=>bC Z ve vt vt)
  refine z ?_ (h:=fun _=>aE (cells:=[aI (d.x+1),aI d.y]) fV xt (by exact rfl) (by decide) (by exact ob1 rfl) (by exact Nat.le_of_ble_eq_true rfl) (by exact rfl))
  refine nl (aC ?_)
  exact VRes.cells 2 70 2 ⟨70,2,true,[aI (d.x+1),aI d.y]⟩ _ (by kernel_rfl) (by kernel_rfl) fV (Nat.le_of_ble_eq_true rfl) (pQ (vs:=[vI (d.x+1),vI d.y]) (by(unfold cb;simp_all;done)))
theorem rC:∀ (n:Nat) (l:List Int) (P:List Dom) (most:Int) (hl:l.length≤4194304) (ho:bj l=true) (hn:jC (lft l P)<2*n) (hm:((tls n (lft l P)).length:Int)≤most) (hm3:most≤300) (hP:P.length+n≤100),FnO Tryz.prog 60 [.agg [(.sl 800 0 l.length:A)],.a (.sl 900 0 P.length),.a (.val (.int .i64 most))] [(.o 800,some (.o ⟨3,1,true,pl (isl l)⟩)),(.o 900,some (.o ⟨62,3,true,pl (dsl P)⟩))] (V.b (.a (.slvv 3 (vwD ((tls n (lft l P)).map (P++ ·)))))) [(.o 800,some (.o ⟨3,1,true,pl (isl l)⟩)),(.o 900,some (.o ⟨62,3,true,pl (dsl P)⟩))] [800,900]:=by
 intro n
 induction n with
 | zero=>intro l P most hl ho hn hm hm3 hP;exfalso;omega
 | succ n ih=>
  intro l P most hl ho hn hm hm3 hP
  have hlt:=oU (l:=l) (P:=P) ho
  have hul:=IA l P
  refine bW (N:=78) Tryz.func60 rfl (by kernel_rfl) rfl (Nat.le_of_ble_eq_true rfl) rfl rfl (by kernel_rfl) (by kernel_rfl) ⟨bh (fun _=>rfl),bh (fun _=>rfl),trivial⟩ [3,10,11,12,15,17,20,22,23,24,29,47,49,54,60,65,67,69,70,73,75,76,78,79,80,81] (ip rfl) (fun W own kp im0=> ?_)
  show Wp _ _ _ [kV 0 (V.b (.agg [(.sl 800 0 l.length:A)])),kS 1 900 0 P.length,kI 2 most,kO 800 3 1 true (pl (isl l)),kO 900 62 3 true (pl (dsl P)),kF 3,kF 10,kF 11,kF 12,kF 15,kF 17,kF 20,kF 22,kF 23,kF 24,kF 29,kF 47,kF 49,kF 54,kF 60,kF 65,kF 67,kF 69,kF 70,kF 73,kF 75,kF 76,kF 78,kF 79,kF 80,kF 81]
  refine sq (rg ?_)
  refine z ?_ (h:=fun Z=>bo (h:=3) Z xt (by exact ob1 rfl))
  refine zk (nl (sq (rg ?_)))
  refine z ?_ (h:=fun Z=>b0P (h:=12) (T:=62) Z gV ku)
  refine za (nl (sq (rg ?_)))
  refine z ?_ (h:=fun Z=>ab (xs:=[(.sl 800 0 l.length:A)]) Z iZ rfl (by decide) rfl)
  refine zm ?_
  refine z ?_ (h:=fun Z=>ag Z (nC l P (by omega) (by omega)) (ac (ArgV.reg _ _ _ (s:=1) (by simp [isl]) (by exact List.take_of_length_le (by simp [isl]))) (ac (ci (by exact cc _)) an)) (ResV.row _ _ _ _ 15))
  refine za (nl (sq (sq (rg (zm ?_)))))
  refine z ?_ (h:=fun Z=>lnS Z qr)
  refine z ?_ (h:=fun Z=>aa Z vt vc (ct rfl))
  refine nl ?_
  refine wi (fun c1=> ?_) (fun c1=> ?_)
  ·skip
   have c1P:=of_decide_eq_true c1
   have h0:lft l P=0:=FY ho (of_decide_eq_true c1)
   refine sq (rg (zm ?_))
   refine z ?_ (h:=fun Z=>b0D (h:=20) Z gT fW)
   refine zm ?_
   refine z ?_ (h:=fun Z=>aD_ (h2:=22) (L3:=P) Z gT fW (by exact rfl) rfl (by exact rfl) (by omega))
   refine z ?_ (h:=fun Z=>bs1 (h:=23) Z gV ku (by exact⟨_,_,_,.inl rfl⟩))
   refine z ?_ (h:=fun Z=>aQ (h2:=24) (nm:=[P].length) Z gV ku (by exact⟨_,_,_,.inl rfl⟩) (by simp [lv,lu]) (by omega) (by simp))
   refine za (nl ?_)
   refine dW (pkD (h:=24) (h1:=22) (T:=62) (T0:=31) (s0:=1) (ex0:=true) (n:=P.length) (L:=[]) (r:=P)) ?_
   refine dW (fzD (k:=6) (h:=24) (T0:=31) (T:=62) (ex0:=true) (n:=[P].length) (L:=([]++[P])) (hn:=by simp)) ?_
   refine aC ?_
   exact⟨_,dt,⟨by kernel_rfl,by kernel_rfl,trivial⟩,dC 6 (.a (.slvv 3 (vwD ([]++[P])))) (.a (.slvv 3 (vwD ((tls (n+1) (lft l P)).map (P++ ·))))) (by kernel_rfl) (congrArg (fun z=>B.a (.slvv 3 (vwD z))) (by exact Iy h0))⟩
  ·skip
   have c1P:=of_decide_eq_false c1
   have h0:lft l P≠0:=FZ ho (of_decide_eq_false c1)
   have huf:=CS ho h0
   have hup:=huf.2
   refine sk (sq (sq (rg (zk (nl (bkk ?_))))))
   refine bg (fun(k:Nat)=>k≤2) (fun(k:Nat)=>[kS 1 900 0 P.length,kI 2 most,kP 3 3 0,kS 7 12 0 (((tlk n (lft l P) k).map (P++ ·)).length),kS 8 15 0 ((unc l P).length),kI 9 ((k:Nat):Int),kO 3 29 1 true [(.sl 800 0 l.length:A)],kO 12 31 1 true (rvD ((tlk n (lft l P) k).map (P++ ·))),kO 15 70 2 true (pl (csl (unc l P))),kO 800 3 1 true (pl (isl l)),kO 900 62 3 true (pl (dsl P)),kF 10,kF 11,kF 17,kF 20,kF 22,kF 23,kF 24,kF 29,kF 47,kF 49,kF 54,kF 60,kF 65,kF 67,kF 69,kF 70,kF 73,kF 75,kF 76,kF 78,kF 79,kF 80,kF 81]) (fun(k:Nat)=>2-k) ((0:Nat)) (by exact(Nat.zero_le _:0≤_)) (wkf id (wS<|wS<|wS<|wE (e:=(vsl (by rfl) rfl))<|wS<|wE (e:=(be (by rfl)))<|wX<|wO (e:=gv (fun h=>h) rfl rfl)<|wP<|wP<|wP<|by(iterate 23 refine wF ?_);exact wN)) ?_
   rintro k inv2
   replace inv2:k≤2:=inv2
   have inv:=inv2
   have hkl:=zN (n:=n) h0 inv
   have hml:=Kb P (tlk n (lft l P) k)
   refine sq (sq ?_)
   rcases Bool.eq_false_or_eq_true (decide (((k:Nat):Int)<2))with c3 |c3
   ·skip
    have c3P:=of_decide_eq_true c3
    have hk2:k<2:=by omega
    have hd:(⟨(gC (unc l P) 0).x,(gC (unc l P) 0).y,decide (((k:Nat):Int)=1)⟩:Dom)=dmn (aF (lft l P)) (decide (((k:Nat):Int)=1)):=by rw[huf.1];rfl
    have hbt:=Hj (b:=decide (((k:Nat):Int)=1)) ho h0
    rw[←hd]at hbt
    have hfi:=(ed hlt h0).1
    have hxb:0≤(gC (unc l P) 0).x∧(gC (unc l P) 0).x≤100∧0≤(gC (unc l P) 0).y∧(gC (unc l P) 0).y≤100:=by rw[huf.1];unfold cN;dsimp only;omega
    refine rg (zm ?_)
    refine z ?_ (h:=fun Z=>aa Z vt vc (bA (c:=true) c3))
    refine zm ?_
    refine zg ?_ (h:=fun Z=>ae rfl rfl (mt Z))
    refine zg ?_ (h:=fun Z=>ae rfl rfl (lnS Z gV))
    refine zg ?_ (h:=fun Z=>ae rfl rfl (mt Z))
    refine zg ?_ (h:=fun Z=>ae rfl rfl (aa Z vt vt (bA rfl)))
    refine z ?_ (h:=fun Z=>au Z vt xt)
    refine nl ?_
    refine wi (fun c4=> ?_) (fun c4=> ?_)
    ·skip
     have c4P:=of_decide_eq_true c4
     refine sk (sq (bkk (sq (ch (zdm ?_)))))
     refine zd ?_ (h:=fun Z=>ix0 (k:=0) Z qr vf vc (hlt:=(by omega)))
     refine zd ?_ (h:=fun Z=>aq (off':=(0*2)) Z yf rfl)
     refine zd ?_ (h:=fun Z=>ah Z kt (by exact jY (IT (k:=0) (by omega))))
     refine zdm ?_
     refine zd ?_ (h:=fun Z=>ix0 (k:=0) Z qr vf vc (hlt:=(by omega)))
     refine zd ?_ (h:=fun Z=>aq (off':=(0*2+1)) Z yg rfl)
     refine zd ?_ (h:=fun Z=>ah Z kt (by exact jY (IU (k:=0) (by omega))))
     refine zdm ?_
     refine zd ?_ (h:=fun Z=>aa Z vt vc (ct rfl))
     refine zd ?_ (h:=fun Z=>bD Z Cg vt vt vt)
     refine zd ?_ (h:=fun Z=>aL (h:=10) (cap:=1) (s:=3) (cells:=[aI 0,aI 0,aB false]) Z fW rfl rfl (by decide))
     refine zd ?_ (h:=fun _=>aE (cells:=[aI ((gC (unc l P) 0).x),aI ((gC (unc l P) 0).y),aB (decide (((k:Nat):Int)=1))]) ja xt (by exact rfl) (by decide) (by exact ob1 rfl) (by exact Nat.le_of_ble_eq_true rfl) (by exact rfl))
     refine bG (sq (rg ?_))
     refine z ?_ (h:=fun Z=>ab (xs:=[vI ((gC (unc l P) 0).x),vI ((gC (unc l P) 0).y),.bool (decide (((k:Nat):Int)=1))].map A.val) Z ja rfl (by decide) rfl)
     refine z ?_ (h:=fun Z=>ag Z (xI (⟨(gC (unc l P) 0).x,(gC (unc l P) 0).y,decide (((k:Nat):Int)=1)⟩:Dom) (by omega)) (ac (ArgV.va va) an) (ResV.agg [vI ((cb (⟨(gC (unc l P) 0).x,(gC (unc l P) 0).y,decide (((k:Nat):Int)=1)⟩:Dom)).x),vI ((cb (⟨(gC (unc l P) 0).x,(gC (unc l P) 0).y,decide (((k:Nat):Int)=1)⟩:Dom)).y)]))
     refine z ?_ (h:=fun Z=>aL (h:=11) (cap:=1) (s:=2) (cells:=[aI 0,aI 0]) Z vg rfl rfl (by decide))
     refine z ?_ (h:=fun _=>aE (cells:=[aI ((cb (⟨(gC (unc l P) 0).x,(gC (unc l P) 0).y,decide (((k:Nat):Int)=1)⟩:Dom)).x),aI ((cb (⟨(gC (unc l P) 0).x,(gC (unc l P) 0).y,decide (((k:Nat):Int)=1)⟩:Dom)).y)]) fV xt (by exact rfl) (by decide) (by exact ob1 rfl) (by exact Nat.le_of_ble_eq_true rfl) (by exact rfl))
     refine nl (sq (sq ?_))
     rcases Bool.eq_false_or_eq_true ((okD (⟨(gC (unc l P) 0).x,(gC (unc l P) 0).y,decide (((k:Nat):Int)=1)⟩:Dom)))with c5 |c5
     ·skip
      have hok:=c5
      rcases Bool.eq_false_or_eq_true ((gA l (cb (⟨(gC (unc l P) 0).x,(gC (unc l P) 0).y,decide (((k:Nat):Int)=1)⟩:Dom))))with c6 |c6
      ·skip
       have hhc:=c6
       refine rg ?_
       refine z ?_ (h:=fun Z=>ab (xs:=[vI ((gC (unc l P) 0).x),vI ((gC (unc l P) 0).y),.bool (decide (((k:Nat):Int)=1))].map A.val) Z ja rfl (by decide) rfl)
       refine z ?_ (h:=fun Z=>ag Z (eh (⟨(gC (unc l P) 0).x,(gC (unc l P) 0).y,decide (((k:Nat):Int)=1)⟩:Dom) ) (ac (ArgV.va va) an) (bi (congrArg Value.bool c5)))
       refine z ?_ (h:=fun Z=>bn Z vt (bS (c:=false) rfl))
       refine zm ?_
       refine zg ?_ (h:=fun Z=>ae rfl rfl (ab (xs:=[(.sl 800 0 l.length:A)]) Z iZ rfl (by decide) rfl))
       refine zg ?_ (h:=fun Z=>ae rfl rfl (ab (xs:=[vI ((cb (⟨(gC (unc l P) 0).x,(gC (unc l P) 0).y,decide (((k:Nat):Int)=1)⟩:Dom)).x),vI ((cb (⟨(gC (unc l P) 0).x,(gC (unc l P) 0).y,decide (((k:Nat):Int)=1)⟩:Dom)).y)].map A.val) Z fV rfl (by decide) rfl))
       refine zg ?_ (h:=fun Z=>ae rfl rfl (ag Z (eC l (cb (⟨(gC (unc l P) 0).x,(gC (unc l P) 0).y,decide (((k:Nat):Int)=1)⟩:Dom)) (by omega)) (ac (ArgV.reg _ _ _ (s:=1) (by simp [isl]) (by exact List.take_of_length_le (by simp [isl]))) (ac (ArgV.va va) an)) (bi (congrArg Value.bool c6))))
       refine zg ?_ (h:=fun Z=>ae rfl rfl (bn Z vt (bS (c:=false) rfl)))
       refine z ?_ (h:=fun Z=>ar Z vt xt)
       refine zm ?_
       refine zg ?_ (h:=fun Z=>ae rfl rfl (mt Z))
       refine zg ?_ (h:=fun Z=>ae rfl rfl (ab (xs:=[vI ((cb (⟨(gC (unc l P) 0).x,(gC (unc l P) 0).y,decide (((k:Nat):Int)=1)⟩:Dom)).x),vI ((cb (⟨(gC (unc l P) 0).x,(gC (unc l P) 0).y,decide (((k:Nat):Int)=1)⟩:Dom)).y)].map A.val) Z fV rfl (by decide) rfl))
       refine zg ?_ (h:=fun Z=>ae rfl rfl (ag Z (kC P (cb (⟨(gC (unc l P) 0).x,(gC (unc l P) 0).y,decide (((k:Nat):Int)=1)⟩:Dom)) (by omega)) (ac (ci (by exact cc _)) (ac (ArgV.va va) an)) rv))
       refine zg ?_ (h:=fun Z=>ae rfl rfl (aa Z vt vc (Fk rfl)))
       refine z ?_ (h:=fun Z=>ar Z vt xt)
       refine nl ?_
       refine wi (fun c7=> ?_) (fun c7=> ?_)
       ·skip
        have c7P:=of_decide_eq_true c7
        have hno:dZ (lft l P) (⟨(gC (unc l P) 0).x,(gC (unc l P) 0).y,decide (((k:Nat):Int)=1)⟩:Dom)=false:=Eu ho hok hbt (by rw[c7];simp)
        refine aU (rg (zm ?_))
        refine z ?_ (h:=fun Z=>aa Z vt vc (rA (by omega) (by omega)))
        refine za (nl ?_)
        exact aA ((k+1)) (by show _≤_;omega) (by show 2-(k+1)<2-k;omega) (wkf id (wS<|wS<|wS<|wE (e:=(vsl (by(exact congrArg List.length (by first |rfl |omega |(rw[hls];exact ft hd hft) |(rw[hls];exact Eq.symm (ft hd hft)) |exact fe hd hno |exact Eq.symm (fe hd hno) |(simp [tlk];done)))) rfl))<|wS<|wE (e:=(be (by rfl)))<|wX<|wQV (e:=(by exact Eq.symm (fe hd hno)))<|wP<|wP<|wP<|by(iterate 23 refine wF ?_);exact wN))
       ·skip
        have c7P:=of_decide_eq_false c7
        have hft:dZ (lft l P) (⟨(gC (unc l P) 0).x,(gC (unc l P) 0).y,decide (((k:Nat):Int)=1)⟩:Dom)=true:=Hk ho hok hbt hhc (by have:=of_decide_eq_false c7;omega)
        have hls:=Ex (l:=l) (P:=P) hok
        have hln:=FQ (n:=n) hd hft h0 hk2
        have hpc:=gr hft
        refine sk (ch (zdm ?_))
        refine zd ?_ (h:=fun Z=>ab (xs:=[(.sl 800 0 l.length:A)]) Z iZ rfl (by decide) rfl)
        refine zd ?_ (h:=fun Z=>b0D (h:=65) Z gT fW)
        refine zdm ?_
        refine zd ?_ (h:=fun Z=>aD_ (h2:=67) (L3:=P) Z gT fW (by exact rfl) rfl (by exact rfl) (by omega))
        refine zd ?_ (h:=fun Z=>ab (xs:=[vI ((gC (unc l P) 0).x),vI ((gC (unc l P) 0).y),.bool (decide (((k:Nat):Int)=1))].map A.val) Z ja rfl (by decide) rfl)
        refine zd ?_ (h:=fun Z=>aP (h:=69) (xs:=dsl ([(⟨(gC (unc l P) 0).x,(gC (unc l P) 0).y,decide (((k:Nat):Int)=1)⟩:Dom)]:List Dom)) Z gT fW (.cons va OpVs.nil) (by decide) (by decide) (by kernel_rfl) rfl)
        refine zd ?_ (h:=fun Z=>aD_ (h2:=70) (L3:=(P++[(⟨(gC (unc l P) 0).x,(gC (unc l P) 0).y,decide (((k:Nat):Int)=1)⟩:Dom)])) Z gT fW (by exact rfl) rfl (by exact rfl) (by(simp;omega)))
        refine zdm (zdm ?_)
        refine zd ?_ (h:=fun Z=>lnS Z gV)
        refine zd ?_ (h:=fun Z=>aa Z vt vt (rS (by omega) (by omega)))
        refine zd ?_ (h:=fun Z=>aK (d:=75) (f:=60) (os:=[(.o 800,some (.o ⟨3,1,true,pl (isl l)⟩)),(.o 70,some (.o ⟨62,3,true,pl (dsl (P++[(⟨(gC (unc l P) 0).x,(gC (unc l P) 0).y,decide (((k:Nat):Int)=1)⟩:Dom)]))⟩))]) (os':=[(.o 800,some (.o ⟨3,1,true,pl (isl l)⟩)),(.o 70,some (.o ⟨62,3,true,pl (dsl (P++[(⟨(gC (unc l P) 0).x,(gC (unc l P) 0).y,decide (((k:Nat):Int)=1)⟩:Dom)]))⟩))]) (r:=V.b (.a (.slvv 3 (vwD ((tls n (lft l (P++[(⟨(gC (unc l P) 0).x,(gC (unc l P) 0).y,decide (((k:Nat):Int)=1)⟩:Dom)]))).map ((P++[(⟨(gC (unc l P) 0).x,(gC (unc l P) 0).y,decide (((k:Nat):Int)=1)⟩:Dom)])++ ·)))))) (bs:=[.agg [(.sl 800 0 l.length:A)],.a (.sl 70 0 ((P++[(⟨(gC (unc l P) 0).x,(gC (unc l P) 0).y,decide (((k:Nat):Int)=1)⟩:Dom)]).length)),.a (.val (.int .i64 (most-((((tlk n (lft l P) k).map (P++ ·)).length:Nat):Int))))]) (keep:=[800,70]) (new:=[]) (dead:=[]) Z (FnO.ren' (ih l (P++[(⟨(gC (unc l P) 0).x,(gC (unc l P) 0).y,decide (((k:Nat):Int)=1)⟩:Dom)]) (most-((((tlk n (lft l P) k).map (P++ ·)).length:Nat):Int)) (by omega) (by omega) (by(rw[hls];omega)) (by(rw[hls];omega)) (by omega) (by(simp only[List.length_append,List.length_singleton];omega))) (aX [(900,70)]) rfl rfl (by kernel_rfl) (by kernel_rfl) ⟨bh (fun _=>rfl),bh (fun _=>rfl),trivial⟩ (by kernel_rfl) rfl (by simp only[bv,Ob.ren,aY,ak,am,aj,aO,aN];first |done |rfl) (by simp only[bv,Ob.ren,aY,ak,am,aj,aO,aN];first |done |rfl) rfl rfl) (by kernel_rfl) ⟨bh (fun _=>rfl),bh (fun _=>rfl),trivial⟩ (by kernel_rfl) (ArgOs.cons (ArgO.slot 64 (.agg [(.sl 800 0 l.length:A)])) (ArgOs.cons (ArgO.slot 70 (.a (.sl 70 0 ((P++[(⟨(gC (unc l P) 0).x,(gC (unc l P) 0).y,decide (((k:Nat):Int)=1)⟩:Dom)]).length)))) (ArgOs.cons ((ArgO.v vt)) (ArgOs.nil)))))
        refine zd ?_ (h:=fun Z=>aV (h2:=76) (nm:=(((tlk n (lft l P) k).map (P++ ·))++((tls n (lft l (P++[(⟨(gC (unc l P) 0).x,(gC (unc l P) 0).y,decide (((k:Nat):Int)=1)⟩:Dom)]))).map ((P++[(⟨(gC (unc l P) 0).x,(gC (unc l P) 0).y,decide (((k:Nat):Int)=1)⟩:Dom)])++ ·))).length) (L:=((tlk n (lft l P) k).map (P++ ·))) (M:=((tls n (lft l (P++[(⟨(gC (unc l P) 0).x,(gC (unc l P) 0).y,decide (((k:Nat):Int)=1)⟩:Dom)]))).map ((P++[(⟨(gC (unc l P) 0).x,(gC (unc l P) 0).y,decide (((k:Nat):Int)=1)⟩:Dom)])++ ·))) Z gV ku (by rfl) (by(first |omega |assumption |(simp only[List.length_map];omega) |(rw[hls];simp only[List.length_map];omega) |(rw[hls];omega))) (by simp))
        refine zd ?_ (h:=fun Z=>gt Z)
        refine bG (rg (zm ?_))
        refine z ?_ (h:=fun Z=>aa Z vt vc (rA (by omega) (by omega)))
        refine za (nl ?_)
        exact aA ((k+1)) (by show _≤_;omega) (by show 2-(k+1)<2-k;omega) (wkf (aX [(12,76)]) (wS<|wS<|wS<|wE (e:=(vsl (by(exact congrArg List.length (by first |rfl |omega |(rw[hls];exact ft hd hft) |(rw[hls];exact Eq.symm (ft hd hft)) |exact fe hd hno |exact Eq.symm (fe hd hno) |(simp [tlk];done)))) rfl))<|wS<|wE (e:=(be (by rfl)))<|wX<|wQV (e:=(by(rw[hls];exact Eq.symm (ft hd hft))))<|wP<|wP<|wP<|by(iterate 23 refine wF ?_);exact wN))
      ·skip
       have hno:dZ (lft l P) (⟨(gC (unc l P) 0).x,(gC (unc l P) 0).y,decide (((k:Nat):Int)=1)⟩:Dom)=false:=Eu ho hok hbt (by rw[c6];rfl)
       refine rg ?_
       refine z ?_ (h:=fun Z=>ab (xs:=[vI ((gC (unc l P) 0).x),vI ((gC (unc l P) 0).y),.bool (decide (((k:Nat):Int)=1))].map A.val) Z ja rfl (by decide) rfl)
       refine z ?_ (h:=fun Z=>ag Z (eh (⟨(gC (unc l P) 0).x,(gC (unc l P) 0).y,decide (((k:Nat):Int)=1)⟩:Dom) ) (ac (ArgV.va va) an) (bi (congrArg Value.bool c5)))
       refine z ?_ (h:=fun Z=>bn Z vt (bS (c:=false) rfl))
       refine zm ?_
       refine zg ?_ (h:=fun Z=>ae rfl rfl (ab (xs:=[(.sl 800 0 l.length:A)]) Z iZ rfl (by decide) rfl))
       refine zg ?_ (h:=fun Z=>ae rfl rfl (ab (xs:=[vI ((cb (⟨(gC (unc l P) 0).x,(gC (unc l P) 0).y,decide (((k:Nat):Int)=1)⟩:Dom)).x),vI ((cb (⟨(gC (unc l P) 0).x,(gC (unc l P) 0).y,decide (((k:Nat):Int)=1)⟩:Dom)).y)].map A.val) Z fV rfl (by decide) rfl))
       refine zg ?_ (h:=fun Z=>ae rfl rfl (ag Z (eC l (cb (⟨(gC (unc l P) 0).x,(gC (unc l P) 0).y,decide (((k:Nat):Int)=1)⟩:Dom)) (by omega)) (ac (ArgV.reg _ _ _ (s:=1) (by simp [isl]) (by exact List.take_of_length_le (by simp [isl]))) (ac (ArgV.va va) an)) (bi (congrArg Value.bool c6))))
       refine zg ?_ (h:=fun Z=>ae rfl rfl (bn Z vt (bS (c:=true) rfl)))
       refine z ?_ (h:=fun Z=>ar Z vt xt)
       refine zm (zo (zo (zo (zo ?_))))
       refine z ?_ (h:=fun Z=>au Z vt xc)
       refine nl (wt (aU (rg (zm ?_))))
       refine z ?_ (h:=fun Z=>aa Z vt vc (rA (by omega) (by omega)))
       refine za (nl ?_)
       exact aA ((k+1)) (by show _≤_;omega) (by show 2-(k+1)<2-k;omega) (wkf id (wS<|wS<|wS<|wE (e:=(vsl (by(exact congrArg List.length (by first |rfl |omega |(rw[hls];exact ft hd hft) |(rw[hls];exact Eq.symm (ft hd hft)) |exact fe hd hno |exact Eq.symm (fe hd hno) |(simp [tlk];done)))) rfl))<|wS<|wE (e:=(be (by rfl)))<|wX<|wQV (e:=(by exact Eq.symm (fe hd hno)))<|wP<|wP<|wP<|by(iterate 23 refine wF ?_);exact wN))
     ·skip
      have hno:=Ah (s:=lft l P) c5
      refine rg ?_
      refine z ?_ (h:=fun Z=>ab (xs:=[vI ((gC (unc l P) 0).x),vI ((gC (unc l P) 0).y),.bool (decide (((k:Nat):Int)=1))].map A.val) Z ja rfl (by decide) rfl)
      refine z ?_ (h:=fun Z=>ag Z (eh (⟨(gC (unc l P) 0).x,(gC (unc l P) 0).y,decide (((k:Nat):Int)=1)⟩:Dom) ) (ac (ArgV.va va) an) (bi (congrArg Value.bool c5)))
      refine z ?_ (h:=fun Z=>bn Z vt (bS (c:=true) rfl))
      refine zm (zo (zo (zo (zo ?_))))
      refine z ?_ (h:=fun Z=>au Z vt xc)
      refine zm (zo (zo (zo (zo ?_))))
      refine z ?_ (h:=fun Z=>au Z vt xc)
      refine nl (wt (aU (rg (zm ?_))))
      refine z ?_ (h:=fun Z=>aa Z vt vc (rA (by omega) (by omega)))
      refine za (nl ?_)
      exact aA ((k+1)) (by show _≤_;omega) (by show 2-(k+1)<2-k;omega) (wkf id (wS<|wS<|wS<|wE (e:=(vsl (by(exact congrArg List.length (by first |rfl |omega |(rw[hls];exact ft hd hft) |(rw[hls];exact Eq.symm (ft hd hft)) |exact fe hd hno |exact Eq.symm (fe hd hno) |(simp [tlk];done)))) rfl))<|wS<|wE (e:=(be (by rfl)))<|wX<|wQV (e:=(by exact Eq.symm (fe hd hno)))<|wP<|wP<|wP<|by(iterate 23 refine wF ?_);exact wN))
    ·skip
     have c4P:=of_decide_eq_false c4
     refine aU (sq (rg (zm (za (nl ?_)))))
     refine dW (fzV (k:=6) (h:=12) (T0:=31) (ex0:=true) (n:=(((tlk n (lft l P) k).map (P++ ·)).length)) (L:=((tlk n (lft l P) k).map (P++ ·))) (hn:=by rfl)) ?_
     refine aC ?_
     exact⟨_,dt,⟨by kernel_rfl,by kernel_rfl,trivial⟩,dC 6 (.a (.slvv 3 (vwD ((tlk n (lft l P) k).map (P++ ·))))) (.a (.slvv 3 (vwD ((tls (n+1) (lft l P)).map (P++ ·))))) (by kernel_rfl) (congrArg (fun z=>B.a (.slvv 3 (vwD z))) (by exact Bj h0 (by omega) (by omega)))⟩
   ·skip
    have c3P:=of_decide_eq_false c3
    refine rg (zm ?_)
    refine z ?_ (h:=fun Z=>aa Z vt vc (bA (c:=false) c3))
    refine zm (zo (zo (zo (zo ?_))))
    refine z ?_ (h:=fun Z=>ar Z vt xc)
    refine nl (wf (aU (sq (rg (zm (za (nl ?_)))))))
    refine dW (fzV (k:=6) (h:=12) (T0:=31) (ex0:=true) (n:=(((tlk n (lft l P) k).map (P++ ·)).length)) (L:=((tlk n (lft l P) k).map (P++ ·))) (hn:=by rfl)) ?_
    refine aC ?_
    exact⟨_,dt,⟨by kernel_rfl,by kernel_rfl,trivial⟩,dC 6 (.a (.slvv 3 (vwD ((tlk n (lft l P) k).map (P++ ·))))) (.a (.slvv 3 (vwD ((tls (n+1) (lft l P)).map (P++ ·))))) (by kernel_rfl) (congrArg (fun z=>B.a (.slvv 3 (vwD z))) (by exact Bj h0 (by omega) (by omega)))⟩
theorem iC (l:List Int) (hl:l.length≤4194304):FnO Tryz.prog 34 [.agg [(.sl 800 0 l.length:A)]] [(.o 800,some (.o ⟨3,1,true,pl (isl l)⟩))] (V.b (.a (.slvv 3 (vwD (ltR l))))) [(.o 800,some (.o ⟨3,1,true,pl (isl l)⟩))] [800]:=by
 refine bW (N:=11) Tryz.func34 rfl (by kernel_rfl) rfl (Nat.le_of_ble_eq_true rfl) rfl rfl (by kernel_rfl) (by kernel_rfl) ⟨bh (fun _=>rfl),trivial⟩ [1,4,5,7,9,10,11,12,13,14] (ip rfl) (fun W own kp im0=> ?_)
 show Wp _ _ _ [kV 0 (V.b (.agg [(.sl 800 0 l.length:A)])),kO 800 3 1 true (pl (isl l)),kF 1,kF 4,kF 5,kF 7,kF 9,kF 10,kF 11,kF 12,kF 13,kF 14]
 refine sq (rg ?_)
 refine z ?_ (h:=fun Z=>bo (h:=1) Z xt (by exact ob1 rfl))
 refine zk (nl (sq (sq (rg ?_))))
 refine z ?_ (h:=fun Z=>ab (xs:=[(.sl 800 0 l.length:A)]) Z iZ rfl (by decide) rfl)
 refine z ?_ (h:=fun Z=>ag Z (ir l (by omega)) (ac (ArgV.reg _ _ _ (s:=1) (by simp [isl]) (by exact List.take_of_length_le (by simp [isl]))) an) rv)
 refine z ?_ (h:=fun Z=>ag Z (cd (((cntR l):Nat):Int) 1 300 ) (ac (ArgV.v vt) (ac (ArgV.v vc) (ac (ArgV.v vc) an))) rv)
 refine z ?_ (h:=fun Z=>bn Z vt (bS rfl))
 refine nl ?_
 refine wi (b:=(!(inB (((cntR l):Nat):Int) 1 300))) (fun c1=> ?_) (fun c1=> ?_)
 ·skip
  have c2:(inB (((cntR l):Nat):Int) 1 300)=false:=by first |(rw[←Bool.not_eq_true'];exact c1) |simpa using c1
  have hlt:=sN c2
  refine sq (rg ?_)
  refine z ?_ (h:=fun Z=>b0P (h:=7) (T:=62) Z gV ku)
  refine za (nl ?_)
  refine dW (fzD (k:=2) (h:=7) (T0:=31) (T:=62) (ex0:=true) (n:=0) (L:=[]) (hn:=by simp)) ?_
  refine aC ?_
  exact⟨_,dt,⟨by kernel_rfl,trivial⟩,dC 2 (.a (.slvv 3 (vwD []))) (.a (.slvv 3 (vwD (ltR l)))) (by kernel_rfl) (congrArg (fun z=>B.a (.slvv 3 (vwD z))) (by exact hlt.symm))⟩
 ·skip
  have c3:(inB (((cntR l):Nat):Int) 1 300)=true:=by first |(rw[←Bool.not_eq_false'];exact c1) |simpa using c1
  obtain⟨hlt,hro,hl3⟩:=mO c3
  have hrp:=mT (ao l)
  have hln:=Hl l
  refine sk (sq (rg ?_))
  refine z ?_ (h:=fun Z=>ab (xs:=[(.sl 800 0 l.length:A)]) Z iZ rfl (by decide) rfl)
  refine z ?_ (h:=fun Z=>b0D (h:=9) Z gT fW)
  refine z ?_ (h:=fun Z=>aK (d:=10) (f:=60) (os:=[(.o 800,some (.o ⟨3,1,true,pl (isl l)⟩)),(.o 9,some (.o ⟨62,3,true,pl (dsl [])⟩))]) (os':=[(.o 800,some (.o ⟨3,1,true,pl (isl l)⟩)),(.o 9,some (.o ⟨62,3,true,pl (dsl [])⟩))]) (r:=V.b (.a (.slvv 3 (vwD ((tls 33 (lft l [])).map ([]++ ·)))))) (bs:=[.agg [(.sl 800 0 l.length:A)],.a (.sl 9 0 0),.a (.val (.int .i64 300))]) (keep:=[800,9]) (new:=[]) (dead:=[]) Z (FnO.ren' (rC 33 l [] 300 (by omega) (by omega) (by(rw[hln];omega)) (by(rw[hln];omega)) (by omega) (by(simp;done))) (aX [(900,9)]) rfl rfl (by kernel_rfl) (by kernel_rfl) ⟨bh (fun _=>rfl),bh (fun _=>rfl),trivial⟩ (by kernel_rfl) rfl (by simp only[bv,Ob.ren,aY,ak,am,aj,aO,aN];first |done |rfl) (by simp only[bv,Ob.ren,aY,ak,am,aj,aO,aN];first |done |rfl) rfl rfl) (by kernel_rfl) ⟨bh (fun _=>rfl),bh (fun _=>rfl),trivial⟩ (by kernel_rfl) (ArgOs.cons (ArgO.slot 8 (.agg [(.sl 800 0 l.length:A)])) (ArgOs.cons (ArgO.slot 9 (.a (.sl 9 0 0))) (ArgOs.cons ((ArgO.v vc)) (ArgOs.nil)))))
  refine za (nl (aC ?_))
  exact⟨_,dt,⟨by kernel_rfl,trivial⟩,dC 2 (.a (.slvv 3 (vwD ((tls 33 (lft l [])).map ([]++ ·))))) (.a (.slvv 3 (vwD (ltR l)))) (by kernel_rfl) (congrArg (fun z=>B.a (.slvv 3 (vwD z))) (by(rw[hlt,hln];exact Kc)))⟩
def cin (d:Dom) (i:Nat):Bool:=decide (idx (ca d)=i)||decide (idx (cb d)=i)
theorem rI (d:Dom) (i:Nat):(domS d).testBit i=cin d i:=ec d i
def cvN (P:List Dom) (i:Nat):Nat:=P.countP (fun d=>cin d i)
theorem kd (d:Dom) (P:List Dom) (i:Nat):cvN (d::P) i=cvN P i+(if cin d i=true then 1 else 0):=by unfold cvN;rw[List.countP_cons]
theorem oG {P:List Dom} {d:Dom} {i:Nat} (h:d∈P) (hc:cin d i=true):0<cvN P i:=List.countP_pos_iff.2 ⟨d,h,hc⟩
theorem Dx {P:List Dom} {i:Nat} (h:0<cvN P i):∃ d∈P,cin d i=true:=List.countP_pos_iff.1 h
def SO (P:List Dom):Prop:=P.Pairwise (fun a b=>ord a<ord b)
structure TilS (s:Nat) (P:List Dom):Prop where
 ok:∀ d∈P,okD d=true
 cv:∀ i,cvN P i=if s.testBit i=true then 1 else 0
 so:SO P
def vL:Nat→List Dom→Prop
 | s,[]=>s=0
 | s,d::P=>s≠0∧dZ s d=true∧d=dmn (aF s) d.d∧vL (andn s (domS d)) P
theorem rY {n s:Nat} (h:s≠0):tls (n+1) s=tlb n s false++tlb n s true:=by rw[tls,if_neg h];rfl
theorem nt {n s:Nat} {b:Bool} {d:Dom} {P:List Dom}:(d::P)∈tlb n s b↔dZ s (dmn (aF s) b)=true∧d=dmn (aF s) b∧P∈tls n (andn s (domS (dmn (aF s) b))):=by
 unfold tlb
 split
 ·rename_i h
  rw[List.mem_map]
  constructor
  ·rintro⟨Q,hQ,e⟩
   injection e with e1 e2
   subst e2
   exact⟨h,e1.symm,hQ⟩
  ·rintro⟨_,rfl,hP⟩;exact⟨P,hP,rfl⟩
 ·rename_i h
  constructor
  ·intro e;cases e
  ·intro e;exact absurd e.1 h
theorem rX {n s:Nat} {b:Bool}:¬[]∈tlb n s b:=by
 unfold tlb
 split
 ·rw[List.mem_map];rintro⟨Q,_,e⟩;cases e
 ·intro e;cases e
theorem Bi:∀ (n s:Nat) (P:List Dom),s<18446744073709551616→jC s<2*n→(P∈tls n s↔vL s P):=by
  intro n
  induction n with
  | zero=>intro s P _ h;omega
  | succ n ih=>
    intro s P hs hp
    by_cases h0:s=0
    · rw[kG h0]
      cases P with
      | nil=>simp [vL,h0]
      | cons d P=>simp [vL,h0]
    · rw[rY h0,List.mem_append]
      cases P with
      | nil=>
        constructor
        · rintro(h |h)<;>exact absurd h rX
        · intro h;exact absurd h h0
      | cons d P=>
        rw[nt,nt]
        have key:∀ b,(dZ s (dmn (aF s) b)=true∧d=dmn (aF s) b∧P∈tls n (andn s (domS (dmn (aF s) b))))↔(d.d=b∧vL s (d::P)):=by
          intro b
          constructor
          · rintro⟨h1,rfl,h3⟩
            have:=gr h1
            exact⟨rfl,h0,h1,rfl,(ih _ _ (ff hs) (by omega)).1 h3⟩
          · rintro⟨rfl,_,h1,h2,h3⟩
            have:=gr h1
            rw[←h2]
            exact⟨h1,rfl,(ih _ _ (ff hs) (by omega)).2 h3⟩
        rw[key,key]
        constructor
        · rintro(h |h)<;>exact h.2
        · intro h;cases e:d.d
          · exact .inl ⟨rfl,h⟩
          · exact .inr ⟨rfl,h⟩
theorem CQ:∀ (n s:Nat),(tls n s).Nodup:=by
  intro n
  induction n with
  | zero=>intro s;simp [tls]
  | succ n ih=>
    intro s
    by_cases h0:s=0
    · rw[kG h0];simp
    · rw[rY h0]
      have hb:∀ b,(tlb n s b).Nodup:=by
        intro b;unfold tlb;split
        · exact List.Pairwise.map _ (fun a c h e=>h (by injection e)) (ih _)
        · simp
      refine List.nodup_append.2 ⟨hb _,hb _,?_⟩
      intro P hP Q hQ e
      subst e
      cases P with
      | nil=>exact rX hP
      | cons d P=>
        have h1:=(nt.1 hP).2.1
        have h2:=(nt.1 hQ).2.1
        rw[h1]at h2
        unfold dmn at h2;simp at h2
theorem nD (d:Dom):cin d (idx (ca d))=true:=by simp [cin]
theorem xa (d:Dom):cin d (idx (cb d))=true:=by simp [cin]
theorem Dj {d:Dom} (h:okD d=true):idx (ca d)<idx (cb d):=by
 have hb:=jX h
 unfold idx ca cb;cases e:d.d<;>simp [e]<;>omega
theorem GK {s:Nat} {d:Dom} (h:dZ s d=true) {i:Nat} (hc:cin d i=true):s.testBit i=true:=by
 obtain⟨_,h1,h2⟩:=yX h
 unfold cin at hc;simp only[Bool.or_eq_true,decide_eq_true_eq]at hc
 rcases hc with rfl |rfl
 ·exact h1
 ·exact h2
theorem sw {s i:Nat} (h:s.testBit i=true):aF s≤i:=by
 rcases Nat.lt_or_ge i (aF s)with h1 |h1
 ·rw[kX h1]at h;cases h
 ·exact h1
theorem GC {d:Dom} {i:Nat} (hi:i<64) (h:d=dmn i d.d):idx (ca d)=i:=by rw[h];exact pV _ hi
theorem KD:∀ (P:List Dom) (s:Nat),s<18446744073709551616→vL s P→TilS s P:=by
  intro P
  induction P with
  | nil=>
    intro s _ h
    have h:s=0:=h
    subst h
    exact⟨by simp,fun i=>by rw[Nat.zero_testBit];rfl,List.Pairwise.nil⟩
  | cons d P ih=>
    intro s hs ⟨h0,hf,hd,hr⟩
    have hI:=ih _ (ff hs) hr
    have hfi:=ed hs h0
    have hda:idx (ca d)=aF s:=GC hfi.1 hd
    refine⟨fun e he=> ?_,fun i=> ?_,List.pairwise_cons.2 ⟨fun e he=> ?_,hI.so⟩⟩
    · rcases List.mem_cons.1 he with rfl |he
      · exact(yX hf).1
      · exact hI.ok e he
    · rw[kd,hI.cv,cE,rI]
      cases hc:cin d i
      · simp
      · have:=GK hf hc
        simp [this]
    · have hp:=oG he (nD e)
      rw[hI.cv,cE,rI]at hp
      have hq:(s.testBit (idx (ca e))&& !cin d (idx (ca e)))=true:=by
        cases hz:(s.testBit (idx (ca e))&& !cin d (idx (ca e)))
        · rw[hz]at hp;simp at hp
        · rfl
      simp only[Bool.and_eq_true,Bool.not_eq_true']at hq
      have h1:=sw hq.1
      have h2:idx (ca e)≠aF s:=fun e'=>by
        rw[e',←hda,nD]at hq;exact absurd hq.2 (by simp)
      unfold ord;rw[hda]
      split<;>split<;>omega
theorem KE:∀ (P:List Dom) (s:Nat),s<18446744073709551616→TilS s P→vL s P:=by
  intro P
  induction P with
  | nil=>
    intro s hs h
    rcases Nat.eq_zero_or_pos s with h0 |h0
    · exact h0
    · have hf:=ed hs (by omega)
      have:=h.cv (aF s)
      rw[hf.2]at this;simp [cvN]at this
  | cons d P ih=>
    intro s hs h
    have hbit:∀ e∈d::P,∀ i,cin e i=true→s.testBit i=true:=fun e he i hc=>by
      have hp:=oG he hc
      rw[h.cv]at hp
      cases hz:s.testBit i
      · rw[hz]at hp;simp at hp
      · rfl
    have hda:=hbit d (by simp) _ (nD d)
    have hdb:=hbit d (by simp) _ (xa d)
    have h0:s≠0:=fun e=>by rw[e,Nat.zero_testBit]at hda;cases hda
    have hfi:=ed hs h0
    have hokd:=h.ok d (by simp)
    have hfit:dZ s d=true:=by unfold dZ;rw[hokd,oK,hda,hdb];rfl
    obtain⟨hhead,hso⟩:=List.pairwise_cons.1 h.so
    have hd:idx (ca d)=aF s:=by
      have hp:0<cvN (d::P) (aF s):=by rw[h.cv,hfi.2];simp
      obtain⟨e,he,hc⟩:=Dx hp
      have hoe:=h.ok e he
      have hea:idx (ca e)=aF s:=by
        unfold cin at hc;simp only[Bool.or_eq_true,decide_eq_true_eq]at hc
        rcases hc with hc |hc
        · exact hc
        · have h1:=sw (hbit e he _ (nD e))
          have h2:=Dj hoe
          omega
      rcases List.mem_cons.1 he with rfl |he'
      · exact hea
      · have h1:=hhead e he'
        have h2:=sw hda
        unfold ord at h1
        rw[hea]at h1
        cases e1:d.d<;>cases e2:e.d<;>simp [e1,e2]at h1<;>omega
    have hdm:d=dmn (aF s) d.d:=by
      have hc:ca d=cN (aF s):=iG (md hokd) (fP hfi.1) (by rw[hd,eU hfi.1])
      unfold ca at hc;unfold dmn;rw[←hc]
    refine⟨h0,hfit,hdm,ih _ (ff hs) ⟨fun e he=>h.ok e (by simp [he]),fun i=> ?_,hso⟩⟩
    have:=h.cv i
    rw[kd]at this
    rw[cE,rI]
    cases hc:cin d i
    · rw[hc]at this;simpa using this
    · rw[hc,hbit d (by simp) i hc]at this
      simp at this;simp [this]
theorem wL {s:Nat} {P:List Dom} (hs:s<18446744073709551616):vL s P↔TilS s P:=⟨KD P s hs,KE P s hs⟩
theorem Ax {l:List Int} {P:List Dom} (h:P∈ltR l):bj l=true∧TilS (ao l) P:=by
 rcases Bool.eq_false_or_eq_true (inB ((cntR l:Nat):Int) 1 300)with e |e
 ·obtain⟨h1,h2,h3⟩:=mO e
  rw[h1]at h
  have hs:=dr h2
  exact⟨h2,(wL hs).1 ((Bi 33 _ P hs (by have:=mT (ao l);omega)).1 h)⟩
 ·rw[sN e]at h;cases h
theorem JX {l:List Int} {P Q:List Dom} (h:P∈ltR l) (hQ:TilS (ao l) Q):Q∈ltR l:=by
 rcases Bool.eq_false_or_eq_true (inB ((cntR l:Nat):Int) 1 300)with e |e
 ·obtain⟨h1,h2,h3⟩:=mO e
  have hs:=dr h2
  rw[h1]
  exact(Bi 33 _ Q hs (by have:=mT (ao l);omega)).2 ((wL hs).2 hQ)
 ·rw[sN e]at h;cases h
theorem uO (l:List Int):(ltR l).Nodup:=by
 unfold ltR;split
 ·exact CQ _ _
 ·simp
theorem sb {P:List Dom} (h:SO P):P.Nodup:=h.imp fun {a b} h e=>by rw[e]at h;omega
end Cl
end Go.Proofs.YtgmkkfdnmdohlaaGreatDoor
