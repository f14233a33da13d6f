/- Parts put together: P3, P7, P8, R3, G1, Gh. -/
import Derived.Test.YtgmkkfdnmdohlaaGreatDoorC13
import Derived.Test.YtgmkkfdnmdohlaaGreatDoorClB
import Derived.Test.YtgmkkfdnmdohlaaGreatDoorPA
import Derived.Test.YtgmkkfdnmdohlaaGreatDoorE4
import Derived.Test.YtgmkkfdnmdohlaaGreatDoorClC
import Derived.Test.YtgmkkfdnmdohlaaGreatDoorEA
set_option linter.unusedSimpArgs false
set_option linter.unusedVariables false
set_option maxHeartbeats 4000000
set_option maxRecDepth 100000
namespace Go.Proofs.YtgmkkfdnmdohlaaGreatDoor
namespace Cl
open Go.ChangeShapes Go.WideShapes Go.ChangeAt Go.RowKit
def ro (b:List Nat):Nat→Nat
 | 0=>33007+b.length
 | i+1=>(ro b i*131+gY b i+7)&&&1073741823
def newH (b:List Nat):Nat:=ro b (min b.length 4000)
theorem Hs (b:List Nat) (i:Nat):ro b i≤1073741823+(33007+b.length):=by
 cases i with
 | zero=>unfold ro;omega
 | succ i=>unfold ro;exact Nat.le_trans Nat.and_le_right (by omega)
def hN (h:Int):Int:=aW (mW h 6364136223846793005) 1442695040888963407
def shrA (h:Int):Int:=h.fdiv (2^ 33)
def shrB (h:Int):Int:=h.fdiv (2^ 45)
def xrA (h:Int):Int:=IntKind.i64.wrap ((BitVec.ofInt 64 (shrA h))^^^ (BitVec.ofInt 64 (shrB h))).toNat
def mix (h:Int):Nat:=((BitVec.ofInt 64 (xrA h))&&&(BitVec.ofInt 64 255)).toNat
theorem zj (h:Int):mix h<256:=by
 unfold mix
 rw[BitVec.toNat_and]
 exact Nat.lt_of_le_of_lt Nat.and_le_right (by decide)
theorem JZ (h:Int):IntKind.i64.wrap ((BitVec.ofInt IntKind.i64.bits (xrA h))&&&(BitVec.ofInt IntKind.i64.bits 255)).toNat=((mix h:Nat):Int):=ox (n:=mix h) (by have:=zj h;omega)
def byX (b:List Nat) (i:Nat) (h:Int):Nat:=if i<b.length then(mix (hN h)+gY b i)&&&255 else mix (hN h)
def bI (b:List Nat) (i:Nat):Nat:=if i<b.length then i+1 else i
theorem bX_lt (b:List Nat) (i:Nat) (h:Int):byX b i h<256:=by
 unfold byX;split
 ·exact Nat.lt_of_le_of_lt Nat.and_le_right (by decide)
 ·exact zj _
theorem uq {b:List Nat} {i:Nat} (h:i≤b.length):bI b i≤b.length:=by unfold bI;split<;>omega
def big4 (b:List Nat) (i:Nat) (h:Int):Nat:=byX b i h*16777216+byX b (bI b i) (hN h)*65536+byX b (bI b (bI b i)) (hN (hN h))*256+byX b (bI b (bI b (bI b i))) (hN (hN (hN h)))
def beX (b:List Nat) (i:Nat) (h:Int) (n:Nat):Nat:=if n≤256 then byX b i h%n else big4 b i h%n
def beI (b:List Nat) (i n:Nat):Nat:=if n≤256 then bI b i else bI b (bI b (bI b (bI b i)))
def beH (h:Int) (n:Nat):Int:=if n≤256 then hN h else hN (hN (hN (hN h)))
theorem sd {b:List Nat} {i:Nat} {h:Int} {n:Nat} (hn:0<n):beX b i h n<n:=by unfold beX;split<;>exact Nat.mod_lt _ hn
theorem Jp {b:List Nat} {i n:Nat} (h:i≤b.length):beI b i n≤b.length:=by
 unfold beI;split
 ·exact uq h
 ·exact uq (uq (uq (uq h)))
theorem be_1 {b:List Nat} {i:Nat} {h:Int} {n:Nat} (hn:n≤256):beX b i h n=byX b i h%n∧beI b i n=bI b i∧beH h n=hN h:=by unfold beX beI beH;rw[if_pos hn,if_pos hn,if_pos hn];exact⟨rfl,rfl,rfl⟩
theorem be_4 {b:List Nat} {i:Nat} {h:Int} {n:Nat} (hn:¬n≤256):beX b i h n=big4 b i h%n∧beI b i n=bI b (bI b (bI b (bI b i)))∧beH h n=hN (hN (hN (hN h))):=by unfold beX beI beH;rw[if_neg hn,if_neg hn,if_neg hn];exact⟨rfl,rfl,rfl⟩
def rc (w:Nat):Int:=((2^ w:Nat):Int)-1
def bF (w h:Nat):List Int:=List.replicate h (rc w)
structure Cu where
 i:Nat
 h:Int
def cuN (b:List Nat) (c:Cu) (n:Nat):Cu:=⟨beI b c.i n,beH c.h n⟩
def cuX (b:List Nat) (c:Cu) (n:Nat):Nat:=beX b c.i c.h n
def sf (R:List Int) (y x:Nat):Bool:=(gI R y).toNat.testBit x
def r3L (b:List Nat) (w hh:Nat):Nat→Cu→List Int→List Int × Cu
  | 0,c,R=>(R,c)
  | k+1,c,R=>
    r3L b w hh k (cuN b (cuN b c hh) w) (if sf R (cuX b c hh) (cuX b (cuN b c hh) w)=true then R.set (cuX b c hh) (gI R (cuX b c hh)-((2^ (cuX b (cuN b c hh) w):Nat):Int))else R)
def r3E (b:List Nat) (w hh:Nat) (R:List Int) (c:Cu):List Int × Cu:=
 if w<6 then(if cuX b c 3=0 then(R.set (cuX b (cuN b c 3) hh) ((((gI R (cuX b (cuN b c 3) hh)).toNat|||(3<<<w):Nat)):Int),cuN b (cuN b c 3) hh)else(R,cuN b c 3))else(R,c)
def r3W (b:List Nat) (c:Cu):Nat:=1+cuX b c 6
def r3H (b:List Nat) (c:Cu):Nat:=1+cuX b (cuN b c 6) 5
def r3M (b:List Nat) (c:Cu):List Int × Cu:=r3L b (r3W b c) (r3H b c) (cuX b (cuN b (cuN b c 6) 5) 5) (cuN b (cuN b (cuN b c 6) 5) 5) (bF (r3W b c) (r3H b c))
def r3 (b:List Nat) (c:Cu):List Int × Cu:=r3E b (r3W b c) (r3H b c) (r3M b c).1 (r3M b c).2
structure RP (n:Nat) (R:List Int):Prop where
 ln:R.length=n
 bd:∀ k,k<n→0≤gI R k∧gI R k<256
theorem GW {R:List Int} {k j:Nat} {x:Int} (h:k<R.length):gI (R.set k x) j=if k=j then x else gI R j:=by
 unfold gI;rw[List.getD_eq_getElem?_getD,List.getD_eq_getElem?_getD,List.getElem?_set]
 split
 ·rename_i e;subst e;first |rfl |(rw[if_pos h];rfl)
 ·rfl
theorem RP.set {n:Nat} {R:List Int} (h:RP n R) {k:Nat} (hk:k<n) {x:Int} (hx:0≤x∧x<256):RP n (R.set k x):=
 ⟨by rw[List.length_set];exact h.ln,fun j hj=>by
  rw[GW (by rw[h.ln];exact hk)]
  split
  ·exact hx
  ·exact h.bd j hj⟩
theorem RP.rect {w h:Nat} (hw:w≤8):RP h (bF w h):=by
 have hp:(2:Nat)^ w≤2^ 8:=Nat.pow_le_pow_right (by decide) hw
 have hp0:0<2^ w:=Nat.two_pow_pos w
 refine⟨by simp [bF],fun k hk=> ?_⟩
 have e:gI (bF w h) k=rc w:=by
  rw[dh (by simpa [bF] using hk)];simp [bF]
 rw[e];unfold rc;omega
theorem Gq {a x:Nat} (h:a.testBit x=true):2^ x≤a:=Nat.ge_two_pow_of_testBit h
theorem RP.take {n:Nat} {R:List Int} (h:RP n R) {y x:Nat} (hy:y<n) (hb:sf R y x=true):RP n (R.set y (gI R y-((2^ x:Nat):Int))):=by
 have h1:=h.bd y hy
 have h2:2^ x≤(gI R y).toNat:=Gq hb
 have h3:0<2^ x:=Nat.two_pow_pos x
 exact h.set hy (by omega)
theorem RP.r3L {b:List Nat} {w hh:Nat} (hh0:0<hh):∀ (k:Nat) (c:Cu) (R:List Int),RP hh R→RP hh (r3L b w hh k c R).1:=by
  intro k
  induction k with
  | zero=>intro c R h;exact h
  | succ k ih=>
    intro c R h
    unfold Cl.r3L
    refine ih _ _ ?_
    split
    · rename_i hb;exact h.take (sd hh0) hb
    · exact h
theorem RP.or {n:Nat} {R:List Int} (h:RP n R) {y:Nat} (hy:y<n) {w:Nat} (hw:w<6):RP n (R.set y ((((gI R y).toNat|||(3<<<w):Nat)):Int)):=by
 have h1:=h.bd y hy
 have h3:3<<<w<2^ 8:=by
  rw[Nat.shiftLeft_eq]
  have:(2:Nat)^ w≤2^ 5:=Nat.pow_le_pow_right (by decide) (by omega)
  omega
 have:=Nat.or_lt_two_pow (n:=8) (x:=(gI R y).toNat) (y:=3<<<w) (by omega) h3
 exact h.set hy (by omega)
theorem RP.r3E {b:List Nat} {w hh:Nat} (hh0:0<hh) {R:List Int} {c:Cu} (h:RP hh R):RP hh (r3E b w hh R c).1:=by
 unfold Cl.r3E
 split
 ·rename_i hw
  split
  ·exact h.or (sd hh0) hw
  ·exact h
 ·exact h
theorem Jd (b:List Nat) (c:Cu):(1≤r3W b c∧r3W b c≤6)∧(1≤r3H b c∧r3H b c≤5):=by
 have h1:cuX b c 6<6:=sd (by decide)
 have h2:cuX b (cuN b c 6) 5<5:=sd (by decide)
 unfold r3W r3H;omega
theorem Fj (b:List Nat) (c:Cu):RP (r3H b c) (r3 b c).1:=by
 have hw:=Jd b c
 unfold r3 r3M
 exact RP.r3E (by omega) (RP.r3L (by omega) _ _ _ (RP.rect (by omega)))
theorem RP.ok {n:Nat} {R:List Int} (h:RP n R) (hn:n≤8):bj R=true:=by
 unfold bj fE
 rw[decide_eq_true (by rw[h.ln];exact hn),Bool.true_and]
 rw[List.all_eq_true]
 intro x hx
 obtain⟨k,hk,rfl⟩:=List.getElem_of_mem hx
 have:=h.bd k (by rw[←h.ln];exact hk)
 rw[dh hk]at this
 exact bP.2 (by omega)
theorem r3_ok (b:List Nat) (c:Cu):bj (r3 b c).1=true:=(Fj b c).ok (by have:=Jd b c;omega)
theorem zE (b:List Nat) (c:Cu):(r3 b c).1.length≤8:=(ez (r3_ok b c)).1
theorem cg {b:List Nat} {c:Cu} {n:Nat} (h:c.i≤b.length):(cuN b c n).i≤b.length:=Jp h
theorem r3L_i {b:List Nat} {w hh:Nat}:∀ (k:Nat) (c:Cu) (R:List Int),c.i≤b.length→(r3L b w hh k c R).2.i≤b.length:=by
 intro k
 induction k with
 | zero=>intro c R h;exact h
 | succ k ih=>intro c R h;unfold r3L;exact ih _ _ (cg (cg h))
theorem r3_i {b:List Nat} {c:Cu} (h:c.i≤b.length):(r3 b c).2.i≤b.length:=by
 have h1:(r3M b c).2.i≤b.length:=r3L_i _ _ _ (cg (cg (cg h)))
 unfold r3 r3E
 split
 ·split
  ·exact cg (cg h1)
  ·exact cg h1
 ·exact h1
def cu0 (b:List Nat):Cu:=⟨0,((newH b:Nat):Int)⟩
def cuB (b:List Nat) (c:Cu):Cu:=⟨bI b c.i,hN c.h⟩
def cuV (b:List Nat) (c:Cu):Nat:=byX b c.i c.h
def cuV4 (b:List Nat) (c:Cu):Nat:=cuV b c*16777216+cuV b (cuB b c)*65536+cuV b (cuB b (cuB b c))*256+cuV b (cuB b (cuB b (cuB b c)))
theorem vT (b:List Nat) (c:Cu):cuV b c<256:=bX_lt _ _ _
theorem yU {b:List Nat} {c:Cu} (h:c.i≤b.length):(cuB b c).i≤b.length:=uq h
theorem du {b:List Nat} {c:Cu} {n:Nat} (hn:0<n):cuX b c n<n:=sd hn
theorem cuN_1 {b:List Nat} {c:Cu} {n:Nat} (hn:n≤256):cuN b c n=cuB b c∧cuX b c n=cuV b c%n:=by
 obtain⟨h1,h2,h3⟩:=be_1 (b:=b) (i:=c.i) (h:=c.h) hn
 unfold cuN cuX cuB cuV;rw[h1,h2,h3];exact⟨rfl,rfl⟩
theorem cuN_4 {b:List Nat} {c:Cu} {n:Nat} (hn:¬n≤256):cuN b c n=cuB b (cuB b (cuB b (cuB b c)))∧cuX b c n=cuV4 b c%n:=by
 obtain⟨h1,h2,h3⟩:=be_4 (b:=b) (i:=c.i) (h:=c.h) hn
 unfold cuN cuX;rw[h1,h2,h3];exact⟨rfl,rfl⟩
theorem eB {c d:Cu} (h:c=d) (n:Nat) (xs:List Value):[A.slv n 1 xs,.val (.int .i64 ((c.i:Nat):Int)),.val (.int .i64 c.h)]=[A.slv n 1 xs,.val (.int .i64 ((d.i:Nat):Int)),.val (.int .i64 d.h)]:=by rw[h]
theorem Kp {b:List Nat} {w hh k:Nat} {c:Cu} {R:List Int} (hk:0<k) (hb:sf R (cuX b c hh) (cuX b (cuN b c hh) w)=true):r3L b w hh k c R=r3L b w hh (k-1) (cuN b (cuN b c hh) w) (R.set (cuX b c hh) (gI R (cuX b c hh)-((2^ (cuX b (cuN b c hh) w):Nat):Int))):=by
 obtain⟨m,rfl⟩:∃ m,k=m+1:=⟨k-1,by omega⟩
 rw[r3L,if_pos hb];rfl
theorem HM {b:List Nat} {w hh k:Nat} {c:Cu} {R:List Int} (hk:0<k) (hb:sf R (cuX b c hh) (cuX b (cuN b c hh) w)=false):r3L b w hh k c R=r3L b w hh (k-1) (cuN b (cuN b c hh) w) R:=by
 obtain⟨m,rfl⟩:∃ m,k=m+1:=⟨k-1,by omega⟩
 rw[r3L,if_neg (by rw[hb];simp)];rfl
theorem Kq {b:List Nat} {c c2:Cu} {w hh k:Nat} {R:List Int} (h:r3L b w hh k c2 R=r3M b c) (hk:k=0):r3M b c=(R,c2):=by subst hk;exact h.symm
theorem r3_a {b:List Nat} {c c2:Cu} {R:List Int} (h:r3M b c=(R,c2)) (hw:¬1+cuX b c 6<6):r3 b c=(R,c2):=by
 unfold r3;rw[h];unfold r3E;rw[if_neg (show ¬r3W b c<6 from hw)]
theorem r3_b {b:List Nat} {c c2:Cu} {R:List Int} (h:r3M b c=(R,c2)) (hw:1+cuX b c 6<6) (h3:¬cuX b c2 3=0):r3 b c=(R,cuN b c2 3):=by
 unfold r3;rw[h];unfold r3E;rw[if_pos (show r3W b c<6 from hw),if_neg (show ¬cuX b (R,c2).2 3=0 from h3)]
theorem r3_c {b:List Nat} {c c2:Cu} {R:List Int} (h:r3M b c=(R,c2)) (hw:1+cuX b c 6<6) (h3:cuX b c2 3=0):r3 b c=(R.set (cuX b (cuN b c2 3) (1+cuX b (cuN b c 6) 5)) ((((gI R (cuX b (cuN b c2 3) (1+cuX b (cuN b c 6) 5))).toNat|||(3<<<(1+cuX b c 6)):Nat)):Int),cuN b (cuN b c2 3) (1+cuX b (cuN b c 6) 5)):=by
 unfold r3;rw[h];unfold r3E;rw[if_pos (show r3W b c<6 from hw),if_pos (show cuX b (R,c2).2 3=0 from h3)];rfl
theorem pq:bK Tryz.prog 100 0=some 0:=by kernel_rfl
theorem iL:bK Tryz.prog 100 1=some 1:=by kernel_rfl
theorem iM:bK Tryz.prog 100 2=some 2:=by kernel_rfl
theorem fa:bK Tryz.prog 29 0=some 0:=by kernel_rfl
theorem mi:(Tryz.prog.info? 3).map (·.size)=some 1:=by kernel_rfl
theorem yo:(Tryz.prog.info? 5).map (·.size)=some 1:=by kernel_rfl
theorem gW:TI Tryz.prog 22 false 1:=⟨⟨_,Tryz.underlying22,rfl⟩,by kernel_rfl⟩
theorem dq:TI Tryz.prog 29 true 1:=⟨⟨_,Tryz.underlying29,rfl⟩,by kernel_rfl⟩
theorem ee:TI Tryz.prog 3 false 1:=⟨⟨_,Tryz.underlying3,rfl⟩,by kernel_rfl⟩
theorem vw:TI Tryz.prog 43 false 1:=⟨⟨_,Tryz.underlying43,rfl⟩,by kernel_rfl⟩
theorem yp:TI Tryz.prog 5 false 1:=⟨⟨_,Tryz.underlying5,rfl⟩,by kernel_rfl⟩
theorem gX:Tryz.prog.underlying 22=some (.slice 3):=Tryz.underlying22
theorem yq:Tryz.prog.underlying 3=some (.int .i64):=Tryz.underlying3
theorem jh:Tryz.prog.underlying 43=some (.slice 5):=Tryz.underlying43
theorem yr:Tryz.prog.underlying 5=some (.int .u8):=Tryz.underlying5
theorem nk:ZI Tryz.prog 29 (.agg #[.slice none 0 0]) 1 24:=by unfold ZI;kernel_rfl
theorem yt:ZI Tryz.prog 3 (.int .i64 0) 1 8:=by unfold ZI;kernel_rfl
theorem mw (b:List Nat) (hb:b.length≤1048576) (hy:∀ x∈b,x<256):FnO Tryz.prog 50 [.a (.slv b.length 1 (ysl b))] [] (V.p 900 0) [(.o 900,some (.o ⟨100,3,true,[(.slv b.length 1 (ysl b):A),aI (((cu0 b).i:Nat):Int),aI ((cu0 b).h)]⟩))] []:=by
 refine bW (N:=32) Tryz.func50 rfl (by kernel_rfl) rfl (Nat.le_of_ble_eq_true rfl) rfl rfl (by kernel_rfl) (by kernel_rfl) trivial [6,10,31] (ip rfl) (fun W own kp im0=> ?_)
 show Wp _ _ _ [kV 0 (V.b (.a (.slv b.length 1 (ysl b)))),kF 6,kF 10,kF 31]
 refine sq (rg (zk (nl (sq (rg (zm ?_))))))
 refine z ?_ (h:=fun Z=>lnV Z jh)
 refine z ?_ (h:=fun Z=>aa Z vc vt (rA (by omega) (by omega)))
 refine za (nl (sq (sq (rg (zk (nl (bkk ?_)))))))
 refine bg (fun(k:Nat)=>k≤b.length∧k≤4000) (fun(k:Nat)=>[kV 0 (V.b (.a (.slv b.length 1 (ysl b)))),kI 3 (((ro b k):Nat):Int),kI 4 ((k:Nat):Int),kF 6,kF 10,kF 31]) (fun(k:Nat)=>b.length-k) ((0:Nat)) (by exact⟨Nat.zero_le _,Nat.zero_le _⟩) (wkf id (wS<|wE (e:=(be (by rfl)))<|wE (e:=(be (by rfl)))<|wF<|wF<|wF<|wN)) ?_
 rintro k inv1
 replace inv1:k≤b.length∧k≤4000:=inv1
 obtain⟨hk1,hk2⟩:=inv1
 have hnb:=Hs b k
 refine sq (sq ?_)
 rcases Bool.eq_false_or_eq_true (decide (((k:Nat):Int)<((b.length:Nat):Int)))with c2 |c2
 ·skip
  have c2P:=of_decide_eq_true c2
  have hgy:=DZ hy k
  refine rg (zm (zm ?_))
  refine z ?_ (h:=fun Z=>lnV Z jh)
  refine z ?_ (h:=fun Z=>aa Z vt vt (bA (c:=true) c2))
  refine zm ?_
  refine zg ?_ (h:=fun Z=>ae rfl rfl (mt Z))
  refine zg ?_ (h:=fun Z=>ae rfl rfl (aa Z vt vc (bA rfl)))
  refine z ?_ (h:=fun Z=>au Z vt xt)
  refine nl ?_
  refine wi (fun c3=> ?_) (fun c3=> ?_)
  ·skip
   have c3P:=of_decide_eq_true c3
   have hgy:=DZ hy k
   refine sk (sq (bkk (rg (zm ?_))))
   refine z ?_ (h:=fun Z=>aa Z vt vc (rM (by omega) (by omega)))
   refine zm (zm ?_)
   refine z ?_ (h:=fun Z=>ixv Z jh yo vt (hlt:=(by omega)))
   refine z ?_ (h:=fun Z=>uY Z yp (by omega))
   refine z ?_ (h:=fun Z=>gH Z vt (oh (c:=(((gY b k):Nat):Int)) yr yq (Jk (by omega) (by omega))))
   refine z ?_ (h:=fun Z=>aa Z vt vt (rA (by omega) (by omega)))
   refine z ?_ (h:=fun Z=>aa Z vt vc (rA (by omega) (by omega)))
   refine z ?_ (h:=fun Z=>aa Z vt vc (io (c:=(((((((ro b k)*131)+(gY b k))+7)&&&1073741823):Nat):Int)) (pN (m:=((((ro b k)*131)+(gY b k))+7)) (n:=1073741823) (by rfl) rfl (by omega) (by omega))))
   refine za (nl (rg (zm ?_)))
   refine z ?_ (h:=fun Z=>aa Z vt vc (rA (by omega) (by omega)))
   refine za (nl ?_)
   exact aA ((k+1)) (by exact⟨by omega,by omega⟩) (by show b.length-(k+1)<b.length-k;omega) (wkf id (wS<|wE (e:=(be (by rfl)))<|wE (e:=(be (by rfl)))<|wF<|wF<|wF<|wN))
  ·skip
   have c3P:=of_decide_eq_false c3
   refine aU (sq (rg (zm (zm ?_))))
   refine z ?_ (h:=fun Z=>qL Z (by exact⟨0,0,_,.inr ⟨_,_,rfl⟩⟩) vt (fun _ _ _=>by kernel_rfl))
   refine z ?_ (h:=fun Z=>bo (h:=31) Z xt (by exact ob1 rfl))
   refine za (nl (aC ?_))
   exact⟨[kP 2 900 0,kO 900 100 3 true [(.slv b.length 1 (ysl b):A),aI 0,aI (((ro b k):Nat):Int)],kF 6,kF 10,kF 31],wkf (aX [(900,31)]) (wS<|wX<|wF<|wF<|wF<|wN),⟨bT (c:=[(.slv b.length 1 (ysl b):A),aI 0,aI (((ro b k):Nat):Int)]) (by kernel_rfl) (by(have e:k=min b.length 4000:=by omega);subst e;rfl),trivial⟩,VO.tmp 2 (.a (.ptr 900 0)) (by kernel_rfl)⟩
 ·skip
  have c2P:=of_decide_eq_false c2
  refine rg (zm (zm ?_))
  refine z ?_ (h:=fun Z=>lnV Z jh)
  refine z ?_ (h:=fun Z=>aa Z vt vt (bA (c:=false) c2))
  refine zm (zo (zo ?_))
  refine z ?_ (h:=fun Z=>ar Z vt xc)
  refine nl (wf (aU (sq (rg (zm (zm ?_))))))
  refine z ?_ (h:=fun Z=>qL Z (by exact⟨0,0,_,.inr ⟨_,_,rfl⟩⟩) vt (fun _ _ _=>by kernel_rfl))
  refine z ?_ (h:=fun Z=>bo (h:=31) Z xt (by exact ob1 rfl))
  refine za (nl (aC ?_))
  exact⟨[kP 2 900 0,kO 900 100 3 true [(.slv b.length 1 (ysl b):A),aI 0,aI (((ro b k):Nat):Int)],kF 6,kF 10,kF 31],wkf (aX [(900,31)]) (wS<|wX<|wF<|wF<|wF<|wN),⟨bT (c:=[(.slv b.length 1 (ysl b):A),aI 0,aI (((ro b k):Nat):Int)]) (by kernel_rfl) (by(have e:k=min b.length 4000:=by omega);subst e;rfl),trivial⟩,VO.tmp 2 (.a (.ptr 900 0)) (by kernel_rfl)⟩
theorem eD (b:List Nat) (c:Cu) (hb:b.length≤1048576) (hy:∀ x∈b,x<256) (hi:c.i≤b.length):FnO Tryz.prog 102 [.a (.ptr 1 0)] [(.o 1,some (.o ⟨100,3,true,[(.slv b.length 1 (ysl b):A),aI ((c.i:Nat):Int),aI c.h]⟩))] (V.v (.int .i64 (((cuV b c):Nat):Int))) [(.o 1,some (.o ⟨100,3,true,[(.slv b.length 1 (ysl b):A),aI (((cuB b c).i:Nat):Int),aI ((cuB b c).h)]⟩))] [1]:=by
 have hml:=zj (hN c.h)
 have hgy:=DZ hy c.i
 refine bW (N:=58) Tryz.func102 rfl (by kernel_rfl) rfl (Nat.le_of_ble_eq_true rfl) rfl rfl (by kernel_rfl) (by kernel_rfl) ⟨ocs (by kernel_rfl),trivial⟩ [33] (ip rfl) (fun W own kp im0=> ?_)
 show Wp _ _ _ [kP 0 1 0,kO 1 100 3 true [(.slv b.length 1 (ysl b):A),aI ((c.i:Nat):Int),aI c.h],kF 33]
 refine sq (rg (zk (nl (sq (rg (zm (zm ?_)))))))
 refine z ?_ (h:=fun Z=>dX Z)
 refine z ?_ (h:=fun Z=>aq (off':=2) Z iM rfl)
 refine z ?_ (h:=fun Z=>ah (x:= .val (.int .i64 c.h)) Z ee (by exact rfl))
 refine z ?_ (h:=fun Z=>aa Z vt vc (AO (c:=(mW c.h 6364136223846793005)) rfl))
 refine z ?_ (h:=fun Z=>aa Z vt vc (Je (c:=(aW (mW c.h 6364136223846793005) 1442695040888963407)) rfl))
 refine z ?_ (h:=fun Z=>dX Z)
 refine z ?_ (h:=fun Z=>aq (off':=2) Z iM rfl)
 refine z ?_ (h:=fun _=>aE (cells:=[(.slv b.length 1 (ysl b):A),aI ((c.i:Nat):Int),aI (aW (mW c.h 6364136223846793005) 1442695040888963407)]) ee xt (by exact rfl) (by decide) (by exact ob1 rfl) (by exact Nat.le_of_ble_eq_true rfl) (by exact rfl))
 refine nl (sq (ch (zdm ?_)))
 refine zd ?_ (h:=fun Z=>dX Z)
 refine zd ?_ (h:=fun Z=>aq (off':=2) Z iM rfl)
 refine zd ?_ (h:=fun Z=>ah (x:= .val (.int .i64 (aW (mW c.h 6364136223846793005) 1442695040888963407))) Z ee (by exact rfl))
 refine zd ?_ (h:=fun Z=>aa Z vt vc (ml (c:=(shrA (hN c.h))) (by omega) rfl))
 refine zdm ?_
 refine zd ?_ (h:=fun Z=>dX Z)
 refine zd ?_ (h:=fun Z=>aq (off':=2) Z iM rfl)
 refine zd ?_ (h:=fun Z=>ah (x:= .val (.int .i64 (aW (mW c.h 6364136223846793005) 1442695040888963407))) Z ee (by exact rfl))
 refine zd ?_ (h:=fun Z=>aa Z vt vc (ml (c:=(shrB (hN c.h))) (by omega) rfl))
 refine zd ?_ (h:=fun Z=>aa Z vt vt (r_xor (c:=(xrA (hN c.h))) rfl))
 refine zd ?_ (h:=fun Z=>aa Z vt vc (io (c:=((mix (hN c.h):Nat):Int)) (JZ _)))
 refine zd ?_ (h:=fun Z=>gt Z)
 refine bG (sq (sq (ch (zdm ?_))))
 refine zd ?_ (h:=fun Z=>dX Z)
 refine zd ?_ (h:=fun Z=>aq (off':=1) Z iL rfl)
 refine zd ?_ (h:=fun Z=>ah (x:= .val (.int .i64 ((c.i:Nat):Int))) Z ee (by exact rfl))
 refine zdm ?_
 refine zd ?_ (h:=fun Z=>dX Z)
 refine zd ?_ (h:=fun Z=>aq (off':=0) Z pq rfl)
 refine zd ?_ (h:=fun Z=>ah (x:= .slv b.length 1 (ysl b)) Z vw (by exact rfl))
 refine zd ?_ (h:=fun Z=>lnV Z jh)
 refine zd ?_ (h:=fun Z=>aa Z vt vt (bA rfl))
 refine bG ?_
 refine wi (fun c1=> ?_) (fun c1=> ?_)
 ·skip
  have c1P:=of_decide_eq_true c1
  refine sq (ch (zdm (zdm ?_)))
  refine zd ?_ (h:=fun Z=>dX Z)
  refine zd ?_ (h:=fun Z=>aq (off':=0) Z pq rfl)
  refine zd ?_ (h:=fun Z=>ah (x:= .slv b.length 1 (ysl b)) Z vw (by exact rfl))
  refine zdm ?_
  refine zd ?_ (h:=fun Z=>dX Z)
  refine zd ?_ (h:=fun Z=>aq (off':=1) Z iL rfl)
  refine zd ?_ (h:=fun Z=>ah (x:= .val (.int .i64 ((c.i:Nat):Int))) Z ee (by exact rfl))
  refine zd ?_ (h:=fun Z=>ixv Z jh yo vt (hlt:=(by omega)))
  refine zd ?_ (h:=fun Z=>uY Z yp (by omega))
  refine zd ?_ (h:=fun Z=>gH Z vt (oh (c:=(((gY b c.i):Nat):Int)) yr yq (Jk (by omega) (by omega))))
  refine zd ?_ (h:=fun Z=>aa Z vt vt (rA (by omega) (by omega)))
  refine zd ?_ (h:=fun Z=>aa Z vt vc (io (c:=(((((mix (hN c.h))+(gY b c.i))&&&255):Nat):Int)) (pN (m:=((mix (hN c.h))+(gY b c.i))) (n:=255) (by rfl) rfl (by omega) (by omega))))
  refine zd ?_ (h:=fun Z=>gt Z)
  refine bG (rg (zm (zm ?_)))
  refine z ?_ (h:=fun Z=>dX Z)
  refine z ?_ (h:=fun Z=>aq (off':=1) Z iL rfl)
  refine z ?_ (h:=fun Z=>ah (x:= .val (.int .i64 ((c.i:Nat):Int))) Z ee (by exact rfl))
  refine z ?_ (h:=fun Z=>aa Z vt vc (rA (by omega) (by omega)))
  refine z ?_ (h:=fun Z=>dX Z)
  refine z ?_ (h:=fun Z=>aq (off':=1) Z iL rfl)
  refine z ?_ (h:=fun _=>aE (cells:=[(.slv b.length 1 (ysl b):A),aI (((c.i:Nat):Int)+1),aI (aW (mW c.h 6364136223846793005) 1442695040888963407)]) ee xt (by exact rfl) (by decide) (by exact ob1 rfl) (by exact Nat.le_of_ble_eq_true rfl) (by exact rfl))
  refine nl (sq (rg (zm (za (nl (aC ?_))))))
  exact⟨_,dt,⟨bT (c:=[(.slv b.length 1 (ysl b):A),aI (((c.i:Nat):Int)+1),aI (aW (mW c.h 6364136223846793005) 1442695040888963407)]) (by kernel_rfl) (by(unfold cuB bI;rw[if_pos (by omega)];rfl)),trivial⟩,dC 2 (.a (.val (.int .i64 (((((mix (hN c.h))+(gY b c.i))&&&255):Nat):Int)))) (.a (.val (.int .i64 (((cuV b c):Nat):Int)))) (by kernel_rfl) (congrArg (fun z:Nat=>B.a (.val (.int .i64 (z:Int)))) (by(unfold cuV byX;rw[if_pos (by omega)])))⟩
 ·skip
  have c1P:=of_decide_eq_false c1
  refine sk (sq (rg (zm (za (nl (aC ?_))))))
  exact⟨_,dt,⟨bT (c:=[(.slv b.length 1 (ysl b):A),aI ((c.i:Nat):Int),aI (aW (mW c.h 6364136223846793005) 1442695040888963407)]) (by kernel_rfl) (by(unfold cuB bI;rw[if_neg (by omega)];rfl)),trivial⟩,dC 2 (.a (.val (.int .i64 ((mix (hN c.h):Nat):Int)))) (.a (.val (.int .i64 (((cuV b c):Nat):Int)))) (by kernel_rfl) (congrArg (fun z:Nat=>B.a (.val (.int .i64 (z:Int)))) (by(unfold cuV byX;rw[if_neg (by omega)])))⟩
theorem bl (b:List Nat) (c:Cu) (n:Nat) (hb:b.length≤1048576) (hy:∀ x∈b,x<256) (hi:c.i≤b.length) (hn:0<n) (hn2:n≤4294967296):FnO Tryz.prog 76 [.a (.ptr 1 0),.a (.val (.int .i64 ((n:Nat):Int)))] [(.o 1,some (.o ⟨100,3,true,[(.slv b.length 1 (ysl b):A),aI ((c.i:Nat):Int),aI c.h]⟩))] (V.v (.int .i64 (((cuX b c n):Nat):Int))) [(.o 1,some (.o ⟨100,3,true,[(.slv b.length 1 (ysl b):A),aI (((cuN b c n).i:Nat):Int),aI ((cuN b c n).h)]⟩))] [1]:=by
 have hv0:=vT b c
 have hv1:=vT b (cuB b c)
 have hv2:=vT b (cuB b (cuB b c))
 have hv3:=vT b (cuB b (cuB b (cuB b c)))
 have hi1:=yU hi
 have hi2:=yU hi1
 have hi3:=yU hi2
 refine bW (N:=37) Tryz.func76 rfl (by kernel_rfl) rfl (Nat.le_of_ble_eq_true rfl) rfl rfl (by kernel_rfl) (by kernel_rfl) ⟨ocs (by kernel_rfl),trivial⟩ [14,18,20,22,24] (ip rfl) (fun W own kp im0=> ?_)
 show Wp _ _ _ [kP 0 1 0,kI 1 ((n:Nat):Int),kO 1 100 3 true [(.slv b.length 1 (ysl b):A),aI ((c.i:Nat):Int),aI c.h],kF 14,kF 18,kF 20,kF 22,kF 24]
 refine sq (rg (zk (nl (sq (sq (rg (zm ?_)))))))
 refine z ?_ (h:=fun Z=>aa Z vt vc (qZ (c:=false) (decide_eq_false (by omega))))
 refine nl (wf (sk (sq (sq (rg (zm ?_))))))
 refine z ?_ (h:=fun Z=>aa Z vt vc (qZ rfl))
 refine nl ?_
 refine wi (fun c1=> ?_) (fun c1=> ?_)
 ·skip
  have c1P:=of_decide_eq_true c1
  obtain⟨hN1,hX1⟩:=cuN_1 (b:=b) (c:=c) (n:=n) (by omega)
  refine sq (rg (zm ?_))
  refine z ?_ (h:=fun Z=>aK (d:=14) (f:=102) (os:=[(.o 1,some (.o ⟨100,3,true,[(.slv b.length 1 (ysl b):A),aI ((c.i:Nat):Int),aI c.h]⟩))]) (os':=[(.o 1,some (.o ⟨100,3,true,[(.slv b.length 1 (ysl b):A),aI (((cuB b c).i:Nat):Int),aI ((cuB b c).h)]⟩))]) (r:=V.v (.int .i64 (((cuV b c):Nat):Int))) (bs:=[.a (.ptr 1 0)]) (keep:=[1]) (new:=[]) (dead:=[]) Z ((eD b c (by omega) (by omega) (by omega))) (by kernel_rfl) ⟨ocs (by kernel_rfl),trivial⟩ (by kernel_rfl) (ArgOs.cons (ArgO.slot 13 (.a (.ptr 1 0))) (ArgOs.nil)))
  refine zm ?_
  refine z ?_ (h:=fun Z=>aa Z vt vt (tw (c:=((((cuV b c):Nat):Int)%((n:Nat):Int))) (by omega) (remI (by omega))))
  refine za (nl (aC ?_))
  exact⟨_,dt,⟨bT (c:=[(.slv b.length 1 (ysl b):A),aI (((cuB b c).i:Nat):Int),aI ((cuB b c).h)]) (by kernel_rfl) (by exact eB hN1.symm _ _),trivial⟩,dC 4 (.a (.val (.int .i64 ((((cuV b c):Nat):Int)%((n:Nat):Int))))) (.a (.val (.int .i64 (((cuX b c n):Nat):Int)))) (by kernel_rfl) (congrArg (fun z:Int=>B.a (.val (.int .i64 z))) (by omega))⟩
 ·skip
  have c1P:=of_decide_eq_false c1
  obtain⟨hN1,hX1⟩:=cuN_4 (b:=b) (c:=c) (n:=n) (by omega)
  refine sk (sq (rg (zm ?_)))
  refine z ?_ (h:=fun Z=>aK (d:=18) (f:=102) (os:=[(.o 1,some (.o ⟨100,3,true,[(.slv b.length 1 (ysl b):A),aI ((c.i:Nat):Int),aI c.h]⟩))]) (os':=[(.o 1,some (.o ⟨100,3,true,[(.slv b.length 1 (ysl b):A),aI (((cuB b c).i:Nat):Int),aI ((cuB b c).h)]⟩))]) (r:=V.v (.int .i64 (((cuV b c):Nat):Int))) (bs:=[.a (.ptr 1 0)]) (keep:=[1]) (new:=[]) (dead:=[]) Z ((eD b c (by omega) (by omega) (by omega))) (by kernel_rfl) ⟨ocs (by kernel_rfl),trivial⟩ (by kernel_rfl) (ArgOs.cons (ArgO.slot 17 (.a (.ptr 1 0))) (ArgOs.nil)))
  refine za (nl (sq (rg (zm ?_))))
  refine z ?_ (h:=fun Z=>aK (d:=20) (f:=102) (os:=[(.o 1,some (.o ⟨100,3,true,[(.slv b.length 1 (ysl b):A),aI (((cuB b c).i:Nat):Int),aI ((cuB b c).h)]⟩))]) (os':=[(.o 1,some (.o ⟨100,3,true,[(.slv b.length 1 (ysl b):A),aI (((cuB b (cuB b c)).i:Nat):Int),aI ((cuB b (cuB b c)).h)]⟩))]) (r:=V.v (.int .i64 (((cuV b (cuB b c)):Nat):Int))) (bs:=[.a (.ptr 1 0)]) (keep:=[1]) (new:=[]) (dead:=[]) Z ((eD b (cuB b c) (by omega) (by omega) (by omega))) (by kernel_rfl) ⟨ocs (by kernel_rfl),trivial⟩ (by kernel_rfl) (ArgOs.cons (ArgO.slot 19 (.a (.ptr 1 0))) (ArgOs.nil)))
  refine za (nl (sq (rg (zm ?_))))
  refine z ?_ (h:=fun Z=>aK (d:=22) (f:=102) (os:=[(.o 1,some (.o ⟨100,3,true,[(.slv b.length 1 (ysl b):A),aI (((cuB b (cuB b c)).i:Nat):Int),aI ((cuB b (cuB b c)).h)]⟩))]) (os':=[(.o 1,some (.o ⟨100,3,true,[(.slv b.length 1 (ysl b):A),aI (((cuB b (cuB b (cuB b c))).i:Nat):Int),aI ((cuB b (cuB b (cuB b c))).h)]⟩))]) (r:=V.v (.int .i64 (((cuV b (cuB b (cuB b c))):Nat):Int))) (bs:=[.a (.ptr 1 0)]) (keep:=[1]) (new:=[]) (dead:=[]) Z ((eD b (cuB b (cuB b c)) (by omega) (by omega) (by omega))) (by kernel_rfl) ⟨ocs (by kernel_rfl),trivial⟩ (by kernel_rfl) (ArgOs.cons (ArgO.slot 21 (.a (.ptr 1 0))) (ArgOs.nil)))
  refine za (nl (sq (rg (zm ?_))))
  refine z ?_ (h:=fun Z=>aK (d:=24) (f:=102) (os:=[(.o 1,some (.o ⟨100,3,true,[(.slv b.length 1 (ysl b):A),aI (((cuB b (cuB b (cuB b c))).i:Nat):Int),aI ((cuB b (cuB b (cuB b c))).h)]⟩))]) (os':=[(.o 1,some (.o ⟨100,3,true,[(.slv b.length 1 (ysl b):A),aI (((cuB b (cuB b (cuB b (cuB b c)))).i:Nat):Int),aI ((cuB b (cuB b (cuB b (cuB b c)))).h)]⟩))]) (r:=V.v (.int .i64 (((cuV b (cuB b (cuB b (cuB b c)))):Nat):Int))) (bs:=[.a (.ptr 1 0)]) (keep:=[1]) (new:=[]) (dead:=[]) Z ((eD b (cuB b (cuB b (cuB b c))) (by omega) (by omega) (by omega))) (by kernel_rfl) ⟨ocs (by kernel_rfl),trivial⟩ (by kernel_rfl) (ArgOs.cons (ArgO.slot 23 (.a (.ptr 1 0))) (ArgOs.nil)))
  refine za (nl (sq (rg (zm ?_))))
  refine z ?_ (h:=fun Z=>aa Z vt vc (rM (by omega) (by omega)))
  refine zm ?_
  refine z ?_ (h:=fun Z=>aa Z vt vc (rM (by omega) (by omega)))
  refine z ?_ (h:=fun Z=>aa Z vt vt (rA (by omega) (by omega)))
  refine zm ?_
  refine z ?_ (h:=fun Z=>aa Z vt vc (rM (by omega) (by omega)))
  refine z ?_ (h:=fun Z=>aa Z vt vt (rA (by omega) (by omega)))
  refine zm ?_
  refine z ?_ (h:=fun Z=>aa Z vt vt (rA (by omega) (by omega)))
  refine zm ?_
  refine z ?_ (h:=fun Z=>aa Z vt vt (tw (c:=((((((((cuV b c):Nat):Int)*16777216)+((((cuV b (cuB b c)):Nat):Int)*65536))+((((cuV b (cuB b (cuB b c))):Nat):Int)*256))+(((cuV b (cuB b (cuB b (cuB b c)))):Nat):Int))%((n:Nat):Int))) (by omega) (remI (by omega))))
  refine za (nl (aC ?_))
  exact⟨_,dt,⟨bT (c:=[(.slv b.length 1 (ysl b):A),aI (((cuB b (cuB b (cuB b (cuB b c)))).i:Nat):Int),aI ((cuB b (cuB b (cuB b (cuB b c)))).h)]) (by kernel_rfl) (by exact eB hN1.symm _ _),trivial⟩,dC 4 (.a (.val (.int .i64 ((((((((cuV b c):Nat):Int)*16777216)+((((cuV b (cuB b c)):Nat):Int)*65536))+((((cuV b (cuB b (cuB b c))):Nat):Int)*256))+(((cuV b (cuB b (cuB b (cuB b c)))):Nat):Int))%((n:Nat):Int))))) (.a (.val (.int .i64 (((cuX b c n):Nat):Int)))) (by kernel_rfl) (congrArg (fun z:Int=>B.a (.val (.int .i64 z))) (by(rw[hX1];unfold cuV4;rfl)))⟩
theorem iA (b:List Nat) (c:Cu) (n:Nat) (hb:b.length≤1048576) (hy:∀ x∈b,x<256) (hi:c.i≤b.length) (hn:0<n) (hn2:n≤4294967296):FnO Tryz.prog 99 [.a (.ptr 1 0),.a (.val (.int .i64 ((n:Nat):Int)))] [(.o 1,some (.o ⟨100,3,true,[(.slv b.length 1 (ysl b):A),aI ((c.i:Nat):Int),aI c.h]⟩))] (V.v (.bool (decide (cuX b c n=0)))) [(.o 1,some (.o ⟨100,3,true,[(.slv b.length 1 (ysl b):A),aI (((cuN b c n).i:Nat):Int),aI ((cuN b c n).h)]⟩))] [1]:=by
 refine bW (N:=9) Tryz.func99 rfl (by kernel_rfl) rfl (Nat.le_of_ble_eq_true rfl) rfl rfl (by kernel_rfl) (by kernel_rfl) ⟨ocs (by kernel_rfl),trivial⟩ [7] (ip rfl) (fun W own kp im0=> ?_)
 show Wp _ _ _ [kP 0 1 0,kI 1 ((n:Nat):Int),kO 1 100 3 true [(.slv b.length 1 (ysl b):A),aI ((c.i:Nat):Int),aI c.h],kF 7]
 refine sq (rg (zk (nl (sq (rg (zm (zm ?_)))))))
 refine z ?_ (h:=fun Z=>aK (d:=7) (f:=76) (os:=[(.o 1,some (.o ⟨100,3,true,[(.slv b.length 1 (ysl b):A),aI ((c.i:Nat):Int),aI c.h]⟩))]) (os':=[(.o 1,some (.o ⟨100,3,true,[(.slv b.length 1 (ysl b):A),aI (((cuN b c n).i:Nat):Int),aI ((cuN b c n).h)]⟩))]) (r:=V.v (.int .i64 (((cuX b c n):Nat):Int))) (bs:=[.a (.ptr 1 0),.a (.val (.int .i64 ((n:Nat):Int)))]) (keep:=[1]) (new:=[]) (dead:=[]) Z ((bl b c n (by omega) (by omega) (by omega) (by omega) (by omega))) (by kernel_rfl) ⟨ocs (by kernel_rfl),trivial⟩ (by kernel_rfl) (ArgOs.cons (ArgO.slot 5 (.a (.ptr 1 0))) (ArgOs.cons ((ArgO.v vt)) (ArgOs.nil))))
 refine z ?_ (h:=fun Z=>aa Z vt vc (ct rfl))
 refine za (nl (aC ?_))
 exact⟨_,dt,⟨by kernel_rfl,trivial⟩,dC 4 (.a (.val (.bool (decide ((((cuX b c n):Nat):Int)=0))))) (.a (.val (.bool (decide (cuX b c n=0))))) (by kernel_rfl) (congrArg (fun z:Bool=>B.a (.val (.bool z))) (by(rw[decide_eq_decide];omega)))⟩
theorem gz (w h:Nat) (hw:1≤w∧w≤8) (hh:1≤h∧h≤8):Fn Tryz.prog 101 [.a (.val (.int .i64 ((w:Nat):Int))),.a (.val (.int .i64 ((h:Nat):Int)))] [.reg 3 1 (bF w h).length (isl (bF w h))]:=by
 have hpw:2^ w≤2^ 8:=Nat.pow_le_pow_right (by decide) hw.2
 have hp0:0<2^ w:=Nat.two_pow_pos w
 refine bm (N:=30) Tryz.func101 rfl (by kernel_rfl) rfl (Nat.le_of_ble_eq_true rfl) [4,5,13,17,26,27,1000] (dN rfl) (fun W=> ?_)
 show Wp _ _ _ [kI 0 ((w:Nat):Int),kI 1 ((h:Nat):Int),kF 4,kF 5,kF 13,kF 17,kF 26,kF 27,kF 1000]
 refine sq (rg ?_)
 refine z ?_ (h:=fun Z=>aL (h:=4) (cap:=1) (s:=1) (cells:=[(.val (.slice none 0 0):A)]) Z nk rfl rfl (by decide))
 refine nl (sq (rg ?_))
 refine z ?_ (h:=fun Z=>kK (cells:=[(.slice none 0 0:Value)]) Z OpVs.nil rfl)
 refine z ?_ (h:=fun Z=>aL (h:=5) (cap:=1) (s:=1) (cells:=[(.val (.slice none 0 0):A)]) Z nk rfl rfl (by decide))
 refine z ?_ (h:=fun _=>aE (cells:=[(.val (.slice none 0 0):A)]) dq xt (by exact rfl) (by decide) (by exact ob1 rfl) (by exact Nat.le_of_ble_eq_true rfl) (by exact rfl))
 refine nl (sq (sq (rg (zk (nl (bkk ?_))))))
 refine dW (zR (h:=5) (h1:=13) (T0:=29) (s0:=1) (ex:=true) (T:=3)) ?_
 refine bg (fun(k:Nat)=>k≤h) (fun(k:Nat)=>[kI 0 ((w:Nat):Int),kI 1 ((h:Nat):Int),kP 4 4 0,kP 5 5 0,kI 6 ((k:Nat):Int),kO 4 29 1 true [(.val (.slice none 0 0):A)],kO 5 29 1 true [(.sl 13 0 ((bF w k).length):A)],kO 13 3 1 true (pl (isl (bF w k))),kF 17,kF 26,kF 27,kF 1000]) (fun(k:Nat)=>h-k) ((0:Nat)) (by exact(Nat.zero_le _:0≤_)) (wkf id (wS<|wS<|wS<|wS<|wE (e:=(be (by rfl)))<|wX<|wO (e:=gv (fun h=>h) (congrArg (fun z:Nat=>[A.sl 13 0 z]) (by rfl)) rfl)<|wO (e:=aJ (fun h=>h) (congrArg isl (by rfl)))<|wF<|wF<|wF<|wF<|wN)) ?_
 rintro k inv1
 replace inv1:k≤h:=inv1
 have invk:=inv1
 have hrl:(bF w k).length=k:=by simp [bF]
 refine sq (sq ?_)
 rcases Bool.eq_false_or_eq_true (decide (((k:Nat):Int)<((h:Nat):Int)))with c2 |c2
 ·skip
  have c2P:=of_decide_eq_true c2
  refine rg (zm (zm ?_))
  refine z ?_ (h:=fun Z=>aa Z vt vt (bA (c:=true) c2))
  refine zm ?_
  refine zg ?_ (h:=fun Z=>ae rfl rfl (mt Z))
  refine zg ?_ (h:=fun Z=>ae rfl rfl (ag Z (cd ((w:Nat):Int) 1 8 ) (ac (ArgV.v vt) (ac (ArgV.v vc) (ac (ArgV.v vc) an))) (bi (congrArg Value.bool (bP.2 (by omega))))))
  refine z ?_ (h:=fun Z=>au Z vt xt)
  refine zm ?_
  refine zg ?_ (h:=fun Z=>ae rfl rfl (mt Z))
  refine zg ?_ (h:=fun Z=>ae rfl rfl (ag Z (cd ((h:Nat):Int) 1 8 ) (ac (ArgV.v vt) (ac (ArgV.v vc) (ac (ArgV.v vc) an))) (bi (congrArg Value.bool (bP.2 (by omega))))))
  refine z ?_ (h:=fun Z=>au Z vt xt)
  refine nl (wt (sk (sq (bkk (ch ?_)))))
  refine zd ?_ (h:=fun Z=>aq (off':=0) Z fa rfl)
  refine zd ?_ (h:=fun Z=>ah (x:= .sl 13 0 ((bF w k).length)) Z gW (by exact rfl))
  refine zdm ?_
  refine zd ?_ (h:=fun Z=>aa Z vc vt (fw (c:=(((2^ w):Nat):Int)) (by omega) (kA (n:=w) rfl (by omega))))
  refine zd ?_ (h:=fun Z=>aa Z vt vc (rS (by omega) (by omega)))
  refine zd ?_ (h:=fun Z=>aP (h:=26) (xs:=isl ([((((2^ w):Nat):Int)-1)]:List Int)) Z gX yt (.cons vt OpVs.nil) (by decide) (by decide) (by kernel_rfl) rfl)
  refine zd ?_ (h:=fun Z=>aI_ (h2:=27) (L3:=((bF w k)++[((((2^ w):Nat):Int)-1)])) Z gX yt (by exact rfl) rfl (by exact rfl) (by(simp;omega)))
  refine zd ?_ (h:=fun Z=>aq (off':=0) Z fa rfl)
  refine zd ?_ (h:=fun _=>aE (cells:=[(.sl 27 0 (((bF w k)++[((((2^ w):Nat):Int)-1)]).length):A)]) gW xt (by exact rfl) (by decide) (by exact ob1 rfl) (by exact Nat.le_of_ble_eq_true rfl) (by exact rfl))
  refine bG (rg (zm ?_))
  refine z ?_ (h:=fun Z=>aa Z vt vc (rA (by omega) (by omega)))
  refine za (nl ?_)
  exact aA ((k+1)) (by show _≤_;omega) (by show h-(k+1)<h-k;omega) (wkf (aX [(13,27)]) (wS<|wS<|wS<|wS<|wE (e:=(be (by rfl)))<|wX<|wO (e:=gv (fun h=>h) (congrArg (fun z:Nat=>[A.sl 27 0 z]) (by(exact congrArg List.length (by first |rfl |omega |(simp [bF];done) |(unfold bF rc;rw[List.replicate_succ'];rfl) |(unfold bF rc;rw[List.replicate_succ']))))) rfl)<|wO (e:=aJ (fun h=>h) (congrArg isl (by(unfold bF rc;rw[List.replicate_succ']))))<|wF<|wF<|wF<|wF<|wN))
 ·skip
  have c2P:=of_decide_eq_false c2
  refine rg (zm (zm ?_))
  refine z ?_ (h:=fun Z=>aa Z vt vt (bA (c:=false) c2))
  refine zm (zo (zo ?_))
  refine z ?_ (h:=fun Z=>ar Z vt xc)
  refine zm (zo (zo ?_))
  refine z ?_ (h:=fun Z=>ar Z vt xc)
  refine nl (wf (aU (sq (rg ?_))))
  refine z ?_ (h:=fun Z=>ab (xs:=[(.sl 13 0 ((bF w k).length):A)]) Z dq rfl (by decide) rfl)
  refine z ?_ (h:=fun _=>aE (cells:=[(.sl 13 0 ((bF w k).length):A)]) dq xt (by exact rfl) (by decide) (by exact ob1 rfl) (by exact Nat.le_of_ble_eq_true rfl) (by exact rfl))
  refine nl (aC ?_)
  exact VRes.cells 4 29 4 ⟨29,1,true,[(.sl 13 0 ((bF w k).length):A)]⟩ _ (by kernel_rfl) (by kernel_rfl) dq (Nat.le_of_ble_eq_true rfl) (breg (h:=13) (L:=(bF w k)) (by kernel_rfl) (by(have e:k=h:=by omega);subst e;first |rfl |(simp [bF];done)) (by rfl))
theorem jQ (b:List Nat) (c:Cu) (hb:b.length≤1048576) (hy:∀ x∈b,x<256) (hi:c.i≤b.length):FnO Tryz.prog 98 [.a (.ptr 1 0)] [(.o 1,some (.o ⟨100,3,true,[(.slv b.length 1 (ysl b):A),aI ((c.i:Nat):Int),aI c.h]⟩))] (V.b (.agg [(.sl 900 0 ((r3 b c).1.length):A)])) [(.o 1,some (.o ⟨100,3,true,[(.slv b.length 1 (ysl b):A),aI ((((r3 b c).2).i:Nat):Int),aI (((r3 b c).2).h)]⟩)),(.o 900,some (.o ⟨3,1,true,pl (isl ((r3 b c).1))⟩))] [1]:=by
 have hx6:cuX b c 6<6:=du (by decide)
 have hx5:cuX b (cuN b c 6) 5<5:=du (by decide)
 have hxk:cuX b (cuN b (cuN b c 6) 5) 5<5:=du (by decide)
 have hi1:=cg (n:=6) hi
 have hi2:=cg (n:=5) hi1
 have hi3:=cg (n:=5) hi2
 have hrl:(bF (1+cuX b c 6) (1+cuX b (cuN b c 6) 5)).length=(1+cuX b (cuN b c 6) 5):=by simp [bF]
 have hr3:=(Fj b c).ln
 refine bW (N:=74) Tryz.func98 rfl (by kernel_rfl) rfl (Nat.le_of_ble_eq_true rfl) rfl rfl (by kernel_rfl) (by kernel_rfl) ⟨ocs (by kernel_rfl),trivial⟩ [2,5,11,14,18,20,27,30,56,60,74,75,76,77] (ip rfl) (fun W own kp im0=> ?_)
 show Wp _ _ _ [kP 0 1 0,kO 1 100 3 true [(.slv b.length 1 (ysl b):A),aI ((c.i:Nat):Int),aI c.h],kF 2,kF 5,kF 11,kF 14,kF 18,kF 20,kF 27,kF 30,kF 56,kF 60,kF 74,kF 75,kF 76,kF 77]
 refine sq (rg ?_)
 refine z ?_ (h:=fun Z=>aL (h:=2) (cap:=1) (s:=1) (cells:=[(.val (.slice none 0 0):A)]) Z nk rfl rfl (by decide))
 refine nl (sq (rg (zm ?_)))
 refine z ?_ (h:=fun Z=>aK (d:=11) (f:=76) (os:=[(.o 1,some (.o ⟨100,3,true,[(.slv b.length 1 (ysl b):A),aI ((c.i:Nat):Int),aI c.h]⟩))]) (os':=[(.o 1,some (.o ⟨100,3,true,[(.slv b.length 1 (ysl b):A),aI (((cuN b c 6).i:Nat):Int),aI ((cuN b c 6).h)]⟩))]) (r:=V.v (.int .i64 (((cuX b c 6):Nat):Int))) (bs:=[.a (.ptr 1 0),.a (.val (.int .i64 6))]) (keep:=[1]) (new:=[]) (dead:=[]) Z ((bl b c 6 (by omega) (by omega) (by omega) (by omega) (by omega))) (by kernel_rfl) ⟨ocs (by kernel_rfl),trivial⟩ (by kernel_rfl) (ArgOs.cons (ArgO.slot 10 (.a (.ptr 1 0))) (ArgOs.cons ((ArgO.v vc)) (ArgOs.nil))))
 refine z ?_ (h:=fun Z=>aa Z vc vt (rA (by omega) (by omega)))
 refine za (nl (sq (rg (zm ?_))))
 refine z ?_ (h:=fun Z=>aK (d:=14) (f:=76) (os:=[(.o 1,some (.o ⟨100,3,true,[(.slv b.length 1 (ysl b):A),aI (((cuN b c 6).i:Nat):Int),aI ((cuN b c 6).h)]⟩))]) (os':=[(.o 1,some (.o ⟨100,3,true,[(.slv b.length 1 (ysl b):A),aI (((cuN b (cuN b c 6) 5).i:Nat):Int),aI ((cuN b (cuN b c 6) 5).h)]⟩))]) (r:=V.v (.int .i64 (((cuX b (cuN b c 6) 5):Nat):Int))) (bs:=[.a (.ptr 1 0),.a (.val (.int .i64 5))]) (keep:=[1]) (new:=[]) (dead:=[]) Z ((bl b (cuN b c 6) 5 (by omega) (by omega) (by omega) (by omega) (by omega))) (by kernel_rfl) ⟨ocs (by kernel_rfl),trivial⟩ (by kernel_rfl) (ArgOs.cons (ArgO.slot 13 (.a (.ptr 1 0))) (ArgOs.cons ((ArgO.v vc)) (ArgOs.nil))))
 refine z ?_ (h:=fun Z=>aa Z vc vt (rA (by omega) (by omega)))
 refine za (nl (sq (rg (zm (zm ?_)))))
 refine z ?_ (h:=fun Z=>ag Z (gz (1+(cuX b c 6)) (1+(cuX b (cuN b c 6) 5)) (by omega) (by omega)) (ac (ArgV.v vt) (ac (ArgV.v vt) an)) (ResV.reg _ _ _ _ 18))
 refine z ?_ (h:=fun Z=>aL (h:=5) (cap:=1) (s:=1) (cells:=[(.val (.slice none 0 0):A)]) Z nk rfl rfl (by decide))
 refine z ?_ (h:=fun _=>aE (cells:=[(.sl 18 0 ((bF (1+(cuX b c 6)) (1+(cuX b (cuN b c 6) 5))).length):A)]) dq xt (by exact rfl) (by decide) (by exact ob1 rfl) (by exact Nat.le_of_ble_eq_true rfl) (by exact rfl))
 refine nl (sq (sq (rg (zm ?_))))
 refine z ?_ (h:=fun Z=>aK (d:=20) (f:=76) (os:=[(.o 1,some (.o ⟨100,3,true,[(.slv b.length 1 (ysl b):A),aI (((cuN b (cuN b c 6) 5).i:Nat):Int),aI ((cuN b (cuN b c 6) 5).h)]⟩))]) (os':=[(.o 1,some (.o ⟨100,3,true,[(.slv b.length 1 (ysl b):A),aI (((cuN b (cuN b (cuN b c 6) 5) 5).i:Nat):Int),aI ((cuN b (cuN b (cuN b c 6) 5) 5).h)]⟩))]) (r:=V.v (.int .i64 (((cuX b (cuN b (cuN b c 6) 5) 5):Nat):Int))) (bs:=[.a (.ptr 1 0),.a (.val (.int .i64 5))]) (keep:=[1]) (new:=[]) (dead:=[]) Z ((bl b (cuN b (cuN b c 6) 5) 5 (by omega) (by omega) (by omega) (by omega) (by omega))) (by kernel_rfl) ⟨ocs (by kernel_rfl),trivial⟩ (by kernel_rfl) (ArgOs.cons (ArgO.slot 19 (.a (.ptr 1 0))) (ArgOs.cons ((ArgO.v vc)) (ArgOs.nil))))
 refine za (nl (bkk ?_))
 refine bg (fun((k,cz,R):Nat × Cu × (List Int))=>RP (1+cuX b (cuN b c 6) 5) R∧cz.i≤b.length∧k≤5∧r3L b (1+cuX b c 6) (1+cuX b (cuN b c 6) 5) k cz R=r3M b c) (fun((k,cz,R):Nat × Cu × (List Int))=>[kP 0 1 0,kP 2 2 0,kI 3 (1+(((cuX b c 6):Nat):Int)),kI 4 (1+(((cuX b (cuN b c 6) 5):Nat):Int)),kP 5 5 0,kI 6 ((k:Nat):Int),kO 1 100 3 true [(.slv b.length 1 (ysl b):A),aI ((cz.i:Nat):Int),aI cz.h],kO 2 29 1 true [(.val (.slice none 0 0):A)],kO 5 29 1 true [(.sl 18 0 ((bF (1+(cuX b c 6)) (1+(cuX b (cuN b c 6) 5))).length):A)],kO 18 3 1 true (pl (isl R)),kF 11,kF 14,kF 20,kF 27,kF 30,kF 56,kF 60,kF 74,kF 75,kF 76,kF 77]) (fun((k,cz,R):Nat × Cu × (List Int))=>k) (((cuX b (cuN b (cuN b c 6) 5) 5):Nat),((cuN b (cuN b (cuN b c 6) 5) 5):Cu),((bF (1+cuX b c 6) (1+cuX b (cuN b c 6) 5)):List Int)) (by exact⟨RP.rect (by omega),hi3,by omega,rfl⟩) (wkf id (wS<|wS<|wS<|wS<|wS<|wS<|wX<|wX<|wX<|wO (e:=aJ (fun h=>h) (congrArg isl (by rfl)))<|by(iterate 11 refine wF ?_);exact wN)) ?_
 rintro⟨k,cz,R⟩ inv1
 replace inv1:RP (1+cuX b (cuN b c 6) 5) R∧cz.i≤b.length∧k≤5∧r3L b (1+cuX b c 6) (1+cuX b (cuN b c 6) 5) k cz R=r3M b c:=inv1
 obtain⟨hRP,hi0,hk5,hr3L⟩:=inv1
 have hRl:=hRP.ln
 refine sq (sq (rg (zm ?_)))
 refine z ?_ (h:=fun Z=>aa Z vt vc (vz rfl))
 refine nl ?_
 refine wi (fun c2=> ?_) (fun c2=> ?_)
 ·skip
  have c2P:=of_decide_eq_true c2
  have hyl:(cuX b cz (1+cuX b (cuN b c 6) 5))<(1+cuX b (cuN b c 6) 5):=du (by omega)
  have hxl:(cuX b (cuN b cz (1+cuX b (cuN b c 6) 5)) (1+cuX b c 6))<(1+cuX b c 6):=du (by omega)
  have hi4:=cg (n:=(1+cuX b (cuN b c 6) 5)) hi0
  have hi5:=cg (n:=(1+cuX b c 6)) hi4
  have hbd:=hRP.bd _ hyl
  have hp2:2^ (cuX b (cuN b cz (1+cuX b (cuN b c 6) 5)) (1+cuX b c 6))<2^ 8:=Nat.pow_lt_pow_right (by decide) (by omega)
  have hp0:0<2^ (cuX b (cuN b cz (1+cuX b (cuN b c 6) 5)) (1+cuX b c 6)):=Nat.two_pow_pos _
  refine sk (sq (bkk (sq (rg (zm (zm ?_))))))
  refine z ?_ (h:=fun Z=>aK (d:=27) (f:=76) (os:=[(.o 1,some (.o ⟨100,3,true,[(.slv b.length 1 (ysl b):A),aI ((cz.i:Nat):Int),aI cz.h]⟩))]) (os':=[(.o 1,some (.o ⟨100,3,true,[(.slv b.length 1 (ysl b):A),aI (((cuN b cz (1+(cuX b (cuN b c 6) 5))).i:Nat):Int),aI ((cuN b cz (1+(cuX b (cuN b c 6) 5))).h)]⟩))]) (r:=V.v (.int .i64 (((cuX b cz (1+(cuX b (cuN b c 6) 5))):Nat):Int))) (bs:=[.a (.ptr 1 0),.a (.val (.int .i64 (1+(((cuX b (cuN b c 6) 5):Nat):Int))))]) (keep:=[1]) (new:=[]) (dead:=[]) Z ((bl b cz (1+(cuX b (cuN b c 6) 5)) (by omega) (by omega) (by omega) (by omega) (by omega))) (by kernel_rfl) ⟨ocs (by kernel_rfl),trivial⟩ (by kernel_rfl) (ArgOs.cons (ArgO.slot 25 (.a (.ptr 1 0))) (ArgOs.cons ((ArgO.v vt)) (ArgOs.nil))))
  refine za (nl (sq (rg (zm (zm ?_)))))
  refine z ?_ (h:=fun Z=>aK (d:=30) (f:=76) (os:=[(.o 1,some (.o ⟨100,3,true,[(.slv b.length 1 (ysl b):A),aI (((cuN b cz (1+(cuX b (cuN b c 6) 5))).i:Nat):Int),aI ((cuN b cz (1+(cuX b (cuN b c 6) 5))).h)]⟩))]) (os':=[(.o 1,some (.o ⟨100,3,true,[(.slv b.length 1 (ysl b):A),aI (((cuN b (cuN b cz (1+(cuX b (cuN b c 6) 5))) (1+(cuX b c 6))).i:Nat):Int),aI ((cuN b (cuN b cz (1+(cuX b (cuN b c 6) 5))) (1+(cuX b c 6))).h)]⟩))]) (r:=V.v (.int .i64 (((cuX b (cuN b cz (1+(cuX b (cuN b c 6) 5))) (1+(cuX b c 6))):Nat):Int))) (bs:=[.a (.ptr 1 0),.a (.val (.int .i64 (1+(((cuX b c 6):Nat):Int))))]) (keep:=[1]) (new:=[]) (dead:=[]) Z ((bl b (cuN b cz (1+(cuX b (cuN b c 6) 5))) (1+(cuX b c 6)) (by omega) (by omega) (by omega) (by omega) (by omega))) (by kernel_rfl) ⟨ocs (by kernel_rfl),trivial⟩ (by kernel_rfl) (ArgOs.cons (ArgO.slot 28 (.a (.ptr 1 0))) (ArgOs.cons ((ArgO.v vt)) (ArgOs.nil))))
  refine za (nl (sq (rg ?_)))
  refine z ?_ (h:=fun Z=>aq (off':=0) Z fa rfl)
  refine z ?_ (h:=fun Z=>ah (x:= .sl 18 0 ((bF (1+(cuX b c 6)) (1+(cuX b (cuN b c 6) 5))).length)) Z gW (by exact rfl))
  refine zm ?_
  refine z ?_ (h:=fun Z=>ix0 Z gX mi vt (hlt:=(by omega)))
  refine z ?_ (h:=fun Z=>lI Z ee (by omega))
  refine zm ?_
  refine z ?_ (h:=fun Z=>aa Z vt vt (ml (c:=(((((gI R (cuX b cz (1+(cuX b (cuN b c 6) 5)))).toNat)>>>(cuX b (cuN b cz (1+(cuX b (cuN b c 6) 5))) (1+(cuX b c 6)))):Nat):Int)) (by omega) (wH (m:=((gI R (cuX b cz (1+(cuX b (cuN b c 6) 5)))).toNat)) (n:=(cuX b (cuN b cz (1+(cuX b (cuN b c 6) 5))) (1+(cuX b c 6)))) (Int.toNat_of_nonneg (by omega)).symm rfl (by omega) rfl)))
  refine z ?_ (h:=fun Z=>aa Z vt vc (io (c:=((((((gI R (cuX b cz (1+(cuX b (cuN b c 6) 5)))).toNat)>>>(cuX b (cuN b cz (1+(cuX b (cuN b c 6) 5))) (1+(cuX b c 6))))&&&1):Nat):Int)) (pN (m:=(((gI R (cuX b cz (1+(cuX b (cuN b c 6) 5)))).toNat)>>>(cuX b (cuN b cz (1+(cuX b (cuN b c 6) 5))) (1+(cuX b c 6))))) (n:=1) rfl rfl (by exact Nat.lt_of_le_of_lt (jA _ _) (by first |omega |assumption |(first |omega |assumption |(rw[hrl];omega)))) (by omega))))
  refine z ?_ (h:=fun Z=>aa Z vt vc (ct (c:=(((gI R (cuX b cz (1+(cuX b (cuN b c 6) 5)))).toNat).testBit (cuX b (cuN b cz (1+(cuX b (cuN b c 6) 5))) (1+(cuX b c 6))))) (mD _ _)))
  refine nl ?_
  refine wi (b:=(((gI R (cuX b cz (1+(cuX b (cuN b c 6) 5)))).toNat).testBit (cuX b (cuN b cz (1+(cuX b (cuN b c 6) 5))) (1+(cuX b c 6))))) (fun c3=> ?_) (fun c3=> ?_)
  ·skip
   have hbt:sf R (cuX b cz (1+cuX b (cuN b c 6) 5)) (cuX b (cuN b cz (1+cuX b (cuN b c 6) 5)) (1+cuX b c 6))=true:=c3
   have hnx:=Kp (k:=k) (by omega) hbt
   have hRP2:=hRP.take hyl hbt
   refine ch ?_
   refine zd ?_ (h:=fun Z=>aq (off':=0) Z fa rfl)
   refine zd ?_ (h:=fun Z=>ah (x:= .sl 18 0 ((bF (1+(cuX b c 6)) (1+(cuX b (cuN b c 6) 5))).length)) Z gW (by exact rfl))
   refine zdm ?_
   refine zd ?_ (h:=fun Z=>aq (off':=0) Z fa rfl)
   refine zd ?_ (h:=fun Z=>ah (x:= .sl 18 0 ((bF (1+(cuX b c 6)) (1+(cuX b (cuN b c 6) 5))).length)) Z gW (by exact rfl))
   refine zdm ?_
   refine zd ?_ (h:=fun Z=>ix0 Z gX mi vt (hlt:=(by omega)))
   refine zd ?_ (h:=fun Z=>lI Z ee (by omega))
   refine zdm ?_
   refine zd ?_ (h:=fun Z=>aa Z vc vt (fw (c:=(((2^ (cuX b (cuN b cz (1+(cuX b (cuN b c 6) 5))) (1+(cuX b c 6)))):Nat):Int)) (by omega) (kA (n:=(cuX b (cuN b cz (1+(cuX b (cuN b c 6) 5))) (1+(cuX b c 6)))) rfl (by omega))))
   refine zd ?_ (h:=fun Z=>aa Z vt vt (rS (by omega) (by omega)))
   refine zd ?_ (h:=fun Z=>ix0 Z gX mi vt (hlt:=(by omega)))
   refine zd ?_ (h:=fun _=>sI ee xt (by omega))
   refine bG (rg (zm ?_))
   refine z ?_ (h:=fun Z=>aa Z vt vc (rS (by omega) (by omega)))
   refine za (nl ?_)
   exact aA ((k-1),(cuN b (cuN b cz (1+cuX b (cuN b c 6) 5)) (1+cuX b c 6)),(R.set (cuX b cz (1+(cuX b (cuN b c 6) 5))) ((gI R (cuX b cz (1+(cuX b (cuN b c 6) 5))))-(((2^ (cuX b (cuN b cz (1+(cuX b (cuN b c 6) 5))) (1+(cuX b c 6)))):Nat):Int)))) (by exact⟨hRP2,hi5,by omega,hnx.symm.trans hr3L⟩) (by show k-1<k;omega) (wkf id (wS<|wS<|wS<|wS<|wS<|wE (e:=(be (by omega)))<|wO (e:=gv (fun h=>h) (by rfl) rfl)<|wX<|wX<|wP<|by(iterate 11 refine wF ?_);exact wN))
  ·skip
   have hbt:sf R (cuX b cz (1+cuX b (cuN b c 6) 5)) (cuX b (cuN b cz (1+cuX b (cuN b c 6) 5)) (1+cuX b c 6))=false:=c3
   have hnx:=HM (k:=k) (by omega) hbt
   have hRP2:=hRP
   refine sk (rg (zm ?_))
   refine z ?_ (h:=fun Z=>aa Z vt vc (rS (by omega) (by omega)))
   refine za (nl ?_)
   exact aA ((k-1),(cuN b (cuN b cz (1+cuX b (cuN b c 6) 5)) (1+cuX b c 6)),R) (by exact⟨hRP2,hi5,by omega,hnx.symm.trans hr3L⟩) (by show k-1<k;omega) (wkf id (wS<|wS<|wS<|wS<|wS<|wE (e:=(be (by omega)))<|wO (e:=gv (fun h=>h) (by rfl) rfl)<|wX<|wX<|wP<|by(iterate 11 refine wF ?_);exact wN))
 ·skip
  have c2P:=of_decide_eq_false c2
  have hend:=Kq hr3L (by omega)
  have hi4:=cg (n:=3) hi0
  have hi5:=cg (n:=(1+cuX b (cuN b c 6) 5)) hi4
  refine aU (sq (sq ?_))
  rcases Bool.eq_false_or_eq_true (decide ((1+(((cuX b c 6):Nat):Int))<6))with c4 |c4
  ·skip
   have c4P:=of_decide_eq_true c4
   have hw6:1+cuX b c 6<6:=by omega
   refine rg (zm ?_)
   refine z ?_ (h:=fun Z=>aa Z vt vc (bA (c:=true) c4))
   refine zm ?_
   refine zg ?_ (h:=fun Z=>ae rfl rfl (mt Z))
   refine zg ?_ (h:=fun Z=>ae rfl rfl (aK (d:=56) (f:=99) (os:=[(.o 1,some (.o ⟨100,3,true,[(.slv b.length 1 (ysl b):A),aI ((cz.i:Nat):Int),aI cz.h]⟩))]) (os':=[(.o 1,some (.o ⟨100,3,true,[(.slv b.length 1 (ysl b):A),aI (((cuN b cz 3).i:Nat):Int),aI ((cuN b cz 3).h)]⟩))]) (r:=V.v (.bool (decide (cuX b cz 3=0)))) (bs:=[.a (.ptr 1 0),.a (.val (.int .i64 3))]) (keep:=[1]) (new:=[]) (dead:=[]) Z ((iA b cz 3 (by omega) (by omega) (by omega) (by omega) (by omega))) (by kernel_rfl) ⟨ocs (by kernel_rfl),trivial⟩ (by kernel_rfl) (ArgOs.cons (ArgO.slot 55 (.a (.ptr 1 0))) (ArgOs.cons ((ArgO.v vc)) (ArgOs.nil)))))
   refine z ?_ (h:=fun Z=>au Z vt xt)
   refine nl ?_
   refine wi (b:=(decide (cuX b cz 3=0))) (fun c5=> ?_) (fun c5=> ?_)
   ·skip
    have hfin:=r3_c hend hw6 (of_decide_eq_true c5)
    have hyl:cuX b (cuN b cz 3) (1+cuX b (cuN b c 6) 5)<(1+cuX b (cuN b c 6) 5):=du (by omega)
    have hbd:=hRP.bd _ hyl
    have hsw:3<<<(1+cuX b c 6)<256:=by
     rw[Nat.shiftLeft_eq]
     have:(2:Nat)^ (1+cuX b c 6)≤2^ 5:=Nat.pow_le_pow_right (by decide) (by omega)
     omega
    refine sq (rg (zm (zm ?_)))
    refine z ?_ (h:=fun Z=>aK (d:=60) (f:=76) (os:=[(.o 1,some (.o ⟨100,3,true,[(.slv b.length 1 (ysl b):A),aI (((cuN b cz 3).i:Nat):Int),aI ((cuN b cz 3).h)]⟩))]) (os':=[(.o 1,some (.o ⟨100,3,true,[(.slv b.length 1 (ysl b):A),aI (((cuN b (cuN b cz 3) (1+(cuX b (cuN b c 6) 5))).i:Nat):Int),aI ((cuN b (cuN b cz 3) (1+(cuX b (cuN b c 6) 5))).h)]⟩))]) (r:=V.v (.int .i64 (((cuX b (cuN b cz 3) (1+(cuX b (cuN b c 6) 5))):Nat):Int))) (bs:=[.a (.ptr 1 0),.a (.val (.int .i64 (1+(((cuX b (cuN b c 6) 5):Nat):Int))))]) (keep:=[1]) (new:=[]) (dead:=[]) Z ((bl b (cuN b cz 3) (1+(cuX b (cuN b c 6) 5)) (by omega) (by omega) (by omega) (by omega) (by omega))) (by kernel_rfl) ⟨ocs (by kernel_rfl),trivial⟩ (by kernel_rfl) (ArgOs.cons (ArgO.slot 58 (.a (.ptr 1 0))) (ArgOs.cons ((ArgO.v vt)) (ArgOs.nil))))
    refine za (nl (ch ?_))
    refine zd ?_ (h:=fun Z=>aq (off':=0) Z fa rfl)
    refine zd ?_ (h:=fun Z=>ah (x:= .sl 18 0 ((bF (1+(cuX b c 6)) (1+(cuX b (cuN b c 6) 5))).length)) Z gW (by exact rfl))
    refine zdm ?_
    refine zd ?_ (h:=fun Z=>aq (off':=0) Z fa rfl)
    refine zd ?_ (h:=fun Z=>ah (x:= .sl 18 0 ((bF (1+(cuX b c 6)) (1+(cuX b (cuN b c 6) 5))).length)) Z gW (by exact rfl))
    refine zdm ?_
    refine zd ?_ (h:=fun Z=>ix0 Z gX mi vt (hlt:=(by omega)))
    refine zd ?_ (h:=fun Z=>lI Z ee (by omega))
    refine zdm ?_
    refine zd ?_ (h:=fun Z=>aa Z vc vt (fw (c:=(((3<<<(1+(cuX b c 6))):Nat):Int)) (by omega) (shlI (m:=3) (n:=(1+(cuX b c 6))) rfl (by rfl) (by omega) (by omega))))
    refine zd ?_ (h:=fun Z=>aa Z vt vt (pu (c:=(((((gI R (cuX b (cuN b cz 3) (1+(cuX b (cuN b c 6) 5)))).toNat)|||(3<<<(1+(cuX b c 6)))):Nat):Int)) (orI (m:=((gI R (cuX b (cuN b cz 3) (1+(cuX b (cuN b c 6) 5)))).toNat)) (n:=(3<<<(1+(cuX b c 6)))) (Int.toNat_of_nonneg (by omega)).symm rfl (by omega) (by omega))))
    refine zd ?_ (h:=fun Z=>ix0 Z gX mi vt (hlt:=(by omega)))
    refine zd ?_ (h:=fun _=>sI ee xt (by omega))
    refine bG (sq (rg ?_))
    refine z ?_ (h:=fun Z=>ab (xs:=[(.sl 18 0 ((bF (1+(cuX b c 6)) (1+(cuX b (cuN b c 6) 5))).length):A)]) Z dq rfl (by decide) rfl)
    refine z ?_ (h:=fun _=>aE (cells:=[(.sl 18 0 ((bF (1+(cuX b c 6)) (1+(cuX b (cuN b c 6) 5))).length):A)]) dq xt (by exact rfl) (by decide) (by exact ob1 rfl) (by exact Nat.le_of_ble_eq_true rfl) (by exact rfl))
    refine nl (aC ?_)
    exact⟨[kP 2 2 0,kO 1 100 3 true [(.slv b.length 1 (ysl b):A),aI (((cuN b (cuN b cz 3) (1+(cuX b (cuN b c 6) 5))).i:Nat):Int),aI ((cuN b (cuN b cz 3) (1+(cuX b (cuN b c 6) 5))).h)],kO 2 29 1 true [(.sl 900 0 ((bF (1+(cuX b c 6)) (1+(cuX b (cuN b c 6) 5))).length):A)],kO 900 3 1 true (pl (isl (R.set (cuX b (cuN b cz 3) (1+(cuX b (cuN b c 6) 5))) (((((gI R (cuX b (cuN b cz 3) (1+(cuX b (cuN b c 6) 5)))).toNat)|||(3<<<(1+(cuX b c 6)))):Nat):Int)))),kF 5,kF 11,kF 14,kF 18,kF 20,kF 27,kF 30,kF 56,kF 60,kF 74,kF 75,kF 76,kF 77],wkf (aX [(900,18)]) (wS<|wX<|wX<|wP<|by(iterate 13 refine wF ?_);exact wN),⟨bT (c:=[(.slv b.length 1 (ysl b):A),aI (((cuN b (cuN b cz 3) (1+(cuX b (cuN b c 6) 5))).i:Nat):Int),aI ((cuN b (cuN b cz 3) (1+(cuX b (cuN b c 6) 5))).h)]) (by kernel_rfl) (by exact eB (congrArg Prod.snd hfin).symm _ _),bT (c:=pl (isl (R.set (cuX b (cuN b cz 3) (1+(cuX b (cuN b c 6) 5))) (((((gI R (cuX b (cuN b cz 3) (1+(cuX b (cuN b c 6) 5)))).toNat)|||(3<<<(1+(cuX b c 6)))):Nat):Int)))) (by kernel_rfl) (congrArg (fun z=>pl (isl z)) (by exact(congrArg Prod.fst hfin).symm)),trivial⟩,dV (h:=2) ⟨29,1,true,[(.sl 900 0 ((bF (1+(cuX b c 6)) (1+(cuX b (cuN b c 6) 5))).length):A)]⟩ (by kernel_rfl) (by kernel_rfl) dq (Nat.le_of_ble_eq_true rfl) (by(exact congrArg (fun z:Nat=>[A.sl 900 0 z]) (by(rw[hrl,hr3];rfl))))⟩
   ·skip
    have hfin:=r3_b hend hw6 (of_decide_eq_false c5)
    refine sk (sq (rg ?_))
    refine z ?_ (h:=fun Z=>ab (xs:=[(.sl 18 0 ((bF (1+(cuX b c 6)) (1+(cuX b (cuN b c 6) 5))).length):A)]) Z dq rfl (by decide) rfl)
    refine z ?_ (h:=fun _=>aE (cells:=[(.sl 18 0 ((bF (1+(cuX b c 6)) (1+(cuX b (cuN b c 6) 5))).length):A)]) dq xt (by exact rfl) (by decide) (by exact ob1 rfl) (by exact Nat.le_of_ble_eq_true rfl) (by exact rfl))
    refine nl (aC ?_)
    exact⟨[kP 2 2 0,kO 1 100 3 true [(.slv b.length 1 (ysl b):A),aI (((cuN b cz 3).i:Nat):Int),aI ((cuN b cz 3).h)],kO 2 29 1 true [(.sl 900 0 ((bF (1+(cuX b c 6)) (1+(cuX b (cuN b c 6) 5))).length):A)],kO 900 3 1 true (pl (isl R)),kF 5,kF 11,kF 14,kF 18,kF 20,kF 27,kF 30,kF 56,kF 60,kF 74,kF 75,kF 76,kF 77],wkf (aX [(900,18)]) (wS<|wX<|wX<|wP<|by(iterate 13 refine wF ?_);exact wN),⟨bT (c:=[(.slv b.length 1 (ysl b):A),aI (((cuN b cz 3).i:Nat):Int),aI ((cuN b cz 3).h)]) (by kernel_rfl) (by exact eB (congrArg Prod.snd hfin).symm _ _),bT (c:=pl (isl R)) (by kernel_rfl) (congrArg (fun z=>pl (isl z)) (by exact(congrArg Prod.fst hfin).symm)),trivial⟩,dV (h:=2) ⟨29,1,true,[(.sl 900 0 ((bF (1+(cuX b c 6)) (1+(cuX b (cuN b c 6) 5))).length):A)]⟩ (by kernel_rfl) (by kernel_rfl) dq (Nat.le_of_ble_eq_true rfl) (by(exact congrArg (fun z:Nat=>[A.sl 900 0 z]) (by(rw[hrl,hr3];rfl))))⟩
  ·skip
   have c4P:=of_decide_eq_false c4
   have hfin:=r3_a hend (by omega)
   refine rg (zm ?_)
   refine z ?_ (h:=fun Z=>aa Z vt vc (bA (c:=false) c4))
   refine zm (zo (zo ?_))
   refine z ?_ (h:=fun Z=>ar Z vt xc)
   refine nl (wf (sk (sq (rg ?_))))
   refine z ?_ (h:=fun Z=>ab (xs:=[(.sl 18 0 ((bF (1+(cuX b c 6)) (1+(cuX b (cuN b c 6) 5))).length):A)]) Z dq rfl (by decide) rfl)
   refine z ?_ (h:=fun _=>aE (cells:=[(.sl 18 0 ((bF (1+(cuX b c 6)) (1+(cuX b (cuN b c 6) 5))).length):A)]) dq xt (by exact rfl) (by decide) (by exact ob1 rfl) (by exact Nat.le_of_ble_eq_true rfl) (by exact rfl))
   refine nl (aC ?_)
   exact⟨[kP 2 2 0,kO 1 100 3 true [(.slv b.length 1 (ysl b):A),aI ((cz.i:Nat):Int),aI cz.h],kO 2 29 1 true [(.sl 900 0 ((bF (1+(cuX b c 6)) (1+(cuX b (cuN b c 6) 5))).length):A)],kO 900 3 1 true (pl (isl R)),kF 5,kF 11,kF 14,kF 18,kF 20,kF 27,kF 30,kF 56,kF 60,kF 74,kF 75,kF 76,kF 77],wkf (aX [(900,18)]) (wS<|wX<|wX<|wP<|by(iterate 13 refine wF ?_);exact wN),⟨bT (c:=[(.slv b.length 1 (ysl b):A),aI ((cz.i:Nat):Int),aI cz.h]) (by kernel_rfl) (by exact eB (congrArg Prod.snd hfin).symm _ _),bT (c:=pl (isl R)) (by kernel_rfl) (congrArg (fun z=>pl (isl z)) (by exact(congrArg Prod.fst hfin).symm)),trivial⟩,dV (h:=2) ⟨29,1,true,[(.sl 900 0 ((bF (1+(cuX b c 6)) (1+(cuX b (cuN b c 6) 5))).length):A)]⟩ (by kernel_rfl) (by kernel_rfl) dq (Nat.le_of_ble_eq_true rfl) (by(exact congrArg (fun z:Nat=>[A.sl 900 0 z]) (by(rw[hrl,hr3];rfl))))⟩
structure LT (R:List Int):Prop where
 ok:bj R=true
 len:(ltR R).length=cntR R
 pos:1≤cntR R∧cntR R≤300
 fst:ftR R=gLd (ltR R) 0
 til:∀ k,k<(ltR R).length→qT R (gLd (ltR R) k)=true
 ts:∀ k,k<(ltR R).length→TilS (ao R) (gLd (ltR R) k)
 lex:∀ k,0<k→k<(ltR R).length→LexN (gLd (ltR R) (k-1)) (gLd (ltR R) k)
 row:∀ k,k<(ltR R).length→(gLd (ltR R) k).length≤33
 eql:∀ k,0<k→k<(ltR R).length→(gLd (ltR R) (k-1)).length=(gLd (ltR R) k).length
 ix:∀ k,k<(ltR R).length→ixT (ltR R) (gLd (ltR R) k)=(k:Int)
theorem LT.of {R:List Int} (ho:bj R=true) (h1:1≤cnt (ao R)) (h2:cnt (ao R)≤300):LT R:=by
 have hs:=dr ho
 have hp:jC (ao R)<2*33:=by have:=mT (ao R);omega
 have hc:=lP ho
 have hlt:ltR R=tls 33 (ao R):=(mO (bP.2 (by omega))).1
 have hlen:=wM 33 _ hs hp
 have hmem:∀ k,k<(ltR R).length→TilS (ao R) (gLd (ltR R) k):=fun k hk=>by
  refine(Ax (l:=R) ?_).2
  rw[cI hk];exact List.getElem_mem hk
 refine⟨ho,by rw[hlt,hlen,hc],by omega,?_,fun k hk=>ns ho (hmem k hk),hmem,fun k h0 hk=>Hm (by omega) hk,fun k hk=>lf hk,fun k h0 hk=> ?_,fun k hk=>Er (uO R) hk⟩
 ·unfold ftR
  rw[if_neg (by omega),hlt,CP 33 _ hs hp (by omega)]
 ·have q1:=Bf hs (hmem (k-1) (by omega))
  have q2:=Bf hs (hmem k hk)
  omega
theorem CA:Tryz.prog.underlying 43=some (.slice 5):=Tryz.underlying43
theorem xM (b:List Nat):Fn Tryz.prog 21 [.a (.slv b.length 1 (ysl b))] [.val (.bool (decide (1048576<((b.length:Nat):Int))))]:=by
 refine bm (N:=6) Tryz.func21 rfl (by kernel_rfl) rfl (Nat.le_of_ble_eq_true rfl) [4] (dN rfl) (fun W=> ?_)
 show Wp _ _ _ [kV 0 (V.b (.a (.slv b.length 1 (ysl b)))),kF 4]
 refine sq (rg (zk (nl (sq (rg (zm ?_))))))
 refine z ?_ (h:=fun Z=>lnV Z CA)
 refine z ?_ (h:=fun Z=>aa Z vt vc (vz rfl))
 refine za (nl (aC ?_))
 exact VRes.tmp _ _ _ (by exact rfl) (ce (congrArg Value.bool (by rfl)))
def ra1 (b:List Nat):Nat→Cu→List Int→List Int × Cu
 | 0,c,R=>(R,c)
 | f+1,c,R=>if R.length<8+cuX b c 2 then ra1 b f (cuN b (cuN b c 2) 4) (R++[((cuX b (cuN b c 2) 4:Nat):Int)])else(R,cuN b c 2)
theorem HQ {b:List Nat} {f:Nat} {c:Cu} {R:List Int} (hf:0<f) (h:R.length<8+cuX b c 2):ra1 b f c R=ra1 b (f-1) (cuN b (cuN b c 2) 4) (R++[((cuX b (cuN b c 2) 4:Nat):Int)]):=by
 obtain⟨g,rfl⟩:∃ g,f=g+1:=⟨f-1,by omega⟩
 rw[ra1,if_pos h];rfl
theorem Ks {b:List Nat} {f:Nat} {c:Cu} {R:List Int} (hf:0<f) (h:¬R.length<8+cuX b c 2):ra1 b f c R=(R,cuN b c 2):=by
 obtain⟨g,rfl⟩:∃ g,f=g+1:=⟨f-1,by omega⟩
 rw[ra1,if_neg h]
theorem HN {b:List Nat}:∀ (f:Nat) (c:Cu) (R:List Int),R.length≤9→(ra1 b f c R).1.length≤9:=by
  intro f
  induction f with
  | zero=>intro c R h;exact h
  | succ f ih=>
    intro c R h
    rw[ra1]
    split
    · rename_i hc
      have:cuX b c 2<2:=du (by decide)
      exact ih _ _ (by rw[List.length_append,List.length_singleton];omega)
    · exact h
def r3A (b:List Nat) (c:Cu):List Int × Cu:=
 if cuX b (r3 b c).2 10=0 then((r3 b c).1.set 0 (gI [-1,255,256] (cuX b (cuN b (r3 b c).2 10) 3)),cuN b (cuN b (r3 b c).2 10) 3)
 else if cuX b (r3 b c).2 10=1 then ra1 b (10-(r3 b c).1.length) (cuN b (r3 b c).2 10) (r3 b c).1
 else if cuX b (r3 b c).2 10=2 then([],cuN b (r3 b c).2 10)
 else((r3 b c).1,cuN b (r3 b c).2 10)
theorem r3A_0 {b:List Nat} {c:Cu} (h:cuX b (r3 b c).2 10=0):r3A b c=((r3 b c).1.set 0 (gI [-1,255,256] (cuX b (cuN b (r3 b c).2 10) 3)),cuN b (cuN b (r3 b c).2 10) 3):=by unfold r3A;rw[if_pos h]
theorem r3A_1 {b:List Nat} {c:Cu} (h:cuX b (r3 b c).2 10=1):r3A b c=ra1 b (10-(r3 b c).1.length) (cuN b (r3 b c).2 10) (r3 b c).1:=by unfold r3A;rw[if_neg (by omega),if_pos h]
theorem r3A_2 {b:List Nat} {c:Cu} (h:cuX b (r3 b c).2 10=2):r3A b c=([],cuN b (r3 b c).2 10):=by unfold r3A;rw[if_neg (by omega),if_neg (by omega),if_pos h]
theorem r3A_3 {b:List Nat} {c:Cu} (h0:cuX b (r3 b c).2 10≠0) (h1:cuX b (r3 b c).2 10≠1) (h2:cuX b (r3 b c).2 10≠2):r3A b c=((r3 b c).1,cuN b (r3 b c).2 10):=by unfold r3A;rw[if_neg h0,if_neg h1,if_neg h2]
theorem HL (b:List Nat) (c:Cu):(r3A b c).1.length≤9:=by
 have h:=zE b c
 unfold r3A
 split
 ·rw[List.length_set];omega
 ·split
  ·exact HN _ _ _ (by omega)
  ·split
   ·simp
   ·exact Nat.le_trans h (by decide)
theorem trI {Γ:Cx} {σ:St} {h T:Nat} {ex:Bool} {L L':List Int} (n:Nat) (ho:get σ (.o h)=some (.o ⟨T,1,ex,pl (isl L)⟩):=by kernel_rfl) (hc:L.take n=L'):eO Γ σ ((.o h,some (.o ⟨T,1,ex,pl (isl L')⟩))::σ):=
 vJ n ho (by rw[←hc];unfold pl isl;rw[List.map_take,List.map_take])
theorem Kr (b:List Nat) (c:Cu):1≤(r3 b c).1.length:=by rw[(Fj b c).ln];unfold r3H;omega
theorem fX:bK Tryz.prog 29 0=some 0:=by kernel_rfl
theorem tm:(Tryz.prog.info? 3).map (·.size)=some 1:=by kernel_rfl
theorem je:TI Tryz.prog 22 false 1:=⟨⟨_,Tryz.underlying22,rfl⟩,by kernel_rfl⟩
theorem dI:TI Tryz.prog 29 true 1:=⟨⟨_,Tryz.underlying29,rfl⟩,by kernel_rfl⟩
theorem yl:TI Tryz.prog 3 false 1:=⟨⟨_,Tryz.underlying3,rfl⟩,by kernel_rfl⟩
theorem fY:Tryz.prog.underlying 22=some (.slice 3):=Tryz.underlying22
theorem vm:ZI Tryz.prog 29 (.agg #[.slice none 0 0]) 1 24:=by unfold ZI;kernel_rfl
theorem tn:ZI Tryz.prog 3 (.int .i64 0) 1 8:=by unfold ZI;kernel_rfl
theorem oo (b:List Nat) (c:Cu) (L:List Int) (hb:b.length≤1048576) (hy:∀ x∈b,x<256) (hi:c.i≤b.length) (hn:0<L.length) (hn2:L.length≤4294967296):FnO Tryz.prog 126 [.a (.ptr 1 0),.a (.sl 801 0 L.length)] [(.o 1,some (.o ⟨100,3,true,[(.slv b.length 1 (ysl b):A),aI ((c.i:Nat):Int),aI c.h]⟩)),(.o 801,some (.o ⟨3,1,true,pl (isl L)⟩))] (V.v (.int .i64 (gI L (cuX b c L.length)))) [(.o 1,some (.o ⟨100,3,true,[(.slv b.length 1 (ysl b):A),aI (((cuN b c L.length).i:Nat):Int),aI ((cuN b c L.length).h)]⟩)),(.o 801,some (.o ⟨3,1,true,pl (isl L)⟩))] [1,801]:=by
 have hxl:cuX b c L.length<L.length:=du hn
 refine bW (N:=12) Tryz.func126 rfl (by kernel_rfl) rfl (Nat.le_of_ble_eq_true rfl) rfl rfl (by kernel_rfl) (by kernel_rfl) ⟨ocs (by kernel_rfl),bh (fun _=>rfl),trivial⟩ [8,9] (ip rfl) (fun W own kp im0=> ?_)
 show Wp _ _ _ [kP 0 1 0,kS 1 801 0 L.length,kO 1 100 3 true [(.slv b.length 1 (ysl b):A),aI ((c.i:Nat):Int),aI c.h],kO 801 3 1 true (pl (isl L)),kF 8,kF 9]
 refine sq (rg (zk (nl (sq (rg (zm (zm (zm ?_))))))))
 refine z ?_ (h:=fun Z=>lnS Z fY)
 refine z ?_ (h:=fun Z=>aK (d:=9) (f:=76) (os:=[(.o 1,some (.o ⟨100,3,true,[(.slv b.length 1 (ysl b):A),aI ((c.i:Nat):Int),aI c.h]⟩))]) (os':=[(.o 1,some (.o ⟨100,3,true,[(.slv b.length 1 (ysl b):A),aI (((cuN b c L.length).i:Nat):Int),aI ((cuN b c L.length).h)]⟩))]) (r:=V.v (.int .i64 (((cuX b c L.length):Nat):Int))) (bs:=[.a (.ptr 1 0),.a (.val (.int .i64 ((L.length:Nat):Int)))]) (keep:=[1]) (new:=[]) (dead:=[]) Z ((bl b c L.length (by omega) (by omega) (by omega) (by omega) (by omega))) (by kernel_rfl) ⟨ocs (by kernel_rfl),trivial⟩ (by kernel_rfl) (ArgOs.cons (ArgO.slot 6 (.a (.ptr 1 0))) (ArgOs.cons ((ArgO.v vt)) (ArgOs.nil))))
 refine z ?_ (h:=fun Z=>ix0 Z fY tm vt (hlt:=(by omega)))
 refine z ?_ (h:=fun Z=>lI Z yl (by omega))
 refine za (nl (aC ?_))
 exact⟨_,dt,⟨by kernel_rfl,by kernel_rfl,trivial⟩,VO.tmp 4 (.a (.val (.int .i64 (gI L (cuX b c L.length))))) (by kernel_rfl)⟩
theorem xH (b:List Nat) (c:Cu) (R0:List Int) (c0:Cu) (hb:b.length≤1048576) (hy:∀ x∈b,x<256) (hi:c.i≤b.length) (h3:(r3 b c).1=R0) (h4:(r3 b c).2=c0):FnO Tryz.prog 98 [.a (.ptr 1 0)] [(.o 1,some (.o ⟨100,3,true,[(.slv b.length 1 (ysl b):A),aI ((c.i:Nat):Int),aI c.h]⟩))] (V.b (.agg [(.sl 900 0 R0.length:A)])) [(.o 1,some (.o ⟨100,3,true,[(.slv b.length 1 (ysl b):A),aI ((c0.i:Nat):Int),aI c0.h]⟩)),(.o 900,some (.o ⟨3,1,true,pl (isl R0)⟩))] [1]:=by
 subst h3 h4
 exact jQ b c hb hy hi
theorem Et (b:List Nat) (c:Cu) (R0:List Int) (c0:Cu) (hb:b.length≤1048576) (hy:∀ x∈b,x<256) (hi:c.i≤b.length) (h3:(r3 b c).1=R0) (h4:(r3 b c).2=c0):FnO Tryz.prog 119 [.a (.ptr 1 0)] [(.o 1,some (.o ⟨100,3,true,[(.slv b.length 1 (ysl b):A),aI ((c.i:Nat):Int),aI c.h]⟩))] (V.b (.agg [(.sl 900 0 ((r3A b c).1.length):A)])) [(.o 1,some (.o ⟨100,3,true,[(.slv b.length 1 (ysl b):A),aI ((((r3A b c).2).i:Nat):Int),aI (((r3A b c).2).h)]⟩)),(.o 900,some (.o ⟨3,1,true,pl (isl ((r3A b c).1))⟩))] [1]:=by
 have hl8:=zE b c
 have hl1:=Kr b c
 have hri:=r3_i (b:=b) hi
 rw[h3]at hl8 hl1
 rw[h4]at hri
 have hi2:=cg (n:=10) hri
 have hi3:=cg (n:=3) hi2
 refine bW (N:=39) Tryz.func119 rfl (by kernel_rfl) rfl (Nat.le_of_ble_eq_true rfl) rfl rfl (by kernel_rfl) (by kernel_rfl) ⟨ocs (by kernel_rfl),trivial⟩ [2,3,5,7,13,14,20,22,28,29,30,39,40,41,42] (ip rfl) (fun W own kp im0=> ?_)
 show Wp _ _ _ [kP 0 1 0,kO 1 100 3 true [(.slv b.length 1 (ysl b):A),aI ((c.i:Nat):Int),aI c.h],kF 2,kF 3,kF 5,kF 7,kF 13,kF 14,kF 20,kF 22,kF 28,kF 29,kF 30,kF 39,kF 40,kF 41,kF 42]
 refine sq (rg ?_)
 refine z ?_ (h:=fun Z=>aL (h:=2) (cap:=1) (s:=1) (cells:=[(.val (.slice none 0 0):A)]) Z vm rfl rfl (by decide))
 refine nl (sq (rg (zm ?_)))
 refine z ?_ (h:=fun Z=>aK (d:=5) (f:=98) (os:=[(.o 1,some (.o ⟨100,3,true,[(.slv b.length 1 (ysl b):A),aI ((c.i:Nat):Int),aI c.h]⟩))]) (os':=[(.o 1,some (.o ⟨100,3,true,[(.slv b.length 1 (ysl b):A),aI ((c0.i:Nat):Int),aI c0.h]⟩)),(.o 3,some (.o ⟨3,1,true,pl (isl R0)⟩))]) (r:=V.b (.agg [(.sl 3 0 R0.length:A)])) (bs:=[.a (.ptr 1 0)]) (keep:=[1]) (new:=[3]) (dead:=[]) Z (FnO.ren' (xH b c R0 c0 (by omega) (by omega) (by omega) (by exact h3) (by exact h4)) (aX [(900,3)]) rfl rfl (by kernel_rfl) (by kernel_rfl) ⟨ocs (by kernel_rfl),bh (fun _=>rfl),trivial⟩ (by kernel_rfl) rfl (by simp only[bv,Ob.ren,aY,ak,am,aj,aO,aN];first |done |rfl) (by simp only[bv,Ob.ren,aY,ak,am,aj,aO,aN];first |done |rfl) rfl rfl) (by kernel_rfl) ⟨ocs (by kernel_rfl),bh (fun _=>rfl),trivial⟩ (by kernel_rfl) (ArgOs.cons (ArgO.slot 4 (.a (.ptr 1 0))) (ArgOs.nil)))
 refine z ?_ (h:=fun Z=>aL (h:=5) (cap:=1) (s:=1) (cells:=[(.val (.slice none 0 0):A)]) Z vm rfl rfl (by decide))
 refine z ?_ (h:=fun _=>aE (cells:=[(.sl 3 0 R0.length:A)]) dI xt (by exact rfl) (by decide) (by exact ob1 rfl) (by exact Nat.le_of_ble_eq_true rfl) (by exact rfl))
 refine nl (sq (sq (rg (zm ?_))))
 refine z ?_ (h:=fun Z=>aK (d:=7) (f:=76) (os:=[(.o 1,some (.o ⟨100,3,true,[(.slv b.length 1 (ysl b):A),aI ((c0.i:Nat):Int),aI c0.h]⟩))]) (os':=[(.o 1,some (.o ⟨100,3,true,[(.slv b.length 1 (ysl b):A),aI (((cuN b c0 10).i:Nat):Int),aI ((cuN b c0 10).h)]⟩))]) (r:=V.v (.int .i64 (((cuX b c0 10):Nat):Int))) (bs:=[.a (.ptr 1 0),.a (.val (.int .i64 10))]) (keep:=[1]) (new:=[]) (dead:=[]) Z ((bl b c0 10 (by omega) (by omega) (by omega) (by omega) (by omega))) (by kernel_rfl) ⟨ocs (by kernel_rfl),trivial⟩ (by kernel_rfl) (ArgOs.cons (ArgO.slot 6 (.a (.ptr 1 0))) (ArgOs.cons ((ArgO.v vc)) (ArgOs.nil))))
 refine nl (bkk (sq (rg ?_)))
 refine z ?_ (h:=fun Z=>aa Z vt vc (ct rfl))
 refine za (nl ?_)
 refine wi (fun c1=> ?_) (fun c1=> ?_)
 ·skip
  have c1P:=of_decide_eq_true c1
  have hfin:=r3A_0 (b:=b) (c:=c) (by rw[h4];omega)
  rw[h3,h4]at hfin
  refine ch ?_
  refine zd ?_ (h:=fun Z=>aq (off':=0) Z fX rfl)
  refine zd ?_ (h:=fun Z=>ah (x:= .sl 3 0 R0.length) Z je (by exact rfl))
  refine zdm ?_
  refine zd ?_ (h:=fun Z=>aP (h:=13) (xs:=isl ([(-1),255,256]:List Int)) Z fY tn (.cons vc (.cons vc (.cons vc OpVs.nil))) (by decide) (by decide) (by kernel_rfl) rfl)
  refine zd ?_ (h:=fun Z=>aK (d:=14) (f:=126) (os:=[(.o 1,some (.o ⟨100,3,true,[(.slv b.length 1 (ysl b):A),aI (((cuN b c0 10).i:Nat):Int),aI ((cuN b c0 10).h)]⟩)),(.o 13,some (.o ⟨3,1,true,pl (isl [(-1),255,256])⟩))]) (os':=[(.o 1,some (.o ⟨100,3,true,[(.slv b.length 1 (ysl b):A),aI (((cuN b (cuN b c0 10) [(-1),255,256].length).i:Nat):Int),aI ((cuN b (cuN b c0 10) [(-1),255,256].length).h)]⟩)),(.o 13,some (.o ⟨3,1,true,pl (isl [(-1),255,256])⟩))]) (r:=V.v (.int .i64 (gI [(-1),255,256] (cuX b (cuN b c0 10) [(-1),255,256].length)))) (bs:=[.a (.ptr 1 0),.a (.sl 13 0 3)]) (keep:=[1,13]) (new:=[]) (dead:=[]) Z (FnO.ren' (oo b (cuN b c0 10) [(-1),255,256] (by omega) (by omega) (by omega) (by(simp;done)) (by(simp;done))) (aX [(801,13)]) rfl rfl (by kernel_rfl) (by kernel_rfl) ⟨ocs (by kernel_rfl),bh (fun _=>rfl),trivial⟩ (by kernel_rfl) rfl (by simp only[bv,Ob.ren,aY,ak,am,aj,aO,aN];first |done |rfl) (by simp only[bv,Ob.ren,aY,ak,am,aj,aO,aN];first |done |rfl) rfl rfl) (by kernel_rfl) ⟨ocs (by kernel_rfl),bh (fun _=>rfl),trivial⟩ (by kernel_rfl) (ArgOs.cons (ArgO.slot 12 (.a (.ptr 1 0))) (ArgOs.cons (ArgO.slot 13 (.a (.sl 13 0 3))) (ArgOs.nil))))
  refine zd ?_ (h:=fun Z=>ix0 (k:=0) Z fY tm vc (hlt:=(by omega)))
  refine zd ?_ (h:=fun _=>sI yl xt (by omega))
  refine bG (sq (rg ?_))
  refine z ?_ (h:=fun Z=>ab (xs:=[(.sl 3 0 R0.length:A)]) Z dI rfl (by decide) rfl)
  refine z ?_ (h:=fun _=>aE (cells:=[(.sl 3 0 R0.length:A)]) dI xt (by exact rfl) (by decide) (by exact ob1 rfl) (by exact Nat.le_of_ble_eq_true rfl) (by exact rfl))
  refine nl (aC ?_)
  exact⟨[kP 2 2 0,kO 1 100 3 true [(.slv b.length 1 (ysl b):A),aI (((cuN b (cuN b c0 10) [(-1),255,256].length).i:Nat):Int),aI ((cuN b (cuN b c0 10) [(-1),255,256].length).h)],kO 2 29 1 true [(.sl 900 0 R0.length:A)],kO 900 3 1 true (pl (isl (R0.set 0 (gI [(-1),255,256] (cuX b (cuN b c0 10) [(-1),255,256].length))))),kF 3,kF 5,kF 7,kF 13,kF 14,kF 20,kF 22,kF 28,kF 29,kF 30,kF 39,kF 40,kF 41,kF 42],wkf (aX [(900,3)]) (wS<|wX<|wX<|wP<|by(iterate 14 refine wF ?_);exact wN),⟨bT (c:=[(.slv b.length 1 (ysl b):A),aI (((cuN b (cuN b c0 10) [(-1),255,256].length).i:Nat):Int),aI ((cuN b (cuN b c0 10) [(-1),255,256].length).h)]) (by kernel_rfl) (by exact eB (congrArg Prod.snd hfin).symm _ _),bT (c:=pl (isl (R0.set 0 (gI [(-1),255,256] (cuX b (cuN b c0 10) [(-1),255,256].length))))) (by kernel_rfl) (congrArg (fun z=>pl (isl z)) (by exact(congrArg Prod.fst hfin).symm)),trivial⟩,dV (h:=2) ⟨29,1,true,[(.sl 900 0 R0.length:A)]⟩ (by kernel_rfl) (by kernel_rfl) dI (Nat.le_of_ble_eq_true rfl) (by(exact congrArg (fun z:Nat=>[A.sl 900 0 z]) (by first |exact congrArg (fun z=>z.1.length) hfin.symm |exact congrArg (fun z=>z.1.length) hfin |(rw[hfin];simp;done))))⟩
 ·skip
  have c1P:=of_decide_eq_false c1
  refine sq (rg ?_)
  refine z ?_ (h:=fun Z=>aa Z vt vc (ct rfl))
  refine za (nl ?_)
  refine wi (fun c2=> ?_) (fun c2=> ?_)
  ·skip
   have c2P:=of_decide_eq_true c2
   have hq1:=r3A_1 (b:=b) (c:=c) (by rw[h4];omega)
   rw[h3,h4]at hq1
   refine bkk ?_
   refine bg (fun((cz,R):Cu × (List Int))=>cz.i≤b.length∧R.length≤9∧ra1 b (10-R.length) cz R=r3A b c) (fun((cz,R):Cu × (List Int))=>[kP 0 1 0,kP 2 2 0,kP 3 5 0,kO 1 100 3 true [(.slv b.length 1 (ysl b):A),aI ((cz.i:Nat):Int),aI cz.h],kO 2 29 1 true [(.val (.slice none 0 0):A)],kO 3 3 1 true (pl (isl R)),kO 5 29 1 true [(.sl 3 0 R.length:A)],kF 7,kF 13,kF 14,kF 20,kF 22,kF 28,kF 29,kF 30,kF 39,kF 40,kF 41,kF 42]) (fun((cz,R):Cu × (List Int))=>10-R.length) (((cuN b c0 10):Cu),(R0:List Int)) (by exact⟨hi2,by omega,hq1.symm⟩) (wkf id (wS<|wS<|wS<|wX<|wX<|wP<|wX<|by(iterate 12 refine wF ?_);exact wN)) ?_
   rintro⟨cz,R⟩ inv3
   replace inv3:cz.i≤b.length∧R.length≤9∧ra1 b (10-R.length) cz R=r3A b c:=inv3
   obtain⟨hi0,hR9,hra⟩:=inv3
   have hi4a:=cg (n:=2) hi0
   have hx2a:cuX b cz 2<2:=du (by decide)
   have hx4a:cuX b (cuN b cz 2) 4<4:=du (by decide)
   refine sq (sq (ch ?_))
   refine zd ?_ (h:=fun Z=>aq (off':=0) Z fX rfl)
   refine zd ?_ (h:=fun Z=>ah (x:= .sl 3 0 R.length) Z je (by exact rfl))
   refine zd ?_ (h:=fun Z=>lnS Z fY)
   refine zdm ?_
   refine zd ?_ (h:=fun Z=>aK (d:=22) (f:=76) (os:=[(.o 1,some (.o ⟨100,3,true,[(.slv b.length 1 (ysl b):A),aI ((cz.i:Nat):Int),aI cz.h]⟩))]) (os':=[(.o 1,some (.o ⟨100,3,true,[(.slv b.length 1 (ysl b):A),aI (((cuN b cz 2).i:Nat):Int),aI ((cuN b cz 2).h)]⟩))]) (r:=V.v (.int .i64 (((cuX b cz 2):Nat):Int))) (bs:=[.a (.ptr 1 0),.a (.val (.int .i64 2))]) (keep:=[1]) (new:=[]) (dead:=[]) Z ((bl b cz 2 (by omega) (by omega) (by omega) (by omega) (by omega))) (by kernel_rfl) ⟨ocs (by kernel_rfl),trivial⟩ (by kernel_rfl) (ArgOs.cons (ArgO.slot 21 (.a (.ptr 1 0))) (ArgOs.cons ((ArgO.v vc)) (ArgOs.nil))))
   refine zd ?_ (h:=fun Z=>aa Z vc vt (rA (by omega) (by omega)))
   refine zd ?_ (h:=fun Z=>aa Z vt vt (bA rfl))
   refine bG ?_
   refine wi (fun c4=> ?_) (fun c4=> ?_)
   ·skip
    have c4P:=of_decide_eq_true c4
    have hx2:cuX b cz 2<2:=du (by decide)
    have hnx:=HQ (b:=b) (f:=10-R.length) (c:=cz) (R:=R) (by omega) (by omega)
    have hi4:=cg (n:=2) hi0
    have hi5:=cg (n:=4) hi4
    refine sk (bkk (ch ?_))
    refine zd ?_ (h:=fun Z=>aq (off':=0) Z fX rfl)
    refine zd ?_ (h:=fun Z=>ah (x:= .sl 3 0 R.length) Z je (by exact rfl))
    refine zdm ?_
    refine zd ?_ (h:=fun Z=>aK (d:=28) (f:=76) (os:=[(.o 1,some (.o ⟨100,3,true,[(.slv b.length 1 (ysl b):A),aI (((cuN b cz 2).i:Nat):Int),aI ((cuN b cz 2).h)]⟩))]) (os':=[(.o 1,some (.o ⟨100,3,true,[(.slv b.length 1 (ysl b):A),aI (((cuN b (cuN b cz 2) 4).i:Nat):Int),aI ((cuN b (cuN b cz 2) 4).h)]⟩))]) (r:=V.v (.int .i64 (((cuX b (cuN b cz 2) 4):Nat):Int))) (bs:=[.a (.ptr 1 0),.a (.val (.int .i64 4))]) (keep:=[1]) (new:=[]) (dead:=[]) Z ((bl b (cuN b cz 2) 4 (by omega) (by omega) (by omega) (by omega) (by omega))) (by kernel_rfl) ⟨ocs (by kernel_rfl),trivial⟩ (by kernel_rfl) (ArgOs.cons (ArgO.slot 27 (.a (.ptr 1 0))) (ArgOs.cons ((ArgO.v vc)) (ArgOs.nil))))
    refine zd ?_ (h:=fun Z=>aP (h:=29) (xs:=isl ([(((cuX b (cuN b cz 2) 4):Nat):Int)]:List Int)) Z fY tn (.cons vt OpVs.nil) (by decide) (by decide) (by kernel_rfl) rfl)
    refine zd ?_ (h:=fun Z=>aI_ (h2:=30) (L3:=(R++[(((cuX b (cuN b cz 2) 4):Nat):Int)])) Z fY tn (by exact rfl) rfl (by exact rfl) (by(simp;omega)))
    refine zd ?_ (h:=fun Z=>aq (off':=0) Z fX rfl)
    refine zd ?_ (h:=fun _=>aE (cells:=[(.sl 30 0 ((R++[(((cuX b (cuN b cz 2) 4):Nat):Int)]).length):A)]) je xt (by exact rfl) (by decide) (by exact ob1 rfl) (by exact Nat.le_of_ble_eq_true rfl) (by exact rfl))
    refine bG ?_
    exact Exists.intro ((cuN b (cuN b cz 2) 4),(R++[((cuX b (cuN b cz 2) 4:Nat):Int)])) (And.intro (by refine⟨hi5,by(simp only[List.length_append,List.length_singleton];omega),?_⟩;rw[List.length_append,List.length_singleton,show 10-(R.length+1)=10-R.length-1 by omega];exact hnx.symm.trans hra) (And.intro (by show 10-(R++[((cuX b (cuN b cz 2) 4:Nat):Int)]).length<10-R.length;rw[List.length_append,List.length_singleton];omega) (wkf (aX [(3,30)]) (wS<|wS<|wS<|wX<|wX<|wO (e:=aJ (fun h=>h) (congrArg isl (by rfl)))<|wO (e:=gv (fun h=>h) (congrArg (fun z:Nat=>[A.sl 30 0 z]) (by rfl)) rfl)<|by(iterate 12 refine wF ?_);exact wN))))
   ·skip
    have c4P:=of_decide_eq_false c4
    have hfin:=hra.symm.trans (Ks (b:=b) (f:=10-R.length) (c:=cz) (R:=R) (by omega) (by omega))
    refine aU (sq (rg ?_))
    refine z ?_ (h:=fun Z=>ab (xs:=[(.sl 3 0 R.length:A)]) Z dI rfl (by decide) rfl)
    refine z ?_ (h:=fun _=>aE (cells:=[(.sl 3 0 R.length:A)]) dI xt (by exact rfl) (by decide) (by exact ob1 rfl) (by exact Nat.le_of_ble_eq_true rfl) (by exact rfl))
    refine nl (aC ?_)
    exact⟨[kP 2 2 0,kO 1 100 3 true [(.slv b.length 1 (ysl b):A),aI (((cuN b cz 2).i:Nat):Int),aI ((cuN b cz 2).h)],kO 2 29 1 true [(.sl 900 0 R.length:A)],kO 900 3 1 true (pl (isl R)),kF 3,kF 5,kF 7,kF 13,kF 14,kF 20,kF 22,kF 28,kF 29,kF 30,kF 39,kF 40,kF 41,kF 42],wkf (aX [(900,3)]) (wS<|wX<|wX<|wP<|by(iterate 14 refine wF ?_);exact wN),⟨bT (c:=[(.slv b.length 1 (ysl b):A),aI (((cuN b cz 2).i:Nat):Int),aI ((cuN b cz 2).h)]) (by kernel_rfl) (by exact eB (congrArg Prod.snd hfin).symm _ _),bT (c:=pl (isl R)) (by kernel_rfl) (congrArg (fun z=>pl (isl z)) (by exact(congrArg Prod.fst hfin).symm)),trivial⟩,dV (h:=2) ⟨29,1,true,[(.sl 900 0 R.length:A)]⟩ (by kernel_rfl) (by kernel_rfl) dI (Nat.le_of_ble_eq_true rfl) (by(exact congrArg (fun z:Nat=>[A.sl 900 0 z]) (by first |exact congrArg (fun z=>z.1.length) hfin.symm |exact congrArg (fun z=>z.1.length) hfin |(rw[hfin];simp;done))))⟩
  ·skip
   have c2P:=of_decide_eq_false c2
   refine sq (rg ?_)
   refine z ?_ (h:=fun Z=>aa Z vt vc (ct rfl))
   refine za (nl ?_)
   refine wi (fun c5=> ?_) (fun c5=> ?_)
   ·skip
    have c5P:=of_decide_eq_true c5
    have hfin:=r3A_2 (b:=b) (c:=c) (by rw[h4];omega)
    rw[h4]at hfin
    refine rg ?_
    refine z ?_ (h:=fun Z=>aq (off':=0) Z fX rfl)
    refine z ?_ (h:=fun Z=>ah (x:= .sl 3 0 R0.length) Z je (by exact rfl))
    refine z ?_ (h:=fun Z=>slS (m:=0) (off':=0) Z fY tm (OpB.no _) (OpB.so _ 0 vc rfl) (by omega) (by omega) (by exact rfl) (by omega))
    refine z ?_ (h:=fun Z=>aq (off':=0) Z fX rfl)
    refine z ?_ (h:=fun _=>aE (cells:=[(.sl 3 0 0:A)]) je xt (by exact rfl) (by decide) (by exact ob1 rfl) (by exact Nat.le_of_ble_eq_true rfl) (by exact rfl))
    refine nl ?_
    refine dW (trI (h:=3) (T:=3) (ex:=true) (L:=R0) (L':=[]) (0) (hc:=by simp)) ?_
    refine sq (rg ?_)
    refine z ?_ (h:=fun Z=>ab (xs:=[(.sl 3 0 0:A)]) Z dI rfl (by decide) rfl)
    refine z ?_ (h:=fun _=>aE (cells:=[(.sl 3 0 0:A)]) dI xt (by exact rfl) (by decide) (by exact ob1 rfl) (by exact Nat.le_of_ble_eq_true rfl) (by exact rfl))
    refine nl (aC ?_)
    exact⟨[kP 2 2 0,kO 1 100 3 true [(.slv b.length 1 (ysl b):A),aI (((cuN b c0 10).i:Nat):Int),aI ((cuN b c0 10).h)],kO 2 29 1 true [(.sl 900 0 0:A)],kO 900 3 1 true (pl (isl [])),kF 3,kF 5,kF 7,kF 13,kF 14,kF 20,kF 22,kF 28,kF 29,kF 30,kF 39,kF 40,kF 41,kF 42],wkf (aX [(900,3)]) (wS<|wX<|wX<|wP<|by(iterate 14 refine wF ?_);exact wN),⟨bT (c:=[(.slv b.length 1 (ysl b):A),aI (((cuN b c0 10).i:Nat):Int),aI ((cuN b c0 10).h)]) (by kernel_rfl) (by exact eB (congrArg Prod.snd hfin).symm _ _),bT (c:=pl (isl [])) (by kernel_rfl) (congrArg (fun z=>pl (isl z)) (by exact(congrArg Prod.fst hfin).symm)),trivial⟩,dV (h:=2) ⟨29,1,true,[(.sl 900 0 0:A)]⟩ (by kernel_rfl) (by kernel_rfl) dI (Nat.le_of_ble_eq_true rfl) (by(exact congrArg (fun z:Nat=>[A.sl 900 0 z]) (by first |exact congrArg (fun z=>z.1.length) hfin.symm |exact congrArg (fun z=>z.1.length) hfin |(rw[hfin];simp;done))))⟩
   ·skip
    have c5P:=of_decide_eq_false c5
    have hfin:=r3A_3 (b:=b) (c:=c) (by rw[h4];omega) (by rw[h4];omega) (by rw[h4];omega)
    rw[h3,h4]at hfin
    refine sk (sq (rg ?_))
    refine z ?_ (h:=fun Z=>ab (xs:=[(.sl 3 0 R0.length:A)]) Z dI rfl (by decide) rfl)
    refine z ?_ (h:=fun _=>aE (cells:=[(.sl 3 0 R0.length:A)]) dI xt (by exact rfl) (by decide) (by exact ob1 rfl) (by exact Nat.le_of_ble_eq_true rfl) (by exact rfl))
    refine nl (aC ?_)
    exact⟨[kP 2 2 0,kO 1 100 3 true [(.slv b.length 1 (ysl b):A),aI (((cuN b c0 10).i:Nat):Int),aI ((cuN b c0 10).h)],kO 2 29 1 true [(.sl 900 0 R0.length:A)],kO 900 3 1 true (pl (isl R0)),kF 3,kF 5,kF 7,kF 13,kF 14,kF 20,kF 22,kF 28,kF 29,kF 30,kF 39,kF 40,kF 41,kF 42],wkf (aX [(900,3)]) (wS<|wX<|wX<|wP<|by(iterate 14 refine wF ?_);exact wN),⟨bT (c:=[(.slv b.length 1 (ysl b):A),aI (((cuN b c0 10).i:Nat):Int),aI ((cuN b c0 10).h)]) (by kernel_rfl) (by exact eB (congrArg Prod.snd hfin).symm _ _),bT (c:=pl (isl R0)) (by kernel_rfl) (congrArg (fun z=>pl (isl z)) (by exact(congrArg Prod.fst hfin).symm)),trivial⟩,dV (h:=2) ⟨29,1,true,[(.sl 900 0 R0.length:A)]⟩ (by kernel_rfl) (by kernel_rfl) dI (Nat.le_of_ble_eq_true rfl) (by(exact congrArg (fun z:Nat=>[A.sl 900 0 z]) (by first |exact congrArg (fun z=>z.1.length) hfin.symm |exact congrArg (fun z=>z.1.length) hfin |(rw[hfin];simp;done))))⟩
theorem tM (b:List Nat) (c:Cu) (hb:b.length≤1048576) (hy:∀ x∈b,x<256) (hi:c.i≤b.length):FnO Tryz.prog 119 [.a (.ptr 1 0)] [(.o 1,some (.o ⟨100,3,true,[(.slv b.length 1 (ysl b):A),aI ((c.i:Nat):Int),aI c.h]⟩))] (V.b (.agg [(.sl 900 0 ((r3A b c).1.length):A)])) [(.o 1,some (.o ⟨100,3,true,[(.slv b.length 1 (ysl b):A),aI ((((r3A b c).2).i:Nat):Int),aI (((r3A b c).2).h)]⟩)),(.o 900,some (.o ⟨3,1,true,pl (isl ((r3A b c).1))⟩))] [1]:=by
 exact Et b c _ _ hb hy hi rfl rfl
theorem w_u8 {x:Int} (h0:0≤x) (h1:x≤255):IntKind.u8.wrap x=x:=by
 have e:IntKind.u8.wrap x=x%256:=by
  simp only[IntKind.wrap,IntKind.signed,IntKind.bits]
  simp
 rw[e];omega
theorem Ak {a b c d:Nat} (h1:a<256) (h2:b<256) (h3:c<256) (h4:d<256):∀ x∈[a,b,c,d],x<256:=by
 intro x hx
 simp only[List.mem_cons,List.not_mem_nil,or_false]at hx
 rcases hx with rfl |rfl |rfl |rfl<;>assumption
def dhL (b:List Nat) (hh:Nat):Nat→Cu→List Int→List Int
 | 0,_,R=>R
 | k+1,c,R=>dhL b hh k (cuN b (cuN b c (hh-2)) 3) (if sf R (1+cuX b c (hh-2)) (1+cuX b (cuN b c (hh-2)) 3)=true then R.set (1+cuX b c (hh-2)) (gI R (1+cuX b c (hh-2))-((2^ (1+cuX b (cuN b c (hh-2)) 3):Nat):Int))else R)
theorem Jy {b:List Nat} {hh k:Nat} {c:Cu} {R:List Int} (hk:0<k) (h:sf R (1+cuX b c (hh-2)) (1+cuX b (cuN b c (hh-2)) 3)=true):
  dhL b hh k c R=dhL b hh (k-1) (cuN b (cuN b c (hh-2)) 3) (R.set (1+cuX b c (hh-2)) (gI R (1+cuX b c (hh-2))-((2^ (1+cuX b (cuN b c (hh-2)) 3):Nat):Int))):=by
 obtain⟨j,rfl⟩:∃ j,k=j+1:=⟨k-1,by omega⟩
 rw[dhL,if_pos h];rfl
theorem GA {b:List Nat} {hh k:Nat} {c:Cu} {R:List Int} (hk:0<k) (h:sf R (1+cuX b c (hh-2)) (1+cuX b (cuN b c (hh-2)) 3)=false):
  dhL b hh k c R=dhL b hh (k-1) (cuN b (cuN b c (hh-2)) 3) R:=by
 obtain⟨j,rfl⟩:∃ j,k=j+1:=⟨k-1,by omega⟩
 rw[dhL,if_neg (by rw[h];decide)];rfl
theorem Gz {b:List Nat} {hh k:Nat} {c:Cu} {R r:List Int} (h:dhL b hh k c R=r) (hk:¬0<k):R=r:=by
 have:k=0:=by omega
 subst this;exact h
theorem Jx {b:List Nat} {hh:Nat} (h2:2<hh):∀ (k:Nat) (c:Cu) (R:List Int),RP hh R→RP hh (dhL b hh k c R):=by
  intro k
  induction k with
  | zero=>intro c R h;exact h
  | succ k ih=>
    intro c R h
    unfold dhL
    refine ih _ _ ?_
    split
    · rename_i hb
      have:cuX b c (hh-2)<hh-2:=du (by omega)
      exact h.take (by omega) hb
    · exact h
def dhW (b:List Nat):Nat:=3+cuX b (cuN b (cu0 b) 3) 4
def dhH (b:List Nat):Nat:=3+cuX b (cuN b (cuN b (cu0 b) 3) 4) 3
def dhC (b:List Nat):Cu:=cuN b (cuN b (cuN b (cu0 b) 3) 4) 3
def dch (b:List Nat):List Int:=if cuX b (cu0 b) 3=0 then dhL b (dhH b) (1+cuX b (dhC b) 3) (cuN b (dhC b) 3) (bF (dhW b) (dhH b))else(r3A b (cuN b (cu0 b) 3)).1
theorem dch_0 {b:List Nat} (h:cuX b (cu0 b) 3=0):dch b=dhL b (dhH b) (1+cuX b (dhC b) 3) (cuN b (dhC b) 3) (bF (dhW b) (dhH b)):=by unfold dch;rw[if_pos h]
theorem dch_1 {b:List Nat} (h:cuX b (cu0 b) 3≠0):dch b=(r3A b (cuN b (cu0 b) 3)).1:=by unfold dch;rw[if_neg h]
theorem DE (b:List Nat):3≤dhW b∧dhW b≤6:=by
 have:cuX b (cuN b (cu0 b) 3) 4<4:=du (by decide)
 unfold dhW;omega
theorem DD (b:List Nat):3≤dhH b∧dhH b≤5:=by
 have:cuX b (cuN b (cuN b (cu0 b) 3) 4) 3<3:=du (by decide)
 unfold dhH;omega
theorem Gy (b:List Nat):(dch b).length≤9:=by
 unfold dch
 split
 ·have h:=DD b
  have:=(Jx (b:=b) (by omega) (1+cuX b (dhC b) 3) (cuN b (dhC b) 3) _ (RP.rect (w:=dhW b) (h:=dhH b) (by have:=DE b;omega))).ln
  omega
 ·exact HL b _
def f4 (b:List Nat) (c:Cu):List Nat:=[cuX b c 256,cuX b (cuN b c 256) 256,cuX b (cuN b (cuN b c 256) 256) 256,cuX b (cuN b (cuN b (cuN b c 256) 256) 256) 256]
def c4 (b:List Nat) (c:Cu):Cu:=cuN b (cuN b (cuN b (cuN b c 256) 256) 256) 256
def tv (b:List Nat) (c:Cu):List Int × Cu:=if cuX b (r3 b c).2 4=0 then(dch (f4 b (cuN b (r3 b c).2 4)),c4 b (cuN b (r3 b c).2 4))else((r3 b c).1,cuN b (r3 b c).2 4)
theorem Kn {b:List Nat} {c:Cu} (h:cuX b (r3 b c).2 4=0):tv b c=(dch (f4 b (cuN b (r3 b c).2 4)),c4 b (cuN b (r3 b c).2 4)):=by unfold tv;rw[if_pos h]
theorem Ko {b:List Nat} {c:Cu} (h:cuX b (r3 b c).2 4≠0):tv b c=((r3 b c).1,cuN b (r3 b c).2 4):=by unfold tv;rw[if_neg h]
def few (R:List Int):Bool:=bj R&&inB ((cnt (ao R):Nat):Int) 1 60
def r12 (b:List Nat):Nat→Cu→List Int × Cu
 | 0,c=>(bF 4 3,c)
 | k+1,c=>if few (tv b c).1=true then tv b c else r12 b k (tv b c).2
theorem AN {b:List Nat} {k:Nat} {c d:Cu} {R:List Int} (hk:0<k) (hs:tv b c=(R,d)) (h1:bj R=true) (h2:inB ((cnt (ao R):Nat):Int) 1 60=true):r12 b k c=(R,d):=by
 obtain⟨j,rfl⟩:∃ j,k=j+1:=⟨k-1,by omega⟩
 rw[r12,hs,if_pos (by unfold few;rw[h1,h2];rfl)]
theorem wB {b:List Nat} {k:Nat} {c d:Cu} {R:List Int} (hk:0<k) (hs:tv b c=(R,d)) (h:bj R=false∨inB ((cnt (ao R):Nat):Int) 1 60=false):r12 b k c=r12 b (k-1) d:=by
 obtain⟨j,rfl⟩:∃ j,k=j+1:=⟨k-1,by omega⟩
 rw[r12,hs,if_neg (by unfold few;rcases h with h |h<;>rw[h]<;>simp)];rfl
theorem HJ {b:List Nat} {k:Nat} {c:Cu} (hk:k=0):r12 b k c=(bF 4 3,c):=by subst hk;rfl
theorem Ku:few (bF 4 3)=true:=by decide+kernel
theorem HK (b:List Nat):∀ (k:Nat) (c:Cu),few (r12 b k c).1=true:=by
  intro k
  induction k with
  | zero=>intro c;exact Ku
  | succ k ih=>
    intro c;unfold r12;split
    · assumption
    · exact ih _
theorem Fi {b:List Nat} {k:Nat} {c:Cu} {R:List Int} (h:(r12 b k c).1=R):LT R∧cntR R≤60:=by
 have hf:=HK b k c
 rw[h]at hf
 unfold few at hf
 rw[Bool.and_eq_true]at hf
 have h2:=bP.1 hf.2
 have hT:=LT.of hf.1 (by omega) (by omega)
 refine⟨hT,?_⟩
 rw[lP hf.1];omega
theorem c4_i {b:List Nat} {c:Cu} (h:c.i≤b.length):(c4 b c).i≤b.length:=cg (cg (cg (cg h)))
theorem r12_i (b:List Nat):∀ (k:Nat) (c:Cu),c.i≤b.length→(r12 b k c).2.i≤b.length:=by
  intro k
  induction k with
  | zero=>intro c h;exact h
  | succ k ih=>
    intro c h
    have hs:(tv b c).2.i≤b.length:=by
      unfold tv;split
      · exact c4_i (cg (r3_i h))
      · exact cg (r3_i h)
    unfold r12;split
    · exact hs
    · exact ih _ hs
theorem jN:bK Tryz.prog 29 0=some 0:=by kernel_rfl
theorem tp:(Tryz.prog.info? 3).map (·.size)=some 1:=by kernel_rfl
theorem nf:TI Tryz.prog 22 false 1:=⟨⟨_,Tryz.underlying22,rfl⟩,by kernel_rfl⟩
theorem jf:TI Tryz.prog 29 true 1:=⟨⟨_,Tryz.underlying29,rfl⟩,by kernel_rfl⟩
theorem tt:TI Tryz.prog 3 false 1:=⟨⟨_,Tryz.underlying3,rfl⟩,by kernel_rfl⟩
theorem ng:Tryz.prog.underlying 22=some (.slice 3):=Tryz.underlying22
theorem vn:ZI Tryz.prog 29 (.agg #[.slice none 0 0]) 1 24:=by unfold ZI;kernel_rfl
theorem lx (b:List Nat) (hb:b.length≤1048576) (hy:∀ x∈b,x<256):FnO Tryz.prog 100 [.a (.slv b.length 1 (ysl b))] [] (V.b (.agg [(.sl 900 0 ((dch b).length):A)])) [(.o 900,some (.o ⟨3,1,true,pl (isl (dch b))⟩))] []:=by
 have hi0:(cu0 b).i≤b.length:=Nat.zero_le _
 have hi1:=cg (n:=3) hi0
 have hi2:=cg (n:=4) hi1
 have hi3:=cg (n:=3) hi2
 have hi4:=cg (n:=3) hi3
 have hWb:=DE b
 have hHb:=DD b
 have hW:(3+(cuX b (cuN b (cu0 b) 3) 4))=dhW b:=rfl
 have hH:(3+(cuX b (cuN b (cuN b (cu0 b) 3) 4) 3))=dhH b:=rfl
 have hxn:cuX b (cuN b (cuN b (cuN b (cu0 b) 3) 4) 3) 3<3:=du (by decide)
 have hrl:(bF (3+(cuX b (cuN b (cu0 b) 3) 4)) (3+(cuX b (cuN b (cuN b (cu0 b) 3) 4) 3))).length=dhH b:=by simp [bF];rfl
 refine bW (N:=60) Tryz.func100 rfl (by kernel_rfl) rfl (Nat.le_of_ble_eq_true rfl) rfl rfl (by kernel_rfl) (by kernel_rfl) trivial [2,4,9,11,13,16,18,20,29,31,34,59,60,61,62,63] (ip rfl) (fun W own kp im0=> ?_)
 show Wp _ _ _ [kV 0 (V.b (.a (.slv b.length 1 (ysl b)))),kF 2,kF 4,kF 9,kF 11,kF 13,kF 16,kF 18,kF 20,kF 29,kF 31,kF 34,kF 59,kF 60,kF 61,kF 62,kF 63]
 refine sq (rg ?_)
 refine z ?_ (h:=fun Z=>aL (h:=2) (cap:=1) (s:=1) (cells:=[(.val (.slice none 0 0):A)]) Z vn rfl rfl (by decide))
 refine nl (sq (rg (zm ?_)))
 refine z ?_ (h:=fun Z=>aK (d:=9) (f:=50) (os:=[]) (os':=[(.o 4,some (.o ⟨100,3,true,[(.slv b.length 1 (ysl b):A),aI (((cu0 b).i:Nat):Int),aI ((cu0 b).h)]⟩))]) (r:=V.p 4 0) (bs:=[.a (.slv b.length 1 (ysl b))]) (keep:=[]) (new:=[4]) (dead:=[]) Z (FnO.ren' (mw b (by omega) (by omega)) (aX [(900,4)]) rfl rfl (by kernel_rfl) (by kernel_rfl) ⟨ocs (by kernel_rfl),trivial⟩ (by kernel_rfl) rfl (by simp only[bv,Ob.ren,aY,ak,am,aj,aO,aN];first |done |rfl) (by simp only[bv,Ob.ren,aY,ak,am,aj,aO,aN];first |done |rfl) rfl rfl) (by kernel_rfl) ⟨ocs (by kernel_rfl),trivial⟩ (by kernel_rfl) (ArgOs.cons (ArgO.slot 8 (.a (.slv b.length 1 (ysl b)))) (ArgOs.nil)))
 refine za (nl (sq (sq (rg (zm ?_)))))
 refine z ?_ (h:=fun Z=>aK (d:=11) (f:=99) (os:=[(.o 4,some (.o ⟨100,3,true,[(.slv b.length 1 (ysl b):A),aI (((cu0 b).i:Nat):Int),aI ((cu0 b).h)]⟩))]) (os':=[(.o 4,some (.o ⟨100,3,true,[(.slv b.length 1 (ysl b):A),aI (((cuN b (cu0 b) 3).i:Nat):Int),aI ((cuN b (cu0 b) 3).h)]⟩))]) (r:=V.v (.bool (decide (cuX b (cu0 b) 3=0)))) (bs:=[.a (.ptr 4 0),.a (.val (.int .i64 3))]) (keep:=[4]) (new:=[]) (dead:=[]) Z (FnO.ren' (iA b (cu0 b) 3 (by omega) (by omega) (by omega) (by omega) (by omega)) (aX [(1,4)]) rfl rfl (by kernel_rfl) (by kernel_rfl) ⟨ocs (by kernel_rfl),trivial⟩ (by kernel_rfl) rfl (by simp only[bv,Ob.ren,aY,ak,am,aj,aO,aN];first |done |rfl) (by simp only[bv,Ob.ren,aY,ak,am,aj,aO,aN];first |done |rfl) rfl rfl) (by kernel_rfl) ⟨ocs (by kernel_rfl),trivial⟩ (by kernel_rfl) (ArgOs.cons (ArgO.slot 10 (.a (.ptr 4 0))) (ArgOs.cons ((ArgO.v vc)) (ArgOs.nil))))
 refine nl ?_
 refine wi (b:=(decide (cuX b (cu0 b) 3=0))) (fun c1=> ?_) (fun c1=> ?_)
 ·skip
  have hdc:=dch_0 (of_decide_eq_true c1)
  have hsb:IntKind.i64.wrap ((((bF (3+(cuX b (cuN b (cu0 b) 3) 4)) (3+(cuX b (cuN b (cuN b (cu0 b) 3) 4) 3))).length:Nat):Int)-2)=(((dhH b-2):Nat):Int):=by rw[hrl,w64 (by omega) (by omega)];omega
  refine sq (rg (zm ?_))
  refine z ?_ (h:=fun Z=>aK (d:=13) (f:=76) (os:=[(.o 4,some (.o ⟨100,3,true,[(.slv b.length 1 (ysl b):A),aI (((cuN b (cu0 b) 3).i:Nat):Int),aI ((cuN b (cu0 b) 3).h)]⟩))]) (os':=[(.o 4,some (.o ⟨100,3,true,[(.slv b.length 1 (ysl b):A),aI (((cuN b (cuN b (cu0 b) 3) 4).i:Nat):Int),aI ((cuN b (cuN b (cu0 b) 3) 4).h)]⟩))]) (r:=V.v (.int .i64 (((cuX b (cuN b (cu0 b) 3) 4):Nat):Int))) (bs:=[.a (.ptr 4 0),.a (.val (.int .i64 4))]) (keep:=[4]) (new:=[]) (dead:=[]) Z (FnO.ren' (bl b (cuN b (cu0 b) 3) 4 (by omega) (by omega) (by omega) (by omega) (by omega)) (aX [(1,4)]) rfl rfl (by kernel_rfl) (by kernel_rfl) ⟨ocs (by kernel_rfl),trivial⟩ (by kernel_rfl) rfl (by simp only[bv,Ob.ren,aY,ak,am,aj,aO,aN];first |done |rfl) (by simp only[bv,Ob.ren,aY,ak,am,aj,aO,aN];first |done |rfl) rfl rfl) (by kernel_rfl) ⟨ocs (by kernel_rfl),trivial⟩ (by kernel_rfl) (ArgOs.cons (ArgO.slot 12 (.a (.ptr 4 0))) (ArgOs.cons ((ArgO.v vc)) (ArgOs.nil))))
  refine z ?_ (h:=fun Z=>aa Z vc vt (rA (by omega) (by omega)))
  refine zm ?_
  refine z ?_ (h:=fun Z=>aK (d:=16) (f:=76) (os:=[(.o 4,some (.o ⟨100,3,true,[(.slv b.length 1 (ysl b):A),aI (((cuN b (cuN b (cu0 b) 3) 4).i:Nat):Int),aI ((cuN b (cuN b (cu0 b) 3) 4).h)]⟩))]) (os':=[(.o 4,some (.o ⟨100,3,true,[(.slv b.length 1 (ysl b):A),aI (((cuN b (cuN b (cuN b (cu0 b) 3) 4) 3).i:Nat):Int),aI ((cuN b (cuN b (cuN b (cu0 b) 3) 4) 3).h)]⟩))]) (r:=V.v (.int .i64 (((cuX b (cuN b (cuN b (cu0 b) 3) 4) 3):Nat):Int))) (bs:=[.a (.ptr 4 0),.a (.val (.int .i64 3))]) (keep:=[4]) (new:=[]) (dead:=[]) Z (FnO.ren' (bl b (cuN b (cuN b (cu0 b) 3) 4) 3 (by omega) (by omega) (by omega) (by omega) (by omega)) (aX [(1,4)]) rfl rfl (by kernel_rfl) (by kernel_rfl) ⟨ocs (by kernel_rfl),trivial⟩ (by kernel_rfl) rfl (by simp only[bv,Ob.ren,aY,ak,am,aj,aO,aN];first |done |rfl) (by simp only[bv,Ob.ren,aY,ak,am,aj,aO,aN];first |done |rfl) rfl rfl) (by kernel_rfl) ⟨ocs (by kernel_rfl),trivial⟩ (by kernel_rfl) (ArgOs.cons (ArgO.slot 15 (.a (.ptr 4 0))) (ArgOs.cons ((ArgO.v vc)) (ArgOs.nil))))
  refine z ?_ (h:=fun Z=>aa Z vc vt (rA (by omega) (by omega)))
  refine z ?_ (h:=fun Z=>ag Z (gz (3+(cuX b (cuN b (cu0 b) 3) 4)) (3+(cuX b (cuN b (cuN b (cu0 b) 3) 4) 3)) (by omega) (by omega)) (ac (ArgV.v vt) (ac (ArgV.v vt) an)) (ResV.reg _ _ _ _ 18))
  refine z ?_ (h:=fun Z=>aL (h:=9) (cap:=1) (s:=1) (cells:=[(.val (.slice none 0 0):A)]) Z vn rfl rfl (by decide))
  refine z ?_ (h:=fun _=>aE (cells:=[(.sl 18 0 ((bF (3+(cuX b (cuN b (cu0 b) 3) 4)) (3+(cuX b (cuN b (cuN b (cu0 b) 3) 4) 3))).length):A)]) jf xt (by exact rfl) (by decide) (by exact ob1 rfl) (by exact Nat.le_of_ble_eq_true rfl) (by exact rfl))
  refine nl (sq (sq (rg (zm ?_))))
  refine z ?_ (h:=fun Z=>aK (d:=20) (f:=76) (os:=[(.o 4,some (.o ⟨100,3,true,[(.slv b.length 1 (ysl b):A),aI (((cuN b (cuN b (cuN b (cu0 b) 3) 4) 3).i:Nat):Int),aI ((cuN b (cuN b (cuN b (cu0 b) 3) 4) 3).h)]⟩))]) (os':=[(.o 4,some (.o ⟨100,3,true,[(.slv b.length 1 (ysl b):A),aI (((cuN b (cuN b (cuN b (cuN b (cu0 b) 3) 4) 3) 3).i:Nat):Int),aI ((cuN b (cuN b (cuN b (cuN b (cu0 b) 3) 4) 3) 3).h)]⟩))]) (r:=V.v (.int .i64 (((cuX b (cuN b (cuN b (cuN b (cu0 b) 3) 4) 3) 3):Nat):Int))) (bs:=[.a (.ptr 4 0),.a (.val (.int .i64 3))]) (keep:=[4]) (new:=[]) (dead:=[]) Z (FnO.ren' (bl b (cuN b (cuN b (cuN b (cu0 b) 3) 4) 3) 3 (by omega) (by omega) (by omega) (by omega) (by omega)) (aX [(1,4)]) rfl rfl (by kernel_rfl) (by kernel_rfl) ⟨ocs (by kernel_rfl),trivial⟩ (by kernel_rfl) rfl (by simp only[bv,Ob.ren,aY,ak,am,aj,aO,aN];first |done |rfl) (by simp only[bv,Ob.ren,aY,ak,am,aj,aO,aN];first |done |rfl) rfl rfl) (by kernel_rfl) ⟨ocs (by kernel_rfl),trivial⟩ (by kernel_rfl) (ArgOs.cons (ArgO.slot 19 (.a (.ptr 4 0))) (ArgOs.cons ((ArgO.v vc)) (ArgOs.nil))))
  refine z ?_ (h:=fun Z=>aa Z vc vt (rA (by omega) (by omega)))
  refine za (nl (bkk ?_))
  refine bg (fun((k,cz,R):Nat × Cu × (List Int))=>RP (dhH b) R∧cz.i≤b.length∧k≤3∧dhL b (dhH b) k cz R=dch b) (fun((k,cz,R):Nat × Cu × (List Int))=>[kP 2 2 0,kP 3 4 0,kP 4 9 0,kI 5 ((k:Nat):Int),kO 2 29 1 true [(.val (.slice none 0 0):A)],kO 4 100 3 true [(.slv b.length 1 (ysl b):A),aI ((cz.i:Nat):Int),aI cz.h],kO 9 29 1 true [(.sl 18 0 ((bF (3+(cuX b (cuN b (cu0 b) 3) 4)) (3+(cuX b (cuN b (cuN b (cu0 b) 3) 4) 3))).length):A)],kO 18 3 1 true (pl (isl R)),kF 11,kF 13,kF 16,kF 20,kF 29,kF 31,kF 34,kF 59,kF 60,kF 61,kF 62,kF 63]) (fun((k,cz,R):Nat × Cu × (List Int))=>k) (((1+cuX b (cuN b (cuN b (cuN b (cu0 b) 3) 4) 3) 3):Nat),((cuN b (cuN b (cuN b (cuN b (cu0 b) 3) 4) 3) 3):Cu),((bF (3+(cuX b (cuN b (cu0 b) 3) 4)) (3+(cuX b (cuN b (cuN b (cu0 b) 3) 4) 3))):List Int)) (by exact⟨RP.rect (by omega),hi4,by omega,hdc.symm⟩) (wkf id (wS<|wS<|wS<|wE (e:=(be (by rfl)))<|wX<|wX<|wX<|wP<|by(iterate 12 refine wF ?_);exact wN)) ?_
  rintro⟨k,cz,R⟩ inv2
  replace inv2:RP (dhH b) R∧cz.i≤b.length∧k≤3∧dhL b (dhH b) k cz R=dch b:=inv2
  obtain⟨hRP,hi9,hk3,hdh⟩:=inv2
  have hRl:=hRP.ln
  refine sq (sq (rg (zm ?_)))
  refine z ?_ (h:=fun Z=>aa Z vt vc (vz rfl))
  refine nl ?_
  refine wi (fun c3=> ?_) (fun c3=> ?_)
  ·skip
   have c3P:=of_decide_eq_true c3
   have hyl:cuX b cz (dhH b-2)<(dhH b-2):=du (by omega)
   have hxl:cuX b (cuN b cz (dhH b-2)) 3<3:=du (by decide)
   have hi5:=cg (n:=(dhH b-2)) hi9
   have hi6:=cg (n:=3) hi5
   have hbd:=hRP.bd (1+cuX b cz (dhH b-2)) (by omega)
   have hp2:2^ (1+cuX b (cuN b cz (dhH b-2)) 3)<2^ 8:=Nat.pow_lt_pow_right (by decide) (by omega)
   have hp0:0<2^ (1+cuX b (cuN b cz (dhH b-2)) 3):=Nat.two_pow_pos _
   refine sk (sq (bkk (sq (rg (zm ?_)))))
   refine z ?_ (h:=fun Z=>aq (off':=0) Z jN rfl)
   refine z ?_ (h:=fun Z=>ah (x:= .sl 18 0 ((bF (3+(cuX b (cuN b (cu0 b) 3) 4)) (3+(cuX b (cuN b (cuN b (cu0 b) 3) 4) 3))).length)) Z nf (by exact rfl))
   refine z ?_ (h:=fun Z=>lnS Z ng)
   refine z ?_ (h:=fun Z=>aa Z vt vc (nH (c:=(((dhH b-2):Nat):Int)) hsb))
   refine z ?_ (h:=fun Z=>aK (d:=31) (f:=76) (os:=[(.o 4,some (.o ⟨100,3,true,[(.slv b.length 1 (ysl b):A),aI ((cz.i:Nat):Int),aI cz.h]⟩))]) (os':=[(.o 4,some (.o ⟨100,3,true,[(.slv b.length 1 (ysl b):A),aI (((cuN b cz (dhH b-2)).i:Nat):Int),aI ((cuN b cz (dhH b-2)).h)]⟩))]) (r:=V.v (.int .i64 (((cuX b cz (dhH b-2)):Nat):Int))) (bs:=[.a (.ptr 4 0),.a (.val (.int .i64 (((dhH b-2):Nat):Int)))]) (keep:=[4]) (new:=[]) (dead:=[]) Z (FnO.ren' (bl b cz (dhH b-2) (by omega) (by omega) (by omega) (by omega) (by omega)) (aX [(1,4)]) rfl rfl (by kernel_rfl) (by kernel_rfl) ⟨ocs (by kernel_rfl),trivial⟩ (by kernel_rfl) rfl (by simp only[bv,Ob.ren,aY,ak,am,aj,aO,aN];first |done |rfl) (by simp only[bv,Ob.ren,aY,ak,am,aj,aO,aN];first |done |rfl) rfl rfl) (by kernel_rfl) ⟨ocs (by kernel_rfl),trivial⟩ (by kernel_rfl) (ArgOs.cons (ArgO.slot 26 (.a (.ptr 4 0))) (ArgOs.cons ((ArgO.v vt)) (ArgOs.nil))))
   refine z ?_ (h:=fun Z=>aa Z vc vt (rA (by omega) (by omega)))
   refine za (nl (sq (rg (zm ?_))))
   refine z ?_ (h:=fun Z=>aK (d:=34) (f:=76) (os:=[(.o 4,some (.o ⟨100,3,true,[(.slv b.length 1 (ysl b):A),aI (((cuN b cz (dhH b-2)).i:Nat):Int),aI ((cuN b cz (dhH b-2)).h)]⟩))]) (os':=[(.o 4,some (.o ⟨100,3,true,[(.slv b.length 1 (ysl b):A),aI (((cuN b (cuN b cz (dhH b-2)) 3).i:Nat):Int),aI ((cuN b (cuN b cz (dhH b-2)) 3).h)]⟩))]) (r:=V.v (.int .i64 (((cuX b (cuN b cz (dhH b-2)) 3):Nat):Int))) (bs:=[.a (.ptr 4 0),.a (.val (.int .i64 3))]) (keep:=[4]) (new:=[]) (dead:=[]) Z (FnO.ren' (bl b (cuN b cz (dhH b-2)) 3 (by omega) (by omega) (by omega) (by omega) (by omega)) (aX [(1,4)]) rfl rfl (by kernel_rfl) (by kernel_rfl) ⟨ocs (by kernel_rfl),trivial⟩ (by kernel_rfl) rfl (by simp only[bv,Ob.ren,aY,ak,am,aj,aO,aN];first |done |rfl) (by simp only[bv,Ob.ren,aY,ak,am,aj,aO,aN];first |done |rfl) rfl rfl) (by kernel_rfl) ⟨ocs (by kernel_rfl),trivial⟩ (by kernel_rfl) (ArgOs.cons (ArgO.slot 33 (.a (.ptr 4 0))) (ArgOs.cons ((ArgO.v vc)) (ArgOs.nil))))
   refine z ?_ (h:=fun Z=>aa Z vc vt (rA (by omega) (by omega)))
   refine za (nl (sq (rg ?_)))
   refine z ?_ (h:=fun Z=>aq (off':=0) Z jN rfl)
   refine z ?_ (h:=fun Z=>ah (x:= .sl 18 0 ((bF (3+(cuX b (cuN b (cu0 b) 3) 4)) (3+(cuX b (cuN b (cuN b (cu0 b) 3) 4) 3))).length)) Z nf (by exact rfl))
   refine zm ?_
   refine z ?_ (h:=fun Z=>ix0 (k:=(1+(cuX b cz (dhH b-2)))) Z ng tp vt (by rfl) (by omega))
   refine z ?_ (h:=fun Z=>lI Z tt (by omega))
   refine zm ?_
   refine z ?_ (h:=fun Z=>aa Z vt vt (ml (c:=(((((gI R (1+(cuX b cz (dhH b-2)))).toNat)>>>(1+(cuX b (cuN b cz (dhH b-2)) 3))):Nat):Int)) (by omega) (wH (m:=((gI R (1+(cuX b cz (dhH b-2)))).toNat)) (n:=(1+(cuX b (cuN b cz (dhH b-2)) 3))) (Int.toNat_of_nonneg (by omega)).symm (by rfl) (by omega) rfl)))
   refine z ?_ (h:=fun Z=>aa Z vt vc (io (c:=((((((gI R (1+(cuX b cz (dhH b-2)))).toNat)>>>(1+(cuX b (cuN b cz (dhH b-2)) 3)))&&&1):Nat):Int)) (pN (m:=(((gI R (1+(cuX b cz (dhH b-2)))).toNat)>>>(1+(cuX b (cuN b cz (dhH b-2)) 3)))) (n:=1) rfl rfl (by exact Nat.lt_of_le_of_lt (jA _ _) (by first |omega |assumption |(first |omega |assumption |(rw[hrl];omega)))) (by omega))))
   refine z ?_ (h:=fun Z=>aa Z vt vc (ct (c:=(((gI R (1+(cuX b cz (dhH b-2)))).toNat).testBit (1+(cuX b (cuN b cz (dhH b-2)) 3)))) (mD _ _)))
   refine nl ?_
   refine wi (b:=(((gI R (1+(cuX b cz (dhH b-2)))).toNat).testBit (1+(cuX b (cuN b cz (dhH b-2)) 3)))) (fun c4=> ?_) (fun c4=> ?_)
   ·skip
    have hbt:sf R (1+cuX b cz (dhH b-2)) (1+cuX b (cuN b cz (dhH b-2)) 3)=true:=c4
    have hnx:=Jy (k:=k) (by omega) hbt
    have hRP2:=hRP.take (by omega) hbt
    refine ch ?_
    refine zd ?_ (h:=fun Z=>aq (off':=0) Z jN rfl)
    refine zd ?_ (h:=fun Z=>ah (x:= .sl 18 0 ((bF (3+(cuX b (cuN b (cu0 b) 3) 4)) (3+(cuX b (cuN b (cuN b (cu0 b) 3) 4) 3))).length)) Z nf (by exact rfl))
    refine zdm ?_
    refine zd ?_ (h:=fun Z=>aq (off':=0) Z jN rfl)
    refine zd ?_ (h:=fun Z=>ah (x:= .sl 18 0 ((bF (3+(cuX b (cuN b (cu0 b) 3) 4)) (3+(cuX b (cuN b (cuN b (cu0 b) 3) 4) 3))).length)) Z nf (by exact rfl))
    refine zdm ?_
    refine zd ?_ (h:=fun Z=>ix0 (k:=(1+(cuX b cz (dhH b-2)))) Z ng tp vt (by rfl) (by omega))
    refine zd ?_ (h:=fun Z=>lI Z tt (by omega))
    refine zdm ?_
    refine zd ?_ (h:=fun Z=>aa Z vc vt (fw (c:=(((2^ (1+(cuX b (cuN b cz (dhH b-2)) 3))):Nat):Int)) (by omega) (kA (n:=(1+(cuX b (cuN b cz (dhH b-2)) 3))) (by rfl) (by omega))))
    refine zd ?_ (h:=fun Z=>aa Z vt vt (rS (by omega) (by omega)))
    refine zd ?_ (h:=fun Z=>ix0 (k:=(1+(cuX b cz (dhH b-2)))) Z ng tp vt (by rfl) (by omega))
    refine zd ?_ (h:=fun _=>sI tt xt (by omega))
    refine bG (rg (zm ?_))
    refine z ?_ (h:=fun Z=>aa Z vt vc (rS (by omega) (by omega)))
    refine za (nl ?_)
    exact aA ((k-1),(cuN b (cuN b cz (dhH b-2)) 3),(R.set (1+(cuX b cz (dhH b-2))) ((gI R (1+(cuX b cz (dhH b-2))))-(((2^ (1+(cuX b (cuN b cz (dhH b-2)) 3))):Nat):Int)))) (by exact⟨hRP2,hi6,by omega,hnx.symm.trans hdh⟩) (by show k-1<k;omega) (wkf id (wS<|wS<|wS<|wE (e:=(be (by omega)))<|wX<|wX<|wX<|wP<|by(iterate 12 refine wF ?_);exact wN))
   ·skip
    have hbt:sf R (1+cuX b cz (dhH b-2)) (1+cuX b (cuN b cz (dhH b-2)) 3)=false:=c4
    have hnx:=GA (k:=k) (by omega) hbt
    have hRP2:=hRP
    refine sk (rg (zm ?_))
    refine z ?_ (h:=fun Z=>aa Z vt vc (rS (by omega) (by omega)))
    refine za (nl ?_)
    exact aA ((k-1),(cuN b (cuN b cz (dhH b-2)) 3),R) (by exact⟨hRP2,hi6,by omega,hnx.symm.trans hdh⟩) (by show k-1<k;omega) (wkf id (wS<|wS<|wS<|wE (e:=(be (by omega)))<|wX<|wX<|wX<|wP<|by(iterate 12 refine wF ?_);exact wN))
  ·skip
   have c3P:=of_decide_eq_false c3
   have hfin:=Gz hdh (by omega)
   refine aU (sq (rg ?_))
   refine z ?_ (h:=fun Z=>ab (xs:=[(.sl 18 0 ((bF (3+(cuX b (cuN b (cu0 b) 3) 4)) (3+(cuX b (cuN b (cuN b (cu0 b) 3) 4) 3))).length):A)]) Z jf rfl (by decide) rfl)
   refine z ?_ (h:=fun _=>aE (cells:=[(.sl 18 0 ((bF (3+(cuX b (cuN b (cu0 b) 3) 4)) (3+(cuX b (cuN b (cuN b (cu0 b) 3) 4) 3))).length):A)]) jf xt (by exact rfl) (by decide) (by exact ob1 rfl) (by exact Nat.le_of_ble_eq_true rfl) (by exact rfl))
   refine nl (aC ?_)
   exact⟨[kP 2 2 0,kO 2 29 1 true [(.sl 900 0 ((bF (3+(cuX b (cuN b (cu0 b) 3) 4)) (3+(cuX b (cuN b (cuN b (cu0 b) 3) 4) 3))).length):A)],kO 900 3 1 true (pl (isl R)),kF 4,kF 9,kF 11,kF 13,kF 16,kF 18,kF 20,kF 29,kF 31,kF 34,kF 59,kF 60,kF 61,kF 62,kF 63],wkf (aX [(900,18)]) (wS<|wX<|wP<|by(iterate 15 refine wF ?_);exact wN),⟨bT (c:=pl (isl R)) (by kernel_rfl) (congrArg (fun z=>pl (isl z)) (by exact hfin)),trivial⟩,dV (h:=2) ⟨29,1,true,[(.sl 900 0 ((bF (3+(cuX b (cuN b (cu0 b) 3) 4)) (3+(cuX b (cuN b (cuN b (cu0 b) 3) 4) 3))).length):A)]⟩ (by kernel_rfl) (by kernel_rfl) jf (Nat.le_of_ble_eq_true rfl) (by(exact congrArg (fun z:Nat=>[A.sl 900 0 z]) (by first |(rw[hrl,←hfin,hRl];done) |(rw[hdc];done))))⟩
 ·skip
  have hdc:=dch_1 (of_decide_eq_false c1)
  refine sk (sq (rg (zm ?_)))
  refine z ?_ (h:=fun Z=>aK (d:=59) (f:=119) (os:=[(.o 4,some (.o ⟨100,3,true,[(.slv b.length 1 (ysl b):A),aI (((cuN b (cu0 b) 3).i:Nat):Int),aI ((cuN b (cu0 b) 3).h)]⟩))]) (os':=[(.o 4,some (.o ⟨100,3,true,[(.slv b.length 1 (ysl b):A),aI ((((r3A b (cuN b (cu0 b) 3)).2).i:Nat):Int),aI (((r3A b (cuN b (cu0 b) 3)).2).h)]⟩)),(.o 9,some (.o ⟨3,1,true,pl (isl ((r3A b (cuN b (cu0 b) 3)).1))⟩))]) (r:=V.b (.agg [(.sl 9 0 ((r3A b (cuN b (cu0 b) 3)).1.length):A)])) (bs:=[.a (.ptr 4 0)]) (keep:=[4]) (new:=[9]) (dead:=[]) Z (FnO.ren' (tM b (cuN b (cu0 b) 3) (by omega) (by omega) (by omega)) (aX [(1,4),(900,9)]) rfl rfl (by kernel_rfl) (by kernel_rfl) ⟨ocs (by kernel_rfl),bh (fun _=>rfl),trivial⟩ (by kernel_rfl) rfl (by simp only[bv,Ob.ren,aY,ak,am,aj,aO,aN];first |done |rfl) (by simp only[bv,Ob.ren,aY,ak,am,aj,aO,aN];first |done |rfl) rfl rfl) (by kernel_rfl) ⟨ocs (by kernel_rfl),bh (fun _=>rfl),trivial⟩ (by kernel_rfl) (ArgOs.cons (ArgO.slot 58 (.a (.ptr 4 0))) (ArgOs.nil)))
  refine z ?_ (h:=fun _=>aE (cells:=[(.sl 9 0 ((r3A b (cuN b (cu0 b) 3)).1.length):A)]) jf xt (by exact rfl) (by decide) (by exact ob1 rfl) (by exact Nat.le_of_ble_eq_true rfl) (by exact rfl))
  refine nl (aC ?_)
  exact⟨[kP 2 2 0,kO 2 29 1 true [(.sl 900 0 ((r3A b (cuN b (cu0 b) 3)).1.length):A)],kO 900 3 1 true (pl (isl ((r3A b (cuN b (cu0 b) 3)).1))),kF 4,kF 9,kF 11,kF 13,kF 16,kF 18,kF 20,kF 29,kF 31,kF 34,kF 59,kF 60,kF 61,kF 62,kF 63],wkf (aX [(900,9)]) (wS<|wX<|wP<|by(iterate 15 refine wF ?_);exact wN),⟨bT (c:=pl (isl ((r3A b (cuN b (cu0 b) 3)).1))) (by kernel_rfl) (congrArg (fun z=>pl (isl z)) (by exact hdc.symm)),trivial⟩,dV (h:=2) ⟨29,1,true,[(.sl 900 0 ((r3A b (cuN b (cu0 b) 3)).1.length):A)]⟩ (by kernel_rfl) (by kernel_rfl) jf (Nat.le_of_ble_eq_true rfl) (by(exact congrArg (fun z:Nat=>[A.sl 900 0 z]) (by first |(rw[hrl,←hfin,hRl];done) |(rw[hdc];done))))⟩
end Cl
end Go.Proofs.YtgmkkfdnmdohlaaGreatDoor
