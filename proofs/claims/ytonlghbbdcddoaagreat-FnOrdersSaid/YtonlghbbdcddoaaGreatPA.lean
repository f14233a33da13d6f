/- Parts put together: P3, P7, P8. -/
import Derived.Test.YtonlghbbdcddoaaGreatCM
import Derived.Test.YtonlghbbdcddoaaGreatClB
import Derived.Test.YtonlghbbdcddoaaGreatEB
import Derived.Test.YtonlghbbdcddoaaGreatWE
set_option maxHeartbeats 4000000
set_option maxRecDepth 100000
namespace Go.Proofs.YtonlghbbdcddoaaGreat
namespace Cl
open Go.ChangeShapes Go.WideShapes Go.ChangeAt Go.RowKit
def tR (b:List Nat):Nat→Nat
 | 0=>33007+b.length
 | i+1=>(tR b i*131+gY b i+7)&&&1073741823
def newH (b:List Nat):Nat:=tR b (min b.length 4000)
theorem Kz (b:List Nat) (i:Nat):tR b i≤1073741823+(33007+b.length):=by
 cases i with
 | zero=>unfold tR;omega
 | succ i=>unfold tR;exact Nat.le_trans Nat.and_le_right (by omega)
def hN (h:Int):Int:=aW (mW h 6364136223846793005) 1442695040888963407
def shrA (h:Int):Int:=h.fdiv (2^ 33)
def shrB (h:Int):Int:=h.fdiv (2^ 45)
def xrA (h:Int):Int:=IntKind.i64.wrap ((BitVec.ofInt 64 (shrA h))^^^ (BitVec.ofInt 64 (shrB h))).toNat
def mix (h:Int):Nat:=((BitVec.ofInt 64 (xrA h))&&&(BitVec.ofInt 64 255)).toNat
theorem BW (h:Int):mix h<256:=by
 unfold mix
 rw[BitVec.toNat_and]
 exact Nat.lt_of_le_of_lt Nat.and_le_right (by decide)
theorem Na (h:Int):IntKind.i64.wrap ((BitVec.ofInt IntKind.i64.bits (xrA h))&&&(BitVec.ofInt IntKind.i64.bits 255)).toNat=((mix h:Nat):Int):=qq (n:=mix h) (by have:=BW h;omega)
def byX (b:List Nat) (i:Nat) (h:Int):Nat:=if i<b.length then(mix (hN h)+gY b i)&&&255 else mix (hN h)
def bI (b:List Nat) (i:Nat):Nat:=if i<b.length then i+1 else i
theorem bX_lt (b:List Nat) (i:Nat) (h:Int):byX b i h<256:=by
 unfold byX;split
 ·exact Nat.lt_of_le_of_lt Nat.and_le_right (by decide)
 ·exact BW _
theorem wY {b:List Nat} {i:Nat} (h:i≤b.length):bI b i≤b.length:=by unfold bI;split<;>omega
def big4 (b:List Nat) (i:Nat) (h:Int):Nat:=byX b i h*16777216+byX b (bI b i) (hN h)*65536+byX b (bI b (bI b i)) (hN (hN h))*256+byX b (bI b (bI b (bI b i))) (hN (hN (hN h)))
def beX (b:List Nat) (i:Nat) (h:Int) (n:Nat):Nat:=if n≤256 then byX b i h%n else big4 b i h%n
def beI (b:List Nat) (i n:Nat):Nat:=if n≤256 then bI b i else bI b (bI b (bI b (bI b i)))
def beH (h:Int) (n:Nat):Int:=if n≤256 then hN h else hN (hN (hN (hN h)))
theorem uB {b:List Nat} {i:Nat} {h:Int} {n:Nat} (hn:0<n):beX b i h n<n:=by unfold beX;split<;>exact Nat.mod_lt _ hn
theorem Mi {b:List Nat} {i n:Nat} (h:i≤b.length):beI b i n≤b.length:=by
 unfold beI;split
 ·exact wY h
 ·exact wY (wY (wY (wY h)))
theorem be_1 {b:List Nat} {i:Nat} {h:Int} {n:Nat} (hn:n≤256):beX b i h n=byX b i h%n∧beI b i n=bI b i∧beH h n=hN h:=by unfold beX beI beH;rw[if_pos hn,if_pos hn,if_pos hn];exact⟨rfl,rfl,rfl⟩
theorem be_4 {b:List Nat} {i:Nat} {h:Int} {n:Nat} (hn:¬n≤256):beX b i h n=big4 b i h%n∧beI b i n=bI b (bI b (bI b (bI b i)))∧beH h n=hN (hN (hN (hN h))):=by unfold beX beI beH;rw[if_neg hn,if_neg hn,if_neg hn];exact⟨rfl,rfl,rfl⟩
def rc (w:Nat):Int:=((2^ w:Nat):Int)-1
def ck (w h:Nat):List Int:=List.replicate h (rc w)
structure Cu where
 i:Nat
 h:Int
def cuN (b:List Nat) (c:Cu) (n:Nat):Cu:=⟨beI b c.i n,beH c.h n⟩
def cuX (b:List Nat) (c:Cu) (n:Nat):Nat:=beX b c.i c.h n
def bitR (R:List Int) (y x:Nat):Bool:=(gI R y).toNat.testBit x
def r3L (b:List Nat) (w hh:Nat):Nat→Cu→List Int→List Int × Cu
  | 0,c,R=>(R,c)
  | k+1,c,R=>
    r3L b w hh k (cuN b (cuN b c hh) w) (if bitR R (cuX b c hh) (cuX b (cuN b c hh) w)=true then R.set (cuX b c hh) (gI R (cuX b c hh)-((2^ (cuX b (cuN b c hh) w):Nat):Int))else R)
def r3E (b:List Nat) (w hh:Nat) (R:List Int) (c:Cu):List Int × Cu:=
 if w<6 then(if cuX b c 3=0 then(R.set (cuX b (cuN b c 3) hh) ((((gI R (cuX b (cuN b c 3) hh)).toNat|||(3<<<w):Nat)):Int),cuN b (cuN b c 3) hh)else(R,cuN b c 3))else(R,c)
def r3W (b:List Nat) (c:Cu):Nat:=1+cuX b c 6
def r3H (b:List Nat) (c:Cu):Nat:=1+cuX b (cuN b c 6) 5
def r3M (b:List Nat) (c:Cu):List Int × Cu:=r3L b (r3W b c) (r3H b c) (cuX b (cuN b (cuN b c 6) 5) 5) (cuN b (cuN b (cuN b c 6) 5) 5) (ck (r3W b c) (r3H b c))
def r3 (b:List Nat) (c:Cu):List Int × Cu:=r3E b (r3W b c) (r3H b c) (r3M b c).1 (r3M b c).2
structure RP (n:Nat) (R:List Int):Prop where
 ln:R.length=n
 bd:∀ k,k<n→0≤gI R k∧gI R k<256
theorem JM {R:List Int} {k j:Nat} {x:Int} (h:k<R.length):gI (R.set k x) j=if k=j then x else gI R j:=by
 unfold gI;rw[List.getD_eq_getElem?_getD,List.getD_eq_getElem?_getD,List.getElem?_set]
 split
 ·rename_i e;subst e;first |rfl |(rw[if_pos h];rfl)
 ·rfl
theorem RP.set {n:Nat} {R:List Int} (h:RP n R) {k:Nat} (hk:k<n) {x:Int} (hx:0≤x∧x<256):RP n (R.set k x):=
 ⟨by rw[List.length_set];exact h.ln,fun j hj=>by
  rw[JM (by rw[h.ln];exact hk)]
  split
  ·exact hx
  ·exact h.bd j hj⟩
theorem RP.rect {w h:Nat} (hw:w≤8):RP h (ck w h):=by
 have hp:(2:Nat)^ w≤2^ 8:=Nat.pow_le_pow_right (by decide) hw
 have hp0:0<2^ w:=Nat.two_pow_pos w
 refine⟨by simp [ck],fun k hk=> ?_⟩
 have e:gI (ck w h) k=rc w:=by
  rw[cQ (by simpa [ck] using hk)];simp [ck]
 rw[e];unfold rc;omega
theorem Jq {a x:Nat} (h:a.testBit x=true):2^ x≤a:=Nat.ge_two_pow_of_testBit h
theorem RP.take {n:Nat} {R:List Int} (h:RP n R) {y x:Nat} (hy:y<n) (hb:bitR R y x=true):RP n (R.set y (gI R y-((2^ x:Nat):Int))):=by
 have h1:=h.bd y hy
 have h2:2^ x≤(gI R y).toNat:=Jq hb
 have h3:0<2^ x:=Nat.two_pow_pos x
 exact h.set hy (by omega)
theorem RP.r3L {b:List Nat} {w hh:Nat} (hh0:0<hh):∀ (k:Nat) (c:Cu) (R:List Int),RP hh R→RP hh (r3L b w hh k c R).1:=by
  intro k
  induction k with
  | zero=>intro c R h;exact h
  | succ k ih=>
    intro c R h
    unfold Cl.r3L
    refine ih _ _ ?_
    split
    · rename_i hb;exact h.take (uB hh0) hb
    · exact h
theorem RP.or {n:Nat} {R:List Int} (h:RP n R) {y:Nat} (hy:y<n) {w:Nat} (hw:w<6):RP n (R.set y ((((gI R y).toNat|||(3<<<w):Nat)):Int)):=by
 have h1:=h.bd y hy
 have h3:3<<<w<2^ 8:=by
  rw[Nat.shiftLeft_eq]
  have:(2:Nat)^ w≤2^ 5:=Nat.pow_le_pow_right (by decide) (by omega)
  omega
 have:=Nat.or_lt_two_pow (n:=8) (x:=(gI R y).toNat) (y:=3<<<w) (by omega) h3
 exact h.set hy (by omega)
theorem RP.r3E {b:List Nat} {w hh:Nat} (hh0:0<hh) {R:List Int} {c:Cu} (h:RP hh R):RP hh (r3E b w hh R c).1:=by
 unfold Cl.r3E
 split
 ·rename_i hw
  split
  ·exact h.or (uB hh0) hw
  ·exact h
 ·exact h
theorem LQ (b:List Nat) (c:Cu):(1≤r3W b c∧r3W b c≤6)∧(1≤r3H b c∧r3H b c≤5):=by
 have h1:cuX b c 6<6:=uB (by decide)
 have h2:cuX b (cuN b c 6) 5<5:=uB (by decide)
 unfold r3W r3H;omega
theorem LP (b:List Nat) (c:Cu):RP (r3H b c) (r3 b c).1:=by
 have hw:=LQ b c
 unfold r3 r3M
 exact RP.r3E (by omega) (RP.r3L (by omega) _ _ _ (RP.rect (by omega)))
theorem RP.ok {n:Nat} {R:List Int} (h:RP n R) (hn:n≤8):aU R=true:=by
 unfold aU fE
 rw[decide_eq_true (by rw[h.ln];exact hn),Bool.true_and]
 rw[List.all_eq_true]
 intro x hx
 obtain⟨k,hk,rfl⟩:=List.getElem_of_mem hx
 have:=h.bd k (by rw[←h.ln];exact hk)
 rw[cQ hk]at this
 exact bw.2 (by omega)
theorem Ig (b:List Nat) (c:Cu):aU (r3 b c).1=true:=(LP b c).ok (by have:=LQ b c;omega)
theorem Ii:∀ x,x<2→∀ y,y<3→(aU (ck (2+2*x) (2+y))=true∧1≤cnt (ag (ck (2+2*x) (2+y)))∧cnt (ag (ck (2+2*x) (2+y)))≤300):=by decide+kernel
theorem No (b:List Nat) (c:Cu):(r3 b c).1.length≤8:=(fD (Ig b c)).1
theorem gM {b:List Nat} {c:Cu} {n:Nat} (h:c.i≤b.length):(cuN b c n).i≤b.length:=Mi h
theorem r3L_i {b:List Nat} {w hh:Nat}:∀ (k:Nat) (c:Cu) (R:List Int),c.i≤b.length→(r3L b w hh k c R).2.i≤b.length:=by
 intro k
 induction k with
 | zero=>intro c R h;exact h
 | succ k ih=>intro c R h;unfold r3L;exact ih _ _ (gM (gM h))
theorem r3_i {b:List Nat} {c:Cu} (h:c.i≤b.length):(r3 b c).2.i≤b.length:=by
 have h1:(r3M b c).2.i≤b.length:=r3L_i _ _ _ (gM (gM (gM h)))
 unfold r3 r3E
 split
 ·split
  ·exact gM (gM h1)
  ·exact gM h1
 ·exact h1
def cu0 (b:List Nat):Cu:=⟨0,((newH b:Nat):Int)⟩
def cuB (b:List Nat) (c:Cu):Cu:=⟨bI b c.i,hN c.h⟩
def cuV (b:List Nat) (c:Cu):Nat:=byX b c.i c.h
def cuV4 (b:List Nat) (c:Cu):Nat:=cuV b c*16777216+cuV b (cuB b c)*65536+cuV b (cuB b (cuB b c))*256+cuV b (cuB b (cuB b (cuB b c)))
theorem yk (b:List Nat) (c:Cu):cuV b c<256:=bX_lt _ _ _
theorem BD {b:List Nat} {c:Cu} (h:c.i≤b.length):(cuB b c).i≤b.length:=wY h
theorem lN {b:List Nat} {c:Cu} {n:Nat} (hn:0<n):cuX b c n<n:=uB hn
theorem cuN_1 {b:List Nat} {c:Cu} {n:Nat} (hn:n≤256):cuN b c n=cuB b c∧cuX b c n=cuV b c%n:=by
 obtain⟨h1,h2,h3⟩:=be_1 (b:=b) (i:=c.i) (h:=c.h) hn
 unfold cuN cuX cuB cuV;rw[h1,h2,h3];exact⟨rfl,rfl⟩
theorem cuN_4 {b:List Nat} {c:Cu} {n:Nat} (hn:¬n≤256):cuN b c n=cuB b (cuB b (cuB b (cuB b c)))∧cuX b c n=cuV4 b c%n:=by
 obtain⟨h1,h2,h3⟩:=be_4 (b:=b) (i:=c.i) (h:=c.h) hn
 unfold cuN cuX;rw[h1,h2,h3];exact⟨rfl,rfl⟩
theorem kM {c d:Cu} (h:c=d) (n:Nat) (xs:List Value):[A.slv n 1 xs,.val (.int .i64 ((c.i:Nat):Int)),.val (.int .i64 c.h)]=[A.slv n 1 xs,.val (.int .i64 ((d.i:Nat):Int)),.val (.int .i64 d.h)]:=by rw[h]
theorem Nm {b:List Nat} {w hh k:Nat} {c:Cu} {R:List Int} (hk:0<k) (hb:bitR R (cuX b c hh) (cuX b (cuN b c hh) w)=true):r3L b w hh k c R=r3L b w hh (k-1) (cuN b (cuN b c hh) w) (R.set (cuX b c hh) (gI R (cuX b c hh)-((2^ (cuX b (cuN b c hh) w):Nat):Int))):=by
 obtain⟨m,rfl⟩:∃ m,k=m+1:=⟨k-1,by omega⟩
 rw[r3L,if_pos hb];rfl
theorem KI {b:List Nat} {w hh k:Nat} {c:Cu} {R:List Int} (hk:0<k) (hb:bitR R (cuX b c hh) (cuX b (cuN b c hh) w)=false):r3L b w hh k c R=r3L b w hh (k-1) (cuN b (cuN b c hh) w) R:=by
 obtain⟨m,rfl⟩:∃ m,k=m+1:=⟨k-1,by omega⟩
 rw[r3L,if_neg (by rw[hb];simp)];rfl
theorem Nn {b:List Nat} {c c2:Cu} {w hh k:Nat} {R:List Int} (h:r3L b w hh k c2 R=r3M b c) (hk:k=0):r3M b c=(R,c2):=by subst hk;exact h.symm
theorem r3_a {b:List Nat} {c c2:Cu} {R:List Int} (h:r3M b c=(R,c2)) (hw:¬1+cuX b c 6<6):r3 b c=(R,c2):=by
 unfold r3;rw[h];unfold r3E;rw[if_neg (show ¬r3W b c<6 from hw)]
theorem r3_b {b:List Nat} {c c2:Cu} {R:List Int} (h:r3M b c=(R,c2)) (hw:1+cuX b c 6<6) (h3:¬cuX b c2 3=0):r3 b c=(R,cuN b c2 3):=by
 unfold r3;rw[h];unfold r3E;rw[if_pos (show r3W b c<6 from hw),if_neg (show ¬cuX b (R,c2).2 3=0 from h3)]
theorem r3_c {b:List Nat} {c c2:Cu} {R:List Int} (h:r3M b c=(R,c2)) (hw:1+cuX b c 6<6) (h3:cuX b c2 3=0):r3 b c=(R.set (cuX b (cuN b c2 3) (1+cuX b (cuN b c 6) 5)) ((((gI R (cuX b (cuN b c2 3) (1+cuX b (cuN b c 6) 5))).toNat|||(3<<<(1+cuX b c 6)):Nat)):Int),cuN b (cuN b c2 3) (1+cuX b (cuN b c 6) 5)):=by
 unfold r3;rw[h];unfold r3E;rw[if_pos (show r3W b c<6 from hw),if_pos (show cuX b (R,c2).2 3=0 from h3)];rfl
theorem gp:ce Tryz.prog 26 0=some 0:=by kernel_rfl
theorem tw:ce Tryz.prog 58 0=some 0:=by kernel_rfl
theorem lz:ce Tryz.prog 58 1=some 1:=by kernel_rfl
theorem lA:ce Tryz.prog 58 2=some 2:=by kernel_rfl
theorem oh:(Tryz.prog.info? 3).map (·.size)=some 1:=by kernel_rfl
theorem AW:(Tryz.prog.info? 5).map (·.size)=some 1:=by kernel_rfl
theorem xN:TI Tryz.prog 22 false 1:=⟨⟨_,Tryz.underlying22,rfl⟩,by kernel_rfl⟩
theorem jz:TI Tryz.prog 24 false 1:=⟨⟨_,Tryz.underlying24,rfl⟩,by kernel_rfl⟩
theorem ep:TI Tryz.prog 26 true 1:=⟨⟨_,Tryz.underlying26,rfl⟩,by kernel_rfl⟩
theorem ft:TI Tryz.prog 3 false 1:=⟨⟨_,Tryz.underlying3,rfl⟩,by kernel_rfl⟩
theorem AX:TI Tryz.prog 5 false 1:=⟨⟨_,Tryz.underlying5,rfl⟩,by kernel_rfl⟩
theorem kJ:Tryz.prog.underlying 22=some (.slice 5):=Tryz.underlying22
theorem jA:Tryz.prog.underlying 24=some (.slice 3):=Tryz.underlying24
theorem AY:Tryz.prog.underlying 3=some (.int .i64):=Tryz.underlying3
theorem AZ:Tryz.prog.underlying 5=some (.int .u8):=Tryz.underlying5
theorem po:ZI Tryz.prog 26 (.agg #[.slice none 0 0]) 1 24:=by unfold ZI;kernel_rfl
theorem Ba:ZI Tryz.prog 3 (.int .i64 0) 1 8:=by unfold ZI;kernel_rfl
theorem wb (b:List Nat) (hb:b.length≤1048576) (hy:∀ x∈b,x<256):FnO Tryz.prog 16 [.a (.slv b.length 1 (ysl b))] [] (V.p 900 0) [(.o 900,some (.o ⟨58,3,true,[(.slv b.length 1 (ysl b):A),aI (((cu0 b).i:Nat):Int),aI ((cu0 b).h)]⟩))] []:=by
 refine co (N:=32) Tryz.func16 rfl (by kernel_rfl) rfl (Nat.le_of_ble_eq_true rfl) rfl rfl (by kernel_rfl) (by kernel_rfl) trivial [6,10,31] (mn rfl) (fun W own kp im0=> ?_)
 show Wp _ _ _ [kV 0 (V.b (.a (.slv b.length 1 (ysl b)))),kF 6,kF 10,kF 31]
 refine sq (rg (zk (nl (sq (rg (zm ?_))))))
 refine z ?_ (h:=fun Z=>lnV Z kJ)
 refine z ?_ (h:=fun Z=>ab Z vc vt (rA (by omega) (by omega)))
 refine za (nl (sq (sq (rg (zk (nl (bkk ?_)))))))
 refine bf (fun(k:Nat)=>k≤b.length∧k≤4000) (fun(k:Nat)=>[kV 0 (V.b (.a (.slv b.length 1 (ysl b)))),kI 3 (((tR b k):Nat):Int),kI 4 ((k:Nat):Int),kF 6,kF 10,kF 31]) (fun(k:Nat)=>b.length-k) ((0:Nat)) (by exact⟨Nat.zero_le _,Nat.zero_le _⟩) (wkf id (wS<|wE (e:=(aO (by rfl)))<|wE (e:=(aO (by rfl)))<|wF<|wF<|wF<|wN)) ?_
 rintro k inv1
 replace inv1:k≤b.length∧k≤4000:=inv1
 obtain⟨hk1,hk2⟩:=inv1
 have hnb:=Kz b k
 refine sq (sq ?_)
 rcases Bool.eq_false_or_eq_true (decide (((k:Nat):Int)<((b.length:Nat):Int)))with c2 |c2
 ·skip
  have c2P:=of_decide_eq_true c2
  have hgy:=GW hy k
  refine rg (zm (zm ?_))
  refine z ?_ (h:=fun Z=>lnV Z kJ)
  refine z ?_ (h:=fun Z=>ab Z vt vt (bP (c:=true) c2))
  refine zm ?_
  refine zg ?_ (h:=fun Z=>ae rfl rfl (mt Z))
  refine zg ?_ (h:=fun Z=>ae rfl rfl (ab Z vt vc (bP rfl)))
  refine z ?_ (h:=fun Z=>al Z vt xt)
  refine nl ?_
  refine wi (fun c3=> ?_) (fun c3=> ?_)
  ·skip
   have c3P:=of_decide_eq_true c3
   have hgy:=GW hy k
   refine sk (sq (bkk (rg (zm ?_))))
   refine z ?_ (h:=fun Z=>ab Z vt vc (rM (by omega) (by omega)))
   refine zm (zm ?_)
   refine z ?_ (h:=fun Z=>ixv Z kJ AW vt (hlt:=(by omega)))
   refine z ?_ (h:=fun Z=>uY Z AX (by omega))
   refine z ?_ (h:=fun Z=>rE Z vt (CC (c:=(((gY b k):Nat):Int)) AZ AY (LZ (by omega) (by omega))))
   refine z ?_ (h:=fun Z=>ab Z vt vt (rA (by omega) (by omega)))
   refine z ?_ (h:=fun Z=>ab Z vt vc (rA (by omega) (by omega)))
   refine z ?_ (h:=fun Z=>ab Z vt vc (iK (c:=(((((((tR b k)*131)+(gY b k))+7)&&&1073741823):Nat):Int)) (tF (m:=((((tR b k)*131)+(gY b k))+7)) (n:=1073741823) (by rfl) rfl (by omega) (by omega))))
   refine za (nl (rg (zm ?_)))
   refine z ?_ (h:=fun Z=>ab Z vt vc (rA (by omega) (by omega)))
   refine za (nl ?_)
   exact ar ((k+1)) (by exact⟨by omega,by omega⟩) (by show b.length-(k+1)<b.length-k;omega) (wkf id (wS<|wE (e:=(aO (by rfl)))<|wE (e:=(aO (by rfl)))<|wF<|wF<|wF<|wN))
  ·skip
   have c3P:=of_decide_eq_false c3
   refine aJ (sq (rg (zm (zm ?_))))
   refine z ?_ (h:=fun Z=>sV Z (by exact⟨0,0,_,.inr ⟨_,_,rfl⟩⟩) vt (fun _ _ _=>by kernel_rfl))
   refine z ?_ (h:=fun Z=>aM (h:=31) Z xt (by exact ob1 rfl))
   refine za (nl (aq ?_))
   exact⟨[kP 2 900 0,kO 900 58 3 true [(.slv b.length 1 (ysl b):A),aI 0,aI (((tR b k):Nat):Int)],kF 6,kF 10,kF 31],wkf (bn [(900,31)]) (wS<|wX<|wF<|wF<|wF<|wN),⟨cw (c:=[(.slv b.length 1 (ysl b):A),aI 0,aI (((tR b k):Nat):Int)]) (by kernel_rfl) (by(have e:k=min b.length 4000:=by omega);subst e;rfl),trivial⟩,VO.tmp 2 (.a (.ptr 900 0)) (by kernel_rfl)⟩
 ·skip
  have c2P:=of_decide_eq_false c2
  refine rg (zm (zm ?_))
  refine z ?_ (h:=fun Z=>lnV Z kJ)
  refine z ?_ (h:=fun Z=>ab Z vt vt (bP (c:=false) c2))
  refine zm (zo (zo ?_))
  refine z ?_ (h:=fun Z=>ao Z vt xc)
  refine nl (wf (aJ (sq (rg (zm (zm ?_))))))
  refine z ?_ (h:=fun Z=>sV Z (by exact⟨0,0,_,.inr ⟨_,_,rfl⟩⟩) vt (fun _ _ _=>by kernel_rfl))
  refine z ?_ (h:=fun Z=>aM (h:=31) Z xt (by exact ob1 rfl))
  refine za (nl (aq ?_))
  exact⟨[kP 2 900 0,kO 900 58 3 true [(.slv b.length 1 (ysl b):A),aI 0,aI (((tR b k):Nat):Int)],kF 6,kF 10,kF 31],wkf (bn [(900,31)]) (wS<|wX<|wF<|wF<|wF<|wN),⟨cw (c:=[(.slv b.length 1 (ysl b):A),aI 0,aI (((tR b k):Nat):Int)]) (by kernel_rfl) (by(have e:k=min b.length 4000:=by omega);subst e;rfl),trivial⟩,VO.tmp 2 (.a (.ptr 900 0)) (by kernel_rfl)⟩
theorem fJ (b:List Nat) (c:Cu) (hb:b.length≤1048576) (hy:∀ x∈b,x<256) (hi:c.i≤b.length):FnO Tryz.prog 52 [.a (.ptr 1 0)] [(.o 1,some (.o ⟨58,3,true,[(.slv b.length 1 (ysl b):A),aI ((c.i:Nat):Int),aI c.h]⟩))] (V.v (.int .i64 (((cuV b c):Nat):Int))) [(.o 1,some (.o ⟨58,3,true,[(.slv b.length 1 (ysl b):A),aI (((cuB b c).i:Nat):Int),aI ((cuB b c).h)]⟩))] [1]:=by
 have hml:=BW (hN c.h)
 have hgy:=GW hy c.i
 refine co (N:=58) Tryz.func52 rfl (by kernel_rfl) rfl (Nat.le_of_ble_eq_true rfl) rfl rfl (by kernel_rfl) (by kernel_rfl) ⟨ocs (by kernel_rfl),trivial⟩ [33] (mn rfl) (fun W own kp im0=> ?_)
 show Wp _ _ _ [kP 0 1 0,kO 1 58 3 true [(.slv b.length 1 (ysl b):A),aI ((c.i:Nat):Int),aI c.h],kF 33]
 refine sq (rg (zk (nl (sq (rg (zm (zm ?_)))))))
 refine z ?_ (h:=fun Z=>fb Z)
 refine z ?_ (h:=fun Z=>ak (off':=2) Z lA rfl)
 refine z ?_ (h:=fun Z=>ai (x:= .val (.int .i64 c.h)) Z ft (by exact rfl))
 refine z ?_ (h:=fun Z=>ab Z vt vc (DI (c:=(mW c.h 6364136223846793005)) rfl))
 refine z ?_ (h:=fun Z=>ab Z vt vc (DH (c:=(aW (mW c.h 6364136223846793005) 1442695040888963407)) rfl))
 refine z ?_ (h:=fun Z=>fb Z)
 refine z ?_ (h:=fun Z=>ak (off':=2) Z lA rfl)
 refine z ?_ (h:=fun _=>aw (cells:=[(.slv b.length 1 (ysl b):A),aI ((c.i:Nat):Int),aI (aW (mW c.h 6364136223846793005) 1442695040888963407)]) ft xt (by exact rfl) (by decide) (by exact ob1 rfl) (by exact Nat.le_of_ble_eq_true rfl) (by exact rfl))
 refine nl (sq (cg (zdm ?_)))
 refine zd ?_ (h:=fun Z=>fb Z)
 refine zd ?_ (h:=fun Z=>ak (off':=2) Z lA rfl)
 refine zd ?_ (h:=fun Z=>ai (x:= .val (.int .i64 (aW (mW c.h 6364136223846793005) 1442695040888963407))) Z ft (by exact rfl))
 refine zd ?_ (h:=fun Z=>ab Z vt vc (oj (c:=(shrA (hN c.h))) (by omega) rfl))
 refine zdm ?_
 refine zd ?_ (h:=fun Z=>fb Z)
 refine zd ?_ (h:=fun Z=>ak (off':=2) Z lA rfl)
 refine zd ?_ (h:=fun Z=>ai (x:= .val (.int .i64 (aW (mW c.h 6364136223846793005) 1442695040888963407))) Z ft (by exact rfl))
 refine zd ?_ (h:=fun Z=>ab Z vt vc (oj (c:=(shrB (hN c.h))) (by omega) rfl))
 refine zd ?_ (h:=fun Z=>ab Z vt vt (r_xor (c:=(xrA (hN c.h))) rfl))
 refine zd ?_ (h:=fun Z=>ab Z vt vc (iK (c:=((mix (hN c.h):Nat):Int)) (Na _)))
 refine zd ?_ (h:=fun Z=>gt Z)
 refine bJ (sq (sq (cg (zdm ?_))))
 refine zd ?_ (h:=fun Z=>fb Z)
 refine zd ?_ (h:=fun Z=>ak (off':=1) Z lz rfl)
 refine zd ?_ (h:=fun Z=>ai (x:= .val (.int .i64 ((c.i:Nat):Int))) Z ft (by exact rfl))
 refine zdm ?_
 refine zd ?_ (h:=fun Z=>fb Z)
 refine zd ?_ (h:=fun Z=>ak (off':=0) Z tw rfl)
 refine zd ?_ (h:=fun Z=>ai (x:= .slv b.length 1 (ysl b)) Z xN (by exact rfl))
 refine zd ?_ (h:=fun Z=>lnV Z kJ)
 refine zd ?_ (h:=fun Z=>ab Z vt vt (bP rfl))
 refine bJ ?_
 refine wi (fun c1=> ?_) (fun c1=> ?_)
 ·skip
  have c1P:=of_decide_eq_true c1
  refine sq (cg (zdm (zdm ?_)))
  refine zd ?_ (h:=fun Z=>fb Z)
  refine zd ?_ (h:=fun Z=>ak (off':=0) Z tw rfl)
  refine zd ?_ (h:=fun Z=>ai (x:= .slv b.length 1 (ysl b)) Z xN (by exact rfl))
  refine zdm ?_
  refine zd ?_ (h:=fun Z=>fb Z)
  refine zd ?_ (h:=fun Z=>ak (off':=1) Z lz rfl)
  refine zd ?_ (h:=fun Z=>ai (x:= .val (.int .i64 ((c.i:Nat):Int))) Z ft (by exact rfl))
  refine zd ?_ (h:=fun Z=>ixv Z kJ AW vt (hlt:=(by omega)))
  refine zd ?_ (h:=fun Z=>uY Z AX (by omega))
  refine zd ?_ (h:=fun Z=>rE Z vt (CC (c:=(((gY b c.i):Nat):Int)) AZ AY (LZ (by omega) (by omega))))
  refine zd ?_ (h:=fun Z=>ab Z vt vt (rA (by omega) (by omega)))
  refine zd ?_ (h:=fun Z=>ab Z vt vc (iK (c:=(((((mix (hN c.h))+(gY b c.i))&&&255):Nat):Int)) (tF (m:=((mix (hN c.h))+(gY b c.i))) (n:=255) (by rfl) rfl (by omega) (by omega))))
  refine zd ?_ (h:=fun Z=>gt Z)
  refine bJ (rg (zm (zm ?_)))
  refine z ?_ (h:=fun Z=>fb Z)
  refine z ?_ (h:=fun Z=>ak (off':=1) Z lz rfl)
  refine z ?_ (h:=fun Z=>ai (x:= .val (.int .i64 ((c.i:Nat):Int))) Z ft (by exact rfl))
  refine z ?_ (h:=fun Z=>ab Z vt vc (rA (by omega) (by omega)))
  refine z ?_ (h:=fun Z=>fb Z)
  refine z ?_ (h:=fun Z=>ak (off':=1) Z lz rfl)
  refine z ?_ (h:=fun _=>aw (cells:=[(.slv b.length 1 (ysl b):A),aI (((c.i:Nat):Int)+1),aI (aW (mW c.h 6364136223846793005) 1442695040888963407)]) ft xt (by exact rfl) (by decide) (by exact ob1 rfl) (by exact Nat.le_of_ble_eq_true rfl) (by exact rfl))
  refine nl (sq (rg (zm (za (nl (aq ?_))))))
  exact⟨_,dK,⟨cw (c:=[(.slv b.length 1 (ysl b):A),aI (((c.i:Nat):Int)+1),aI (aW (mW c.h 6364136223846793005) 1442695040888963407)]) (by kernel_rfl) (by(unfold cuB bI;rw[if_pos (by omega)];rfl)),trivial⟩,da 2 (.a (.val (.int .i64 (((((mix (hN c.h))+(gY b c.i))&&&255):Nat):Int)))) (.a (.val (.int .i64 (((cuV b c):Nat):Int)))) (by kernel_rfl) (congrArg (fun z:Nat=>B.a (.val (.int .i64 (z:Int)))) (by(unfold cuV byX;rw[if_pos (by omega)])))⟩
 ·skip
  have c1P:=of_decide_eq_false c1
  refine sk (sq (rg (zm (za (nl (aq ?_))))))
  exact⟨_,dK,⟨cw (c:=[(.slv b.length 1 (ysl b):A),aI ((c.i:Nat):Int),aI (aW (mW c.h 6364136223846793005) 1442695040888963407)]) (by kernel_rfl) (by(unfold cuB bI;rw[if_neg (by omega)];rfl)),trivial⟩,da 2 (.a (.val (.int .i64 ((mix (hN c.h):Nat):Int)))) (.a (.val (.int .i64 (((cuV b c):Nat):Int)))) (by kernel_rfl) (congrArg (fun z:Nat=>B.a (.val (.int .i64 (z:Int)))) (by(unfold cuV byX;rw[if_neg (by omega)])))⟩
theorem dk (b:List Nat) (c:Cu) (n:Nat) (hb:b.length≤1048576) (hy:∀ x∈b,x<256) (hi:c.i≤b.length) (hn:0<n) (hn2:n≤4294967296):FnO Tryz.prog 30 [.a (.ptr 1 0),.a (.val (.int .i64 ((n:Nat):Int)))] [(.o 1,some (.o ⟨58,3,true,[(.slv b.length 1 (ysl b):A),aI ((c.i:Nat):Int),aI c.h]⟩))] (V.v (.int .i64 (((cuX b c n):Nat):Int))) [(.o 1,some (.o ⟨58,3,true,[(.slv b.length 1 (ysl b):A),aI (((cuN b c n).i:Nat):Int),aI ((cuN b c n).h)]⟩))] [1]:=by
 have hv0:=yk b c
 have hv1:=yk b (cuB b c)
 have hv2:=yk b (cuB b (cuB b c))
 have hv3:=yk b (cuB b (cuB b (cuB b c)))
 have hi1:=BD hi
 have hi2:=BD hi1
 have hi3:=BD hi2
 refine co (N:=37) Tryz.func30 rfl (by kernel_rfl) rfl (Nat.le_of_ble_eq_true rfl) rfl rfl (by kernel_rfl) (by kernel_rfl) ⟨ocs (by kernel_rfl),trivial⟩ [14,18,20,22,24] (mn rfl) (fun W own kp im0=> ?_)
 show Wp _ _ _ [kP 0 1 0,kI 1 ((n:Nat):Int),kO 1 58 3 true [(.slv b.length 1 (ysl b):A),aI ((c.i:Nat):Int),aI c.h],kF 14,kF 18,kF 20,kF 22,kF 24]
 refine sq (rg (zk (nl (sq (sq (rg (zm ?_)))))))
 refine z ?_ (h:=fun Z=>ab Z vt vc (pM (c:=false) (decide_eq_false (by omega))))
 refine nl (wf (sk (sq (sq (rg (zm ?_))))))
 refine z ?_ (h:=fun Z=>ab Z vt vc (pM rfl))
 refine nl ?_
 refine wi (fun c1=> ?_) (fun c1=> ?_)
 ·skip
  have c1P:=of_decide_eq_true c1
  obtain⟨hN1,hX1⟩:=cuN_1 (b:=b) (c:=c) (n:=n) (by omega)
  refine sq (rg (zm ?_))
  refine z ?_ (h:=fun Z=>bo (d:=14) (f:=52) (os:=[(.o 1,some (.o ⟨58,3,true,[(.slv b.length 1 (ysl b):A),aI ((c.i:Nat):Int),aI c.h]⟩))]) (os':=[(.o 1,some (.o ⟨58,3,true,[(.slv b.length 1 (ysl b):A),aI (((cuB b c).i:Nat):Int),aI ((cuB b c).h)]⟩))]) (r:=V.v (.int .i64 (((cuV b c):Nat):Int))) (bs:=[.a (.ptr 1 0)]) (keep:=[1]) (new:=[]) (dead:=[]) Z ((fJ b c (by omega) (by omega) (by omega))) (by kernel_rfl) ⟨ocs (by kernel_rfl),trivial⟩ (by kernel_rfl) (ArgOs.cons (ArgO.slot 13 (.a (.ptr 1 0))) (ArgOs.nil)))
  refine zm ?_
  refine z ?_ (h:=fun Z=>ab Z vt vt (rh (c:=((((cuV b c):Nat):Int)%((n:Nat):Int))) (by omega) (remI (by omega))))
  refine za (nl (aq ?_))
  exact⟨_,dK,⟨cw (c:=[(.slv b.length 1 (ysl b):A),aI (((cuB b c).i:Nat):Int),aI ((cuB b c).h)]) (by kernel_rfl) (by exact kM hN1.symm _ _),trivial⟩,da 4 (.a (.val (.int .i64 ((((cuV b c):Nat):Int)%((n:Nat):Int))))) (.a (.val (.int .i64 (((cuX b c n):Nat):Int)))) (by kernel_rfl) (congrArg (fun z:Int=>B.a (.val (.int .i64 z))) (by omega))⟩
 ·skip
  have c1P:=of_decide_eq_false c1
  obtain⟨hN1,hX1⟩:=cuN_4 (b:=b) (c:=c) (n:=n) (by omega)
  refine sk (sq (rg (zm ?_)))
  refine z ?_ (h:=fun Z=>bo (d:=18) (f:=52) (os:=[(.o 1,some (.o ⟨58,3,true,[(.slv b.length 1 (ysl b):A),aI ((c.i:Nat):Int),aI c.h]⟩))]) (os':=[(.o 1,some (.o ⟨58,3,true,[(.slv b.length 1 (ysl b):A),aI (((cuB b c).i:Nat):Int),aI ((cuB b c).h)]⟩))]) (r:=V.v (.int .i64 (((cuV b c):Nat):Int))) (bs:=[.a (.ptr 1 0)]) (keep:=[1]) (new:=[]) (dead:=[]) Z ((fJ b c (by omega) (by omega) (by omega))) (by kernel_rfl) ⟨ocs (by kernel_rfl),trivial⟩ (by kernel_rfl) (ArgOs.cons (ArgO.slot 17 (.a (.ptr 1 0))) (ArgOs.nil)))
  refine za (nl (sq (rg (zm ?_))))
  refine z ?_ (h:=fun Z=>bo (d:=20) (f:=52) (os:=[(.o 1,some (.o ⟨58,3,true,[(.slv b.length 1 (ysl b):A),aI (((cuB b c).i:Nat):Int),aI ((cuB b c).h)]⟩))]) (os':=[(.o 1,some (.o ⟨58,3,true,[(.slv b.length 1 (ysl b):A),aI (((cuB b (cuB b c)).i:Nat):Int),aI ((cuB b (cuB b c)).h)]⟩))]) (r:=V.v (.int .i64 (((cuV b (cuB b c)):Nat):Int))) (bs:=[.a (.ptr 1 0)]) (keep:=[1]) (new:=[]) (dead:=[]) Z ((fJ b (cuB b c) (by omega) (by omega) (by omega))) (by kernel_rfl) ⟨ocs (by kernel_rfl),trivial⟩ (by kernel_rfl) (ArgOs.cons (ArgO.slot 19 (.a (.ptr 1 0))) (ArgOs.nil)))
  refine za (nl (sq (rg (zm ?_))))
  refine z ?_ (h:=fun Z=>bo (d:=22) (f:=52) (os:=[(.o 1,some (.o ⟨58,3,true,[(.slv b.length 1 (ysl b):A),aI (((cuB b (cuB b c)).i:Nat):Int),aI ((cuB b (cuB b c)).h)]⟩))]) (os':=[(.o 1,some (.o ⟨58,3,true,[(.slv b.length 1 (ysl b):A),aI (((cuB b (cuB b (cuB b c))).i:Nat):Int),aI ((cuB b (cuB b (cuB b c))).h)]⟩))]) (r:=V.v (.int .i64 (((cuV b (cuB b (cuB b c))):Nat):Int))) (bs:=[.a (.ptr 1 0)]) (keep:=[1]) (new:=[]) (dead:=[]) Z ((fJ b (cuB b (cuB b c)) (by omega) (by omega) (by omega))) (by kernel_rfl) ⟨ocs (by kernel_rfl),trivial⟩ (by kernel_rfl) (ArgOs.cons (ArgO.slot 21 (.a (.ptr 1 0))) (ArgOs.nil)))
  refine za (nl (sq (rg (zm ?_))))
  refine z ?_ (h:=fun Z=>bo (d:=24) (f:=52) (os:=[(.o 1,some (.o ⟨58,3,true,[(.slv b.length 1 (ysl b):A),aI (((cuB b (cuB b (cuB b c))).i:Nat):Int),aI ((cuB b (cuB b (cuB b c))).h)]⟩))]) (os':=[(.o 1,some (.o ⟨58,3,true,[(.slv b.length 1 (ysl b):A),aI (((cuB b (cuB b (cuB b (cuB b c)))).i:Nat):Int),aI ((cuB b (cuB b (cuB b (cuB b c)))).h)]⟩))]) (r:=V.v (.int .i64 (((cuV b (cuB b (cuB b (cuB b c)))):Nat):Int))) (bs:=[.a (.ptr 1 0)]) (keep:=[1]) (new:=[]) (dead:=[]) Z ((fJ b (cuB b (cuB b (cuB b c))) (by omega) (by omega) (by omega))) (by kernel_rfl) ⟨ocs (by kernel_rfl),trivial⟩ (by kernel_rfl) (ArgOs.cons (ArgO.slot 23 (.a (.ptr 1 0))) (ArgOs.nil)))
  refine za (nl (sq (rg (zm ?_))))
  refine z ?_ (h:=fun Z=>ab Z vt vc (rM (by omega) (by omega)))
  refine zm ?_
  refine z ?_ (h:=fun Z=>ab Z vt vc (rM (by omega) (by omega)))
  refine z ?_ (h:=fun Z=>ab Z vt vt (rA (by omega) (by omega)))
  refine zm ?_
  refine z ?_ (h:=fun Z=>ab Z vt vc (rM (by omega) (by omega)))
  refine z ?_ (h:=fun Z=>ab Z vt vt (rA (by omega) (by omega)))
  refine zm ?_
  refine z ?_ (h:=fun Z=>ab Z vt vt (rA (by omega) (by omega)))
  refine zm ?_
  refine z ?_ (h:=fun Z=>ab Z vt vt (rh (c:=((((((((cuV b c):Nat):Int)*16777216)+((((cuV b (cuB b c)):Nat):Int)*65536))+((((cuV b (cuB b (cuB b c))):Nat):Int)*256))+(((cuV b (cuB b (cuB b (cuB b c)))):Nat):Int))%((n:Nat):Int))) (by omega) (remI (by omega))))
  refine za (nl (aq ?_))
  exact⟨_,dK,⟨cw (c:=[(.slv b.length 1 (ysl b):A),aI (((cuB b (cuB b (cuB b (cuB b c)))).i:Nat):Int),aI ((cuB b (cuB b (cuB b (cuB b c)))).h)]) (by kernel_rfl) (by exact kM hN1.symm _ _),trivial⟩,da 4 (.a (.val (.int .i64 ((((((((cuV b c):Nat):Int)*16777216)+((((cuV b (cuB b c)):Nat):Int)*65536))+((((cuV b (cuB b (cuB b c))):Nat):Int)*256))+(((cuV b (cuB b (cuB b (cuB b c)))):Nat):Int))%((n:Nat):Int))))) (.a (.val (.int .i64 (((cuX b c n):Nat):Int)))) (by kernel_rfl) (congrArg (fun z:Int=>B.a (.val (.int .i64 z))) (by(rw[hX1];unfold cuV4;rfl)))⟩
theorem tX (b:List Nat) (c:Cu) (n:Nat) (hb:b.length≤1048576) (hy:∀ x∈b,x<256) (hi:c.i≤b.length) (hn:0<n) (hn2:n≤4294967296):FnO Tryz.prog 81 [.a (.ptr 1 0),.a (.val (.int .i64 ((n:Nat):Int)))] [(.o 1,some (.o ⟨58,3,true,[(.slv b.length 1 (ysl b):A),aI ((c.i:Nat):Int),aI c.h]⟩))] (V.v (.bool (decide (cuX b c n=0)))) [(.o 1,some (.o ⟨58,3,true,[(.slv b.length 1 (ysl b):A),aI (((cuN b c n).i:Nat):Int),aI ((cuN b c n).h)]⟩))] [1]:=by
 refine co (N:=9) Tryz.func81 rfl (by kernel_rfl) rfl (Nat.le_of_ble_eq_true rfl) rfl rfl (by kernel_rfl) (by kernel_rfl) ⟨ocs (by kernel_rfl),trivial⟩ [7] (mn rfl) (fun W own kp im0=> ?_)
 show Wp _ _ _ [kP 0 1 0,kI 1 ((n:Nat):Int),kO 1 58 3 true [(.slv b.length 1 (ysl b):A),aI ((c.i:Nat):Int),aI c.h],kF 7]
 refine sq (rg (zk (nl (sq (rg (zm (zm ?_)))))))
 refine z ?_ (h:=fun Z=>bo (d:=7) (f:=30) (os:=[(.o 1,some (.o ⟨58,3,true,[(.slv b.length 1 (ysl b):A),aI ((c.i:Nat):Int),aI c.h]⟩))]) (os':=[(.o 1,some (.o ⟨58,3,true,[(.slv b.length 1 (ysl b):A),aI (((cuN b c n).i:Nat):Int),aI ((cuN b c n).h)]⟩))]) (r:=V.v (.int .i64 (((cuX b c n):Nat):Int))) (bs:=[.a (.ptr 1 0),.a (.val (.int .i64 ((n:Nat):Int)))]) (keep:=[1]) (new:=[]) (dead:=[]) Z ((dk b c n (by omega) (by omega) (by omega) (by omega) (by omega))) (by kernel_rfl) ⟨ocs (by kernel_rfl),trivial⟩ (by kernel_rfl) (ArgOs.cons (ArgO.slot 5 (.a (.ptr 1 0))) (ArgOs.cons ((ArgO.v vt)) (ArgOs.nil))))
 refine z ?_ (h:=fun Z=>ab Z vt vc (cW rfl))
 refine za (nl (aq ?_))
 exact⟨_,dK,⟨by kernel_rfl,trivial⟩,da 4 (.a (.val (.bool (decide ((((cuX b c n):Nat):Int)=0))))) (.a (.val (.bool (decide (cuX b c n=0))))) (by kernel_rfl) (congrArg (fun z:Bool=>B.a (.val (.bool z))) (by(rw[decide_eq_decide];omega)))⟩
theorem lK (w h:Nat) (hw:1≤w∧w≤8) (hh:1≤h∧h≤8):Fn Tryz.prog 51 [.a (.val (.int .i64 ((w:Nat):Int))),.a (.val (.int .i64 ((h:Nat):Int)))] [.reg 3 1 (ck w h).length (isl (ck w h))]:=by
 have hpw:2^ w≤2^ 8:=Nat.pow_le_pow_right (by decide) hw.2
 have hp0:0<2^ w:=Nat.two_pow_pos w
 refine aN (N:=30) Tryz.func51 rfl (by kernel_rfl) rfl (Nat.le_of_ble_eq_true rfl) [4,5,13,17,26,27,1000] (dB rfl) (fun W=> ?_)
 show Wp _ _ _ [kI 0 ((w:Nat):Int),kI 1 ((h:Nat):Int),kF 4,kF 5,kF 13,kF 17,kF 26,kF 27,kF 1000]
 refine sq (rg ?_)
 refine z ?_ (h:=fun Z=>aF (h:=4) (cap:=1) (s:=1) (cells:=[(.val (.slice none 0 0):A)]) Z po rfl rfl (by decide))
 refine nl (sq (rg ?_))
 refine z ?_ (h:=fun Z=>jc (cells:=[(.slice none 0 0:Value)]) Z OpVs.nil rfl)
 refine z ?_ (h:=fun Z=>aF (h:=5) (cap:=1) (s:=1) (cells:=[(.val (.slice none 0 0):A)]) Z po rfl rfl (by decide))
 refine z ?_ (h:=fun _=>aw (cells:=[(.val (.slice none 0 0):A)]) ep xt (by exact rfl) (by decide) (by exact ob1 rfl) (by exact Nat.le_of_ble_eq_true rfl) (by exact rfl))
 refine nl (sq (sq (rg (zk (nl (bkk ?_))))))
 refine dE (CO (h:=5) (h1:=13) (T0:=26) (s0:=1) (ex:=true) (T:=3)) ?_
 refine bf (fun(k:Nat)=>k≤h) (fun(k:Nat)=>[kI 0 ((w:Nat):Int),kI 1 ((h:Nat):Int),kP 4 4 0,kP 5 5 0,kI 6 ((k:Nat):Int),kO 4 26 1 true [(.val (.slice none 0 0):A)],kO 5 26 1 true [(.sl 13 0 ((ck w k).length):A)],kO 13 3 1 true (pl (isl (ck w k))),kF 17,kF 26,kF 27,kF 1000]) (fun(k:Nat)=>h-k) ((0:Nat)) (by exact(Nat.zero_le _:0≤_)) (wkf id (wS<|wS<|wS<|wS<|wE (e:=(aO (by rfl)))<|wX<|wO (e:=jJ (fun h=>h) (congrArg (fun z:Nat=>[A.sl 13 0 z]) (by rfl)) rfl)<|wO (e:=aG (fun h=>h) (congrArg isl (by rfl)))<|wF<|wF<|wF<|wF<|wN)) ?_
 rintro k inv1
 replace inv1:k≤h:=inv1
 have invk:=inv1
 have hrl:(ck w k).length=k:=by simp [ck]
 refine sq (sq ?_)
 rcases Bool.eq_false_or_eq_true (decide (((k:Nat):Int)<((h:Nat):Int)))with c2 |c2
 ·skip
  have c2P:=of_decide_eq_true c2
  refine rg (zm (zm ?_))
  refine z ?_ (h:=fun Z=>ab Z vt vt (bP (c:=true) c2))
  refine zm ?_
  refine zg ?_ (h:=fun Z=>ae rfl rfl (mt Z))
  refine zg ?_ (h:=fun Z=>ae rfl rfl (ah Z (cP ((w:Nat):Int) 1 8 ) (ac (ArgV.v vt) (ac (ArgV.v vc) (ac (ArgV.v vc) an))) (aH (congrArg Value.bool (bw.2 (by omega))))))
  refine z ?_ (h:=fun Z=>al Z vt xt)
  refine zm ?_
  refine zg ?_ (h:=fun Z=>ae rfl rfl (mt Z))
  refine zg ?_ (h:=fun Z=>ae rfl rfl (ah Z (cP ((h:Nat):Int) 1 8 ) (ac (ArgV.v vt) (ac (ArgV.v vc) (ac (ArgV.v vc) an))) (aH (congrArg Value.bool (bw.2 (by omega))))))
  refine z ?_ (h:=fun Z=>al Z vt xt)
  refine nl (wt (sk (sq (bkk (cg ?_)))))
  refine zd ?_ (h:=fun Z=>ak (off':=0) Z gp rfl)
  refine zd ?_ (h:=fun Z=>ai (x:= .sl 13 0 ((ck w k).length)) Z jz (by exact rfl))
  refine zdm ?_
  refine zd ?_ (h:=fun Z=>ab Z vc vt (gX (c:=(((2^ w):Nat):Int)) (by omega) (nt (n:=w) rfl (by omega))))
  refine zd ?_ (h:=fun Z=>ab Z vt vc (rS (by omega) (by omega)))
  refine zd ?_ (h:=fun Z=>aR (h:=26) (xs:=isl ([((((2^ w):Nat):Int)-1)]:List Int)) Z jA Ba (.cons vt OpVs.nil) (by decide) (by decide) (by kernel_rfl) rfl)
  refine zd ?_ (h:=fun Z=>aI_ (h2:=27) (L3:=((ck w k)++[((((2^ w):Nat):Int)-1)])) Z jA Ba (by exact rfl) rfl (by exact rfl) (by(simp;omega)))
  refine zd ?_ (h:=fun Z=>ak (off':=0) Z gp rfl)
  refine zd ?_ (h:=fun _=>aw (cells:=[(.sl 27 0 (((ck w k)++[((((2^ w):Nat):Int)-1)]).length):A)]) jz xt (by exact rfl) (by decide) (by exact ob1 rfl) (by exact Nat.le_of_ble_eq_true rfl) (by exact rfl))
  refine bJ (rg (zm ?_))
  refine z ?_ (h:=fun Z=>ab Z vt vc (rA (by omega) (by omega)))
  refine za (nl ?_)
  exact ar ((k+1)) (by show _≤_;omega) (by show h-(k+1)<h-k;omega) (wkf (bn [(13,27)]) (wS<|wS<|wS<|wS<|wE (e:=(aO (by rfl)))<|wX<|wO (e:=jJ (fun h=>h) (congrArg (fun z:Nat=>[A.sl 27 0 z]) (by(exact congrArg List.length (by first |rfl |omega |(simp [ck];done) |(unfold ck rc;rw[List.replicate_succ'];rfl) |(unfold ck rc;rw[List.replicate_succ']))))) rfl)<|wO (e:=aG (fun h=>h) (congrArg isl (by(unfold ck rc;rw[List.replicate_succ']))))<|wF<|wF<|wF<|wF<|wN))
 ·skip
  have c2P:=of_decide_eq_false c2
  refine rg (zm (zm ?_))
  refine z ?_ (h:=fun Z=>ab Z vt vt (bP (c:=false) c2))
  refine zm (zo (zo ?_))
  refine z ?_ (h:=fun Z=>ao Z vt xc)
  refine zm (zo (zo ?_))
  refine z ?_ (h:=fun Z=>ao Z vt xc)
  refine nl (wf (aJ (sq (rg ?_))))
  refine z ?_ (h:=fun Z=>aa (xs:=[(.sl 13 0 ((ck w k).length):A)]) Z ep rfl (by decide) rfl)
  refine z ?_ (h:=fun _=>aw (cells:=[(.sl 13 0 ((ck w k).length):A)]) ep xt (by exact rfl) (by decide) (by exact ob1 rfl) (by exact Nat.le_of_ble_eq_true rfl) (by exact rfl))
  refine nl (aq ?_)
  exact VRes.cells 4 26 4 ⟨26,1,true,[(.sl 13 0 ((ck w k).length):A)]⟩ _ (by kernel_rfl) (by kernel_rfl) ep (Nat.le_of_ble_eq_true rfl) (breg (h:=13) (L:=(ck w k)) (by kernel_rfl) (by(have e:k=h:=by omega);subst e;first |rfl |(simp [ck];done)) (by rfl))
theorem rq (b:List Nat) (c:Cu) (hb:b.length≤1048576) (hy:∀ x∈b,x<256) (hi:c.i≤b.length):FnO Tryz.prog 48 [.a (.ptr 1 0)] [(.o 1,some (.o ⟨58,3,true,[(.slv b.length 1 (ysl b):A),aI ((c.i:Nat):Int),aI c.h]⟩))] (V.b (.agg [(.sl 900 0 ((r3 b c).1.length):A)])) [(.o 1,some (.o ⟨58,3,true,[(.slv b.length 1 (ysl b):A),aI ((((r3 b c).2).i:Nat):Int),aI (((r3 b c).2).h)]⟩)),(.o 900,some (.o ⟨3,1,true,pl (isl ((r3 b c).1))⟩))] [1]:=by
 have hx6:cuX b c 6<6:=lN (by decide)
 have hx5:cuX b (cuN b c 6) 5<5:=lN (by decide)
 have hxk:cuX b (cuN b (cuN b c 6) 5) 5<5:=lN (by decide)
 have hi1:=gM (n:=6) hi
 have hi2:=gM (n:=5) hi1
 have hi3:=gM (n:=5) hi2
 have hrl:(ck (1+cuX b c 6) (1+cuX b (cuN b c 6) 5)).length=(1+cuX b (cuN b c 6) 5):=by simp [ck]
 have hr3:=(LP b c).ln
 refine co (N:=74) Tryz.func48 rfl (by kernel_rfl) rfl (Nat.le_of_ble_eq_true rfl) rfl rfl (by kernel_rfl) (by kernel_rfl) ⟨ocs (by kernel_rfl),trivial⟩ [2,5,11,14,18,20,27,30,56,60,74,75,76,77] (mn rfl) (fun W own kp im0=> ?_)
 show Wp _ _ _ [kP 0 1 0,kO 1 58 3 true [(.slv b.length 1 (ysl b):A),aI ((c.i:Nat):Int),aI c.h],kF 2,kF 5,kF 11,kF 14,kF 18,kF 20,kF 27,kF 30,kF 56,kF 60,kF 74,kF 75,kF 76,kF 77]
 refine sq (rg ?_)
 refine z ?_ (h:=fun Z=>aF (h:=2) (cap:=1) (s:=1) (cells:=[(.val (.slice none 0 0):A)]) Z po rfl rfl (by decide))
 refine nl (sq (rg (zm ?_)))
 refine z ?_ (h:=fun Z=>bo (d:=11) (f:=30) (os:=[(.o 1,some (.o ⟨58,3,true,[(.slv b.length 1 (ysl b):A),aI ((c.i:Nat):Int),aI c.h]⟩))]) (os':=[(.o 1,some (.o ⟨58,3,true,[(.slv b.length 1 (ysl b):A),aI (((cuN b c 6).i:Nat):Int),aI ((cuN b c 6).h)]⟩))]) (r:=V.v (.int .i64 (((cuX b c 6):Nat):Int))) (bs:=[.a (.ptr 1 0),.a (.val (.int .i64 6))]) (keep:=[1]) (new:=[]) (dead:=[]) Z ((dk b c 6 (by omega) (by omega) (by omega) (by omega) (by omega))) (by kernel_rfl) ⟨ocs (by kernel_rfl),trivial⟩ (by kernel_rfl) (ArgOs.cons (ArgO.slot 10 (.a (.ptr 1 0))) (ArgOs.cons ((ArgO.v vc)) (ArgOs.nil))))
 refine z ?_ (h:=fun Z=>ab Z vc vt (rA (by omega) (by omega)))
 refine za (nl (sq (rg (zm ?_))))
 refine z ?_ (h:=fun Z=>bo (d:=14) (f:=30) (os:=[(.o 1,some (.o ⟨58,3,true,[(.slv b.length 1 (ysl b):A),aI (((cuN b c 6).i:Nat):Int),aI ((cuN b c 6).h)]⟩))]) (os':=[(.o 1,some (.o ⟨58,3,true,[(.slv b.length 1 (ysl b):A),aI (((cuN b (cuN b c 6) 5).i:Nat):Int),aI ((cuN b (cuN b c 6) 5).h)]⟩))]) (r:=V.v (.int .i64 (((cuX b (cuN b c 6) 5):Nat):Int))) (bs:=[.a (.ptr 1 0),.a (.val (.int .i64 5))]) (keep:=[1]) (new:=[]) (dead:=[]) Z ((dk b (cuN b c 6) 5 (by omega) (by omega) (by omega) (by omega) (by omega))) (by kernel_rfl) ⟨ocs (by kernel_rfl),trivial⟩ (by kernel_rfl) (ArgOs.cons (ArgO.slot 13 (.a (.ptr 1 0))) (ArgOs.cons ((ArgO.v vc)) (ArgOs.nil))))
 refine z ?_ (h:=fun Z=>ab Z vc vt (rA (by omega) (by omega)))
 refine za (nl (sq (rg (zm (zm ?_)))))
 refine z ?_ (h:=fun Z=>ah Z (lK (1+(cuX b c 6)) (1+(cuX b (cuN b c 6) 5)) (by omega) (by omega)) (ac (ArgV.v vt) (ac (ArgV.v vt) an)) (ResV.reg _ _ _ _ 18))
 refine z ?_ (h:=fun Z=>aF (h:=5) (cap:=1) (s:=1) (cells:=[(.val (.slice none 0 0):A)]) Z po rfl rfl (by decide))
 refine z ?_ (h:=fun _=>aw (cells:=[(.sl 18 0 ((ck (1+(cuX b c 6)) (1+(cuX b (cuN b c 6) 5))).length):A)]) ep xt (by exact rfl) (by decide) (by exact ob1 rfl) (by exact Nat.le_of_ble_eq_true rfl) (by exact rfl))
 refine nl (sq (sq (rg (zm ?_))))
 refine z ?_ (h:=fun Z=>bo (d:=20) (f:=30) (os:=[(.o 1,some (.o ⟨58,3,true,[(.slv b.length 1 (ysl b):A),aI (((cuN b (cuN b c 6) 5).i:Nat):Int),aI ((cuN b (cuN b c 6) 5).h)]⟩))]) (os':=[(.o 1,some (.o ⟨58,3,true,[(.slv b.length 1 (ysl b):A),aI (((cuN b (cuN b (cuN b c 6) 5) 5).i:Nat):Int),aI ((cuN b (cuN b (cuN b c 6) 5) 5).h)]⟩))]) (r:=V.v (.int .i64 (((cuX b (cuN b (cuN b c 6) 5) 5):Nat):Int))) (bs:=[.a (.ptr 1 0),.a (.val (.int .i64 5))]) (keep:=[1]) (new:=[]) (dead:=[]) Z ((dk b (cuN b (cuN b c 6) 5) 5 (by omega) (by omega) (by omega) (by omega) (by omega))) (by kernel_rfl) ⟨ocs (by kernel_rfl),trivial⟩ (by kernel_rfl) (ArgOs.cons (ArgO.slot 19 (.a (.ptr 1 0))) (ArgOs.cons ((ArgO.v vc)) (ArgOs.nil))))
 refine za (nl (bkk ?_))
 refine bf (fun((k,cz,R):Nat × Cu × (List Int))=>RP (1+cuX b (cuN b c 6) 5) R∧cz.i≤b.length∧k≤5∧r3L b (1+cuX b c 6) (1+cuX b (cuN b c 6) 5) k cz R=r3M b c) (fun((k,cz,R):Nat × Cu × (List Int))=>[kP 0 1 0,kP 2 2 0,kI 3 (1+(((cuX b c 6):Nat):Int)),kI 4 (1+(((cuX b (cuN b c 6) 5):Nat):Int)),kP 5 5 0,kI 6 ((k:Nat):Int),kO 1 58 3 true [(.slv b.length 1 (ysl b):A),aI ((cz.i:Nat):Int),aI cz.h],kO 2 26 1 true [(.val (.slice none 0 0):A)],kO 5 26 1 true [(.sl 18 0 ((ck (1+(cuX b c 6)) (1+(cuX b (cuN b c 6) 5))).length):A)],kO 18 3 1 true (pl (isl R)),kF 11,kF 14,kF 20,kF 27,kF 30,kF 56,kF 60,kF 74,kF 75,kF 76,kF 77]) (fun((k,cz,R):Nat × Cu × (List Int))=>k) (((cuX b (cuN b (cuN b c 6) 5) 5):Nat),((cuN b (cuN b (cuN b c 6) 5) 5):Cu),((ck (1+cuX b c 6) (1+cuX b (cuN b c 6) 5)):List Int)) (by exact⟨RP.rect (by omega),hi3,by omega,rfl⟩) (wkf id (wS<|wS<|wS<|wS<|wS<|wS<|wX<|wX<|wX<|wO (e:=aG (fun h=>h) (congrArg isl (by rfl)))<|by(iterate 11 refine wF ?_);exact wN)) ?_
 rintro⟨k,cz,R⟩ inv1
 replace inv1:RP (1+cuX b (cuN b c 6) 5) R∧cz.i≤b.length∧k≤5∧r3L b (1+cuX b c 6) (1+cuX b (cuN b c 6) 5) k cz R=r3M b c:=inv1
 obtain⟨hRP,hi0,hk5,hr3L⟩:=inv1
 have hRl:=hRP.ln
 refine sq (sq (rg (zm ?_)))
 refine z ?_ (h:=fun Z=>ab Z vt vc (oi rfl))
 refine nl ?_
 refine wi (fun c2=> ?_) (fun c2=> ?_)
 ·skip
  have c2P:=of_decide_eq_true c2
  have hyl:(cuX b cz (1+cuX b (cuN b c 6) 5))<(1+cuX b (cuN b c 6) 5):=lN (by omega)
  have hxl:(cuX b (cuN b cz (1+cuX b (cuN b c 6) 5)) (1+cuX b c 6))<(1+cuX b c 6):=lN (by omega)
  have hi4:=gM (n:=(1+cuX b (cuN b c 6) 5)) hi0
  have hi5:=gM (n:=(1+cuX b c 6)) hi4
  have hbd:=hRP.bd _ hyl
  have hp2:2^ (cuX b (cuN b cz (1+cuX b (cuN b c 6) 5)) (1+cuX b c 6))<2^ 8:=Nat.pow_lt_pow_right (by decide) (by omega)
  have hp0:0<2^ (cuX b (cuN b cz (1+cuX b (cuN b c 6) 5)) (1+cuX b c 6)):=Nat.two_pow_pos _
  refine sk (sq (bkk (sq (rg (zm (zm ?_))))))
  refine z ?_ (h:=fun Z=>bo (d:=27) (f:=30) (os:=[(.o 1,some (.o ⟨58,3,true,[(.slv b.length 1 (ysl b):A),aI ((cz.i:Nat):Int),aI cz.h]⟩))]) (os':=[(.o 1,some (.o ⟨58,3,true,[(.slv b.length 1 (ysl b):A),aI (((cuN b cz (1+(cuX b (cuN b c 6) 5))).i:Nat):Int),aI ((cuN b cz (1+(cuX b (cuN b c 6) 5))).h)]⟩))]) (r:=V.v (.int .i64 (((cuX b cz (1+(cuX b (cuN b c 6) 5))):Nat):Int))) (bs:=[.a (.ptr 1 0),.a (.val (.int .i64 (1+(((cuX b (cuN b c 6) 5):Nat):Int))))]) (keep:=[1]) (new:=[]) (dead:=[]) Z ((dk b cz (1+(cuX b (cuN b c 6) 5)) (by omega) (by omega) (by omega) (by omega) (by omega))) (by kernel_rfl) ⟨ocs (by kernel_rfl),trivial⟩ (by kernel_rfl) (ArgOs.cons (ArgO.slot 25 (.a (.ptr 1 0))) (ArgOs.cons ((ArgO.v vt)) (ArgOs.nil))))
  refine za (nl (sq (rg (zm (zm ?_)))))
  refine z ?_ (h:=fun Z=>bo (d:=30) (f:=30) (os:=[(.o 1,some (.o ⟨58,3,true,[(.slv b.length 1 (ysl b):A),aI (((cuN b cz (1+(cuX b (cuN b c 6) 5))).i:Nat):Int),aI ((cuN b cz (1+(cuX b (cuN b c 6) 5))).h)]⟩))]) (os':=[(.o 1,some (.o ⟨58,3,true,[(.slv b.length 1 (ysl b):A),aI (((cuN b (cuN b cz (1+(cuX b (cuN b c 6) 5))) (1+(cuX b c 6))).i:Nat):Int),aI ((cuN b (cuN b cz (1+(cuX b (cuN b c 6) 5))) (1+(cuX b c 6))).h)]⟩))]) (r:=V.v (.int .i64 (((cuX b (cuN b cz (1+(cuX b (cuN b c 6) 5))) (1+(cuX b c 6))):Nat):Int))) (bs:=[.a (.ptr 1 0),.a (.val (.int .i64 (1+(((cuX b c 6):Nat):Int))))]) (keep:=[1]) (new:=[]) (dead:=[]) Z ((dk b (cuN b cz (1+(cuX b (cuN b c 6) 5))) (1+(cuX b c 6)) (by omega) (by omega) (by omega) (by omega) (by omega))) (by kernel_rfl) ⟨ocs (by kernel_rfl),trivial⟩ (by kernel_rfl) (ArgOs.cons (ArgO.slot 28 (.a (.ptr 1 0))) (ArgOs.cons ((ArgO.v vt)) (ArgOs.nil))))
  refine za (nl (sq (rg ?_)))
  refine z ?_ (h:=fun Z=>ak (off':=0) Z gp rfl)
  refine z ?_ (h:=fun Z=>ai (x:= .sl 18 0 ((ck (1+(cuX b c 6)) (1+(cuX b (cuN b c 6) 5))).length)) Z jz (by exact rfl))
  refine zm ?_
  refine z ?_ (h:=fun Z=>ix0 Z jA oh vt (hlt:=(by omega)))
  refine z ?_ (h:=fun Z=>lI Z ft (by omega))
  refine zm ?_
  refine z ?_ (h:=fun Z=>ab Z vt vt (oj (c:=(((((gI R (cuX b cz (1+(cuX b (cuN b c 6) 5)))).toNat)>>>(cuX b (cuN b cz (1+(cuX b (cuN b c 6) 5))) (1+(cuX b c 6)))):Nat):Int)) (by omega) (zf (m:=((gI R (cuX b cz (1+(cuX b (cuN b c 6) 5)))).toNat)) (n:=(cuX b (cuN b cz (1+(cuX b (cuN b c 6) 5))) (1+(cuX b c 6)))) (Int.toNat_of_nonneg (by omega)).symm rfl (by omega) rfl)))
  refine z ?_ (h:=fun Z=>ab Z vt vc (iK (c:=((((((gI R (cuX b cz (1+(cuX b (cuN b c 6) 5)))).toNat)>>>(cuX b (cuN b cz (1+(cuX b (cuN b c 6) 5))) (1+(cuX b c 6))))&&&1):Nat):Int)) (tF (m:=(((gI R (cuX b cz (1+(cuX b (cuN b c 6) 5)))).toNat)>>>(cuX b (cuN b cz (1+(cuX b (cuN b c 6) 5))) (1+(cuX b c 6))))) (n:=1) rfl rfl (by exact Nat.lt_of_le_of_lt (nk _ _) (by first |omega |assumption |(first |omega |assumption |(rw[hrl];omega)))) (by omega))))
  refine z ?_ (h:=fun Z=>ab Z vt vc (cW (c:=(((gI R (cuX b cz (1+(cuX b (cuN b c 6) 5)))).toNat).testBit (cuX b (cuN b cz (1+(cuX b (cuN b c 6) 5))) (1+(cuX b c 6))))) (oE _ _)))
  refine nl ?_
  refine wi (b:=(((gI R (cuX b cz (1+(cuX b (cuN b c 6) 5)))).toNat).testBit (cuX b (cuN b cz (1+(cuX b (cuN b c 6) 5))) (1+(cuX b c 6))))) (fun c3=> ?_) (fun c3=> ?_)
  ·skip
   have hbt:bitR R (cuX b cz (1+cuX b (cuN b c 6) 5)) (cuX b (cuN b cz (1+cuX b (cuN b c 6) 5)) (1+cuX b c 6))=true:=c3
   have hnx:=Nm (k:=k) (by omega) hbt
   have hRP2:=hRP.take hyl hbt
   refine cg ?_
   refine zd ?_ (h:=fun Z=>ak (off':=0) Z gp rfl)
   refine zd ?_ (h:=fun Z=>ai (x:= .sl 18 0 ((ck (1+(cuX b c 6)) (1+(cuX b (cuN b c 6) 5))).length)) Z jz (by exact rfl))
   refine zdm ?_
   refine zd ?_ (h:=fun Z=>ak (off':=0) Z gp rfl)
   refine zd ?_ (h:=fun Z=>ai (x:= .sl 18 0 ((ck (1+(cuX b c 6)) (1+(cuX b (cuN b c 6) 5))).length)) Z jz (by exact rfl))
   refine zdm ?_
   refine zd ?_ (h:=fun Z=>ix0 Z jA oh vt (hlt:=(by omega)))
   refine zd ?_ (h:=fun Z=>lI Z ft (by omega))
   refine zdm ?_
   refine zd ?_ (h:=fun Z=>ab Z vc vt (gX (c:=(((2^ (cuX b (cuN b cz (1+(cuX b (cuN b c 6) 5))) (1+(cuX b c 6)))):Nat):Int)) (by omega) (nt (n:=(cuX b (cuN b cz (1+(cuX b (cuN b c 6) 5))) (1+(cuX b c 6)))) rfl (by omega))))
   refine zd ?_ (h:=fun Z=>ab Z vt vt (rS (by omega) (by omega)))
   refine zd ?_ (h:=fun Z=>ix0 Z jA oh vt (hlt:=(by omega)))
   refine zd ?_ (h:=fun _=>sI ft xt (by omega))
   refine bJ (rg (zm ?_))
   refine z ?_ (h:=fun Z=>ab Z vt vc (rS (by omega) (by omega)))
   refine za (nl ?_)
   exact ar ((k-1),(cuN b (cuN b cz (1+cuX b (cuN b c 6) 5)) (1+cuX b c 6)),(R.set (cuX b cz (1+(cuX b (cuN b c 6) 5))) ((gI R (cuX b cz (1+(cuX b (cuN b c 6) 5))))-(((2^ (cuX b (cuN b cz (1+(cuX b (cuN b c 6) 5))) (1+(cuX b c 6)))):Nat):Int)))) (by exact⟨hRP2,hi5,by omega,hnx.symm.trans hr3L⟩) (by show k-1<k;omega) (wkf id (wS<|wS<|wS<|wS<|wS<|wE (e:=(aO (by omega)))<|wO (e:=jJ (fun h=>h) (by rfl) rfl)<|wX<|wX<|wP<|by(iterate 11 refine wF ?_);exact wN))
  ·skip
   have hbt:bitR R (cuX b cz (1+cuX b (cuN b c 6) 5)) (cuX b (cuN b cz (1+cuX b (cuN b c 6) 5)) (1+cuX b c 6))=false:=c3
   have hnx:=KI (k:=k) (by omega) hbt
   have hRP2:=hRP
   refine sk (rg (zm ?_))
   refine z ?_ (h:=fun Z=>ab Z vt vc (rS (by omega) (by omega)))
   refine za (nl ?_)
   exact ar ((k-1),(cuN b (cuN b cz (1+cuX b (cuN b c 6) 5)) (1+cuX b c 6)),R) (by exact⟨hRP2,hi5,by omega,hnx.symm.trans hr3L⟩) (by show k-1<k;omega) (wkf id (wS<|wS<|wS<|wS<|wS<|wE (e:=(aO (by omega)))<|wO (e:=jJ (fun h=>h) (by rfl) rfl)<|wX<|wX<|wP<|by(iterate 11 refine wF ?_);exact wN))
 ·skip
  have c2P:=of_decide_eq_false c2
  have hend:=Nn hr3L (by omega)
  have hi4:=gM (n:=3) hi0
  have hi5:=gM (n:=(1+cuX b (cuN b c 6) 5)) hi4
  refine aJ (sq (sq ?_))
  rcases Bool.eq_false_or_eq_true (decide ((1+(((cuX b c 6):Nat):Int))<6))with c4 |c4
  ·skip
   have c4P:=of_decide_eq_true c4
   have hw6:1+cuX b c 6<6:=by omega
   refine rg (zm ?_)
   refine z ?_ (h:=fun Z=>ab Z vt vc (bP (c:=true) c4))
   refine zm ?_
   refine zg ?_ (h:=fun Z=>ae rfl rfl (mt Z))
   refine zg ?_ (h:=fun Z=>ae rfl rfl (bo (d:=56) (f:=81) (os:=[(.o 1,some (.o ⟨58,3,true,[(.slv b.length 1 (ysl b):A),aI ((cz.i:Nat):Int),aI cz.h]⟩))]) (os':=[(.o 1,some (.o ⟨58,3,true,[(.slv b.length 1 (ysl b):A),aI (((cuN b cz 3).i:Nat):Int),aI ((cuN b cz 3).h)]⟩))]) (r:=V.v (.bool (decide (cuX b cz 3=0)))) (bs:=[.a (.ptr 1 0),.a (.val (.int .i64 3))]) (keep:=[1]) (new:=[]) (dead:=[]) Z ((tX b cz 3 (by omega) (by omega) (by omega) (by omega) (by omega))) (by kernel_rfl) ⟨ocs (by kernel_rfl),trivial⟩ (by kernel_rfl) (ArgOs.cons (ArgO.slot 55 (.a (.ptr 1 0))) (ArgOs.cons ((ArgO.v vc)) (ArgOs.nil)))))
   refine z ?_ (h:=fun Z=>al Z vt xt)
   refine nl ?_
   refine wi (b:=(decide (cuX b cz 3=0))) (fun c5=> ?_) (fun c5=> ?_)
   ·skip
    have hfin:=r3_c hend hw6 (of_decide_eq_true c5)
    have hyl:cuX b (cuN b cz 3) (1+cuX b (cuN b c 6) 5)<(1+cuX b (cuN b c 6) 5):=lN (by omega)
    have hbd:=hRP.bd _ hyl
    have hsw:3<<<(1+cuX b c 6)<256:=by
     rw[Nat.shiftLeft_eq]
     have:(2:Nat)^ (1+cuX b c 6)≤2^ 5:=Nat.pow_le_pow_right (by decide) (by omega)
     omega
    refine sq (rg (zm (zm ?_)))
    refine z ?_ (h:=fun Z=>bo (d:=60) (f:=30) (os:=[(.o 1,some (.o ⟨58,3,true,[(.slv b.length 1 (ysl b):A),aI (((cuN b cz 3).i:Nat):Int),aI ((cuN b cz 3).h)]⟩))]) (os':=[(.o 1,some (.o ⟨58,3,true,[(.slv b.length 1 (ysl b):A),aI (((cuN b (cuN b cz 3) (1+(cuX b (cuN b c 6) 5))).i:Nat):Int),aI ((cuN b (cuN b cz 3) (1+(cuX b (cuN b c 6) 5))).h)]⟩))]) (r:=V.v (.int .i64 (((cuX b (cuN b cz 3) (1+(cuX b (cuN b c 6) 5))):Nat):Int))) (bs:=[.a (.ptr 1 0),.a (.val (.int .i64 (1+(((cuX b (cuN b c 6) 5):Nat):Int))))]) (keep:=[1]) (new:=[]) (dead:=[]) Z ((dk b (cuN b cz 3) (1+(cuX b (cuN b c 6) 5)) (by omega) (by omega) (by omega) (by omega) (by omega))) (by kernel_rfl) ⟨ocs (by kernel_rfl),trivial⟩ (by kernel_rfl) (ArgOs.cons (ArgO.slot 58 (.a (.ptr 1 0))) (ArgOs.cons ((ArgO.v vt)) (ArgOs.nil))))
    refine za (nl (cg ?_))
    refine zd ?_ (h:=fun Z=>ak (off':=0) Z gp rfl)
    refine zd ?_ (h:=fun Z=>ai (x:= .sl 18 0 ((ck (1+(cuX b c 6)) (1+(cuX b (cuN b c 6) 5))).length)) Z jz (by exact rfl))
    refine zdm ?_
    refine zd ?_ (h:=fun Z=>ak (off':=0) Z gp rfl)
    refine zd ?_ (h:=fun Z=>ai (x:= .sl 18 0 ((ck (1+(cuX b c 6)) (1+(cuX b (cuN b c 6) 5))).length)) Z jz (by exact rfl))
    refine zdm ?_
    refine zd ?_ (h:=fun Z=>ix0 Z jA oh vt (hlt:=(by omega)))
    refine zd ?_ (h:=fun Z=>lI Z ft (by omega))
    refine zdm ?_
    refine zd ?_ (h:=fun Z=>ab Z vc vt (gX (c:=(((3<<<(1+(cuX b c 6))):Nat):Int)) (by omega) (shlI (m:=3) (n:=(1+(cuX b c 6))) rfl (by rfl) (by omega) (by omega))))
    refine zd ?_ (h:=fun Z=>ab Z vt vt (qk (c:=(((((gI R (cuX b (cuN b cz 3) (1+(cuX b (cuN b c 6) 5)))).toNat)|||(3<<<(1+(cuX b c 6)))):Nat):Int)) (orI (m:=((gI R (cuX b (cuN b cz 3) (1+(cuX b (cuN b c 6) 5)))).toNat)) (n:=(3<<<(1+(cuX b c 6)))) (Int.toNat_of_nonneg (by omega)).symm rfl (by omega) (by omega))))
    refine zd ?_ (h:=fun Z=>ix0 Z jA oh vt (hlt:=(by omega)))
    refine zd ?_ (h:=fun _=>sI ft xt (by omega))
    refine bJ (sq (rg ?_))
    refine z ?_ (h:=fun Z=>aa (xs:=[(.sl 18 0 ((ck (1+(cuX b c 6)) (1+(cuX b (cuN b c 6) 5))).length):A)]) Z ep rfl (by decide) rfl)
    refine z ?_ (h:=fun _=>aw (cells:=[(.sl 18 0 ((ck (1+(cuX b c 6)) (1+(cuX b (cuN b c 6) 5))).length):A)]) ep xt (by exact rfl) (by decide) (by exact ob1 rfl) (by exact Nat.le_of_ble_eq_true rfl) (by exact rfl))
    refine nl (aq ?_)
    exact⟨[kP 2 2 0,kO 1 58 3 true [(.slv b.length 1 (ysl b):A),aI (((cuN b (cuN b cz 3) (1+(cuX b (cuN b c 6) 5))).i:Nat):Int),aI ((cuN b (cuN b cz 3) (1+(cuX b (cuN b c 6) 5))).h)],kO 2 26 1 true [(.sl 900 0 ((ck (1+(cuX b c 6)) (1+(cuX b (cuN b c 6) 5))).length):A)],kO 900 3 1 true (pl (isl (R.set (cuX b (cuN b cz 3) (1+(cuX b (cuN b c 6) 5))) (((((gI R (cuX b (cuN b cz 3) (1+(cuX b (cuN b c 6) 5)))).toNat)|||(3<<<(1+(cuX b c 6)))):Nat):Int)))),kF 5,kF 11,kF 14,kF 18,kF 20,kF 27,kF 30,kF 56,kF 60,kF 74,kF 75,kF 76,kF 77],wkf (bn [(900,18)]) (wS<|wX<|wX<|wP<|by(iterate 13 refine wF ?_);exact wN),⟨cw (c:=[(.slv b.length 1 (ysl b):A),aI (((cuN b (cuN b cz 3) (1+(cuX b (cuN b c 6) 5))).i:Nat):Int),aI ((cuN b (cuN b cz 3) (1+(cuX b (cuN b c 6) 5))).h)]) (by kernel_rfl) (by exact kM (congrArg Prod.snd hfin).symm _ _),cw (c:=pl (isl (R.set (cuX b (cuN b cz 3) (1+(cuX b (cuN b c 6) 5))) (((((gI R (cuX b (cuN b cz 3) (1+(cuX b (cuN b c 6) 5)))).toNat)|||(3<<<(1+(cuX b c 6)))):Nat):Int)))) (by kernel_rfl) (congrArg (fun z=>pl (isl z)) (by exact(congrArg Prod.fst hfin).symm)),trivial⟩,lm (h:=2) ⟨26,1,true,[(.sl 900 0 ((ck (1+(cuX b c 6)) (1+(cuX b (cuN b c 6) 5))).length):A)]⟩ (by kernel_rfl) (by kernel_rfl) ep (Nat.le_of_ble_eq_true rfl) (by(exact congrArg (fun z:Nat=>[A.sl 900 0 z]) (by(rw[hrl,hr3];rfl))))⟩
   ·skip
    have hfin:=r3_b hend hw6 (of_decide_eq_false c5)
    refine sk (sq (rg ?_))
    refine z ?_ (h:=fun Z=>aa (xs:=[(.sl 18 0 ((ck (1+(cuX b c 6)) (1+(cuX b (cuN b c 6) 5))).length):A)]) Z ep rfl (by decide) rfl)
    refine z ?_ (h:=fun _=>aw (cells:=[(.sl 18 0 ((ck (1+(cuX b c 6)) (1+(cuX b (cuN b c 6) 5))).length):A)]) ep xt (by exact rfl) (by decide) (by exact ob1 rfl) (by exact Nat.le_of_ble_eq_true rfl) (by exact rfl))
    refine nl (aq ?_)
    exact⟨[kP 2 2 0,kO 1 58 3 true [(.slv b.length 1 (ysl b):A),aI (((cuN b cz 3).i:Nat):Int),aI ((cuN b cz 3).h)],kO 2 26 1 true [(.sl 900 0 ((ck (1+(cuX b c 6)) (1+(cuX b (cuN b c 6) 5))).length):A)],kO 900 3 1 true (pl (isl R)),kF 5,kF 11,kF 14,kF 18,kF 20,kF 27,kF 30,kF 56,kF 60,kF 74,kF 75,kF 76,kF 77],wkf (bn [(900,18)]) (wS<|wX<|wX<|wP<|by(iterate 13 refine wF ?_);exact wN),⟨cw (c:=[(.slv b.length 1 (ysl b):A),aI (((cuN b cz 3).i:Nat):Int),aI ((cuN b cz 3).h)]) (by kernel_rfl) (by exact kM (congrArg Prod.snd hfin).symm _ _),cw (c:=pl (isl R)) (by kernel_rfl) (congrArg (fun z=>pl (isl z)) (by exact(congrArg Prod.fst hfin).symm)),trivial⟩,lm (h:=2) ⟨26,1,true,[(.sl 900 0 ((ck (1+(cuX b c 6)) (1+(cuX b (cuN b c 6) 5))).length):A)]⟩ (by kernel_rfl) (by kernel_rfl) ep (Nat.le_of_ble_eq_true rfl) (by(exact congrArg (fun z:Nat=>[A.sl 900 0 z]) (by(rw[hrl,hr3];rfl))))⟩
  ·skip
   have c4P:=of_decide_eq_false c4
   have hfin:=r3_a hend (by omega)
   refine rg (zm ?_)
   refine z ?_ (h:=fun Z=>ab Z vt vc (bP (c:=false) c4))
   refine zm (zo (zo ?_))
   refine z ?_ (h:=fun Z=>ao Z vt xc)
   refine nl (wf (sk (sq (rg ?_))))
   refine z ?_ (h:=fun Z=>aa (xs:=[(.sl 18 0 ((ck (1+(cuX b c 6)) (1+(cuX b (cuN b c 6) 5))).length):A)]) Z ep rfl (by decide) rfl)
   refine z ?_ (h:=fun _=>aw (cells:=[(.sl 18 0 ((ck (1+(cuX b c 6)) (1+(cuX b (cuN b c 6) 5))).length):A)]) ep xt (by exact rfl) (by decide) (by exact ob1 rfl) (by exact Nat.le_of_ble_eq_true rfl) (by exact rfl))
   refine nl (aq ?_)
   exact⟨[kP 2 2 0,kO 1 58 3 true [(.slv b.length 1 (ysl b):A),aI ((cz.i:Nat):Int),aI cz.h],kO 2 26 1 true [(.sl 900 0 ((ck (1+(cuX b c 6)) (1+(cuX b (cuN b c 6) 5))).length):A)],kO 900 3 1 true (pl (isl R)),kF 5,kF 11,kF 14,kF 18,kF 20,kF 27,kF 30,kF 56,kF 60,kF 74,kF 75,kF 76,kF 77],wkf (bn [(900,18)]) (wS<|wX<|wX<|wP<|by(iterate 13 refine wF ?_);exact wN),⟨cw (c:=[(.slv b.length 1 (ysl b):A),aI ((cz.i:Nat):Int),aI cz.h]) (by kernel_rfl) (by exact kM (congrArg Prod.snd hfin).symm _ _),cw (c:=pl (isl R)) (by kernel_rfl) (congrArg (fun z=>pl (isl z)) (by exact(congrArg Prod.fst hfin).symm)),trivial⟩,lm (h:=2) ⟨26,1,true,[(.sl 900 0 ((ck (1+(cuX b c 6)) (1+(cuX b (cuN b c 6) 5))).length):A)]⟩ (by kernel_rfl) (by kernel_rfl) ep (Nat.le_of_ble_eq_true rfl) (by(exact congrArg (fun z:Nat=>[A.sl 900 0 z]) (by(rw[hrl,hr3];rfl))))⟩
structure LT (R:List Int):Prop where
 ok:aU R=true
 len:(ltR R).length=cntR R
 pos:1≤cntR R∧cntR R≤300
 fst:ftR R=gLd (ltR R) 0
 til:∀ k,k<(ltR R).length→ct R (gLd (ltR R) k)=true
 ts:∀ k,k<(ltR R).length→TilS (ag R) (gLd (ltR R) k)
 lex:∀ k,0<k→k<(ltR R).length→LexN (gLd (ltR R) (k-1)) (gLd (ltR R) k)
 row:∀ k,k<(ltR R).length→(gLd (ltR R) k).length≤33
 eql:∀ k,0<k→k<(ltR R).length→(gLd (ltR R) (k-1)).length=(gLd (ltR R) k).length
 ix:∀ k,k<(ltR R).length→ixT (ltR R) (gLd (ltR R) k)=(k:Int)
theorem LT.of {R:List Int} (ho:aU R=true) (h1:1≤cnt (ag R)) (h2:cnt (ag R)≤300):LT R:=by
 have hs:=bb ho
 have hp:jj (ag R)<2*33:=by have:=oV (ag R);omega
 have hc:=lR ho
 have hlt:ltR R=tls 33 (ag R):=(oQ (bw.2 (by omega))).1
 have hlen:=zt 33 _ hs hp
 have hmem:∀ k,k<(ltR R).length→TilS (ag R) (gLd (ltR R) k):=fun k hk=>by
  refine(mQ (l:=R) ?_).2
  rw[ee hk];exact List.getElem_mem hk
 refine⟨ho,by rw[hlt,hlen,hc],by omega,?_,fun k hk=>bO ho (hmem k hk),hmem,fun k h0 hk=>Ko (by omega) hk,fun k hk=>oP hk,fun k h0 hk=> ?_,fun k hk=>Ho (xr R) hk⟩
 ·unfold ftR
  rw[if_neg (by omega),hlt,FV 33 _ hs hp (by omega)]
 ·have q1:=Eh hs (hmem (k-1) (by omega))
  have q2:=Eh hs (hmem k hk)
  omega
theorem FF:Tryz.prog.underlying 22=some (.slice 5):=Tryz.underlying22
theorem Ap (b:List Nat):Fn Tryz.prog 4 [.a (.slv b.length 1 (ysl b))] [.val (.bool (decide (1048576<((b.length:Nat):Int))))]:=by
 refine aN (N:=6) Tryz.func4 rfl (by kernel_rfl) rfl (Nat.le_of_ble_eq_true rfl) [4] (dB rfl) (fun W=> ?_)
 show Wp _ _ _ [kV 0 (V.b (.a (.slv b.length 1 (ysl b)))),kF 4]
 refine sq (rg (zk (nl (sq (rg (zm ?_))))))
 refine z ?_ (h:=fun Z=>lnV Z FF)
 refine z ?_ (h:=fun Z=>ab Z vt vc (oi rfl))
 refine za (nl (aq ?_))
 exact VRes.tmp _ _ _ (by exact rfl) (cc (congrArg Value.bool (by first |rfl |simp_all)))
end Cl
end Go.Proofs.YtonlghbbdcddoaaGreat
