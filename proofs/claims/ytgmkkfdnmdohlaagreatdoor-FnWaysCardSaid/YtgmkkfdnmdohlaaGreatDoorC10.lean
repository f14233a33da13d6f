/- Walks. -/
import Derived.Test.YtgmkkfdnmdohlaaGreatDoorC3
import Derived.Test.YtgmkkfdnmdohlaaGreatDoorClB
set_option linter.unusedSimpArgs false
set_option linter.unusedVariables false
namespace Go.Proofs.YtgmkkfdnmdohlaaGreatDoor
namespace Cl
open Go.ChangeShapes Go.WideShapes Go.ChangeAt Go.RowKit
set_option maxRecDepth 20000
def tc:Nat→Nat→(Nat→Bool)→Nat
 | 0,_,_=>1
 | f+1,i,p=>if p i=true then(if(decide (i%8<7)&&p (i+1))=true then tc f (i+1) (fun j=>p j&& !decide (j=i+1))else 0)+(if(decide (i+8<64)&&p (i+8))=true then tc f (i+1) (fun j=>p j&& !decide (j=i+8))else 0)else tc f (i+1) p
theorem kE:∀ (f i:Nat) (p q:Nat→Bool),(∀ j,i≤j→p j=q j)→tc f i p=tc f i q:=by
  intro f
  induction f with
  | zero=>intro i p q _;rfl
  | succ f ih=>
    intro i p q h
    unfold tc
    rw[h i (Nat.le_refl _),h (i+1) (by omega),h (i+8) (by omega)]
    rw[ih (i+1) (fun j=>p j&& !decide (j=i+1)) (fun j=>q j&& !decide (j=i+1)) (fun j hj=>by simp only[h j (by omega)])]
    rw[ih (i+1) (fun j=>p j&& !decide (j=i+8)) (fun j=>q j&& !decide (j=i+8)) (fun j hj=>by simp only[h j (by omega)])]
    rw[ih (i+1) p q (fun j hj=>h j (by omega))]
def el (L:List Int) (k:Nat) (n:Int):List Int:=L.set k (gI L k+n)
def dnB (s i:Nat):Bool:=decide (i+8<64)&&s.testBit (i+8)
def rtB (s i:Nat):Bool:=decide (i%8<7)&&s.testBit (i+1)
def gG (s i:Nat) (L:List Int) (k:Nat) (n:Int):List Int:=
  if n=0 then L
  else if s.testBit i=true then
    (if k.testBit (i%8)=true then el L (andn k (2^ (i%8))) n
     else if(rtB s i&& !k.testBit (i%8+1))=true then el (if dnB s i=true then el L (k|||2^ (i%8)) n else L) (k|||2^ (i%8+1)) n
     else if dnB s i=true then el L (k|||2^ (i%8)) n else L)
  else if k.testBit (i%8)=true then L else el L k n
def cT (s i:Nat) (now:List Int) (m:Nat):List Int:=(List.range m).foldl (fun L k=>gG s i L k (gI now k)) (List.replicate 256 0)
def bR (s:Nat):Nat→List Int
 | 0=>(List.replicate 256 0).set 0 1
 | i+1=>cT s i (bR s i) 256
def fB (L:List Int) (W:Nat→Int):Nat→Int
 | 0=>0
 | n+1=>fB L W n+gI L n*W n
theorem kR {L:List Int} (hL:L.length=256) (W:Nat→Int) {k:Nat} (v:Int):∀ n,n≤256→fB (el L k v) W n=fB L W n+(if k<n then v*W k else 0):=by
  intro n
  induction n with
  | zero=>intro _;simp [fB]
  | succ n ih=>
    intro hn
    unfold fB
    rw[ih (by omega),el,DY (by omega)]
    by_cases h:k=n
    · subst h
      rw[if_pos rfl,if_neg (by omega),if_pos (by omega),Int.add_mul];omega
    · rw[if_neg h]
      by_cases h2:k<n
      · rw[if_pos h2,if_pos (by omega)];omega
      · rw[if_neg h2,if_neg (by omega)];omega
theorem Ao (k:Nat):gI (List.replicate 256 0) k=0:=by unfold gI;rw[List.getD_eq_getElem?_getD,List.getElem?_replicate];split<;>rfl
theorem xm (W:Nat→Int):∀ n,fB (List.replicate 256 0) W n=0:=by
  intro n
  induction n with
  | zero=>rfl
  | succ n ih=>
    unfold fB
    rw[ih]
    have:gI (List.replicate 256 0) n=0:=by
      unfold gI;rw[List.getD_eq_getElem?_getD,List.getElem?_replicate];split<;>rfl
    rw[this];simp
theorem ta (L:List Int) (k:Nat) (n:Int):(el L k n).length=L.length:=by unfold el;simp
theorem CL (s i:Nat) (L:List Int) (k:Nat) (n:Int):(gG s i L k n).length=L.length:=by
 unfold gG;(repeat' split)<;>simp only[ta]
theorem hJ (s i:Nat) (now:List Int):∀ m,(cT s i now m).length=256:=by
 intro m
 induction m with
 | zero=>exact List.length_replicate
 | succ m ih=>unfold cT at*;rw[List.range_succ,List.foldl_append];simp only[List.foldl_cons,List.foldl_nil];rw[CL,ih]
theorem bt (s i:Nat) (now:List Int) (m:Nat):cT s i now (m+1)=gG s i (cT s i now m) m (gI now m):=by
 unfold cT;rw[List.range_succ,List.foldl_append];rfl
theorem kq (s:Nat):∀ i,(bR s i).length=256:=by
 intro i
 cases i with
 | zero=>rw[bR,List.length_set,List.length_replicate]
 | succ i=>exact hJ _ _ _ _
def tQ (s i k:Nat) (W:Nat→Int):Int:=
  if s.testBit i=true then
    (if k.testBit (i%8)=true then W (andn k (2^ (i%8)))
     else(if dnB s i=true then W (k|||2^ (i%8))else 0)+(if(rtB s i&& !k.testBit (i%8+1))=true then W (k|||2^ (i%8+1))else 0))
  else if k.testBit (i%8)=true then 0 else W k
theorem ij {k x:Nat} (hk:k<256) (hx:x<8):k|||2^ x<256:=Nat.or_lt_two_pow (n:=8) hk (Nat.pow_lt_pow_right (by decide) hx)
theorem lM {k m:Nat} (hk:k<256):andn k m<256:=by
 unfold andn;exact Nat.xor_lt_two_pow (n:=8) hk (Nat.lt_of_le_of_lt Nat.and_le_left hk)
theorem pC {s i:Nat} (h:rtB s i=true):i%8+1<8:=by
 unfold rtB at h;simp only[Bool.and_eq_true,decide_eq_true_eq]at h;omega
theorem Bz {L:List Int} (hL:L.length=256) (s i:Nat) {k:Nat} (hk:k<256) (n:Int) (W:Nat→Int):fB (gG s i L k n) W 256=fB L W 256+n*tQ s i k W:=by
 have hx:i%8<8:=Nat.mod_lt _ (by decide)
 unfold gG tQ
 by_cases hn:n=0
 ·rw[if_pos hn,hn];simp
 rw[if_neg hn]
 by_cases hs:s.testBit i=true
 ·rw[if_pos hs,if_pos hs]
  by_cases hb:k.testBit (i%8)=true
  ·rw[if_pos hb,if_pos hb,kR hL W n 256 (Nat.le_refl _),if_pos (lM hk)]
  ·rw[if_neg hb,if_neg hb]
   by_cases hr:(rtB s i&& !k.testBit (i%8+1))=true
   ·have hr1:i%8+1<8:=pC (by simp only[Bool.and_eq_true]at hr;exact hr.1)
    rw[if_pos hr,if_pos hr]
    by_cases hd:dnB s i=true
    ·rw[if_pos hd,if_pos hd,kR (by rw[ta];exact hL) W n 256 (Nat.le_refl _),if_pos (ij hk hr1),kR hL W n 256 (Nat.le_refl _),if_pos (ij hk hx),Int.mul_add];omega
    ·rw[if_neg hd,if_neg hd,kR hL W n 256 (Nat.le_refl _),if_pos (ij hk hr1)];simp
   ·rw[if_neg hr,if_neg hr]
    by_cases hd:dnB s i=true
    ·rw[if_pos hd,if_pos hd,kR hL W n 256 (Nat.le_refl _),if_pos (ij hk hx)];simp
    ·rw[if_neg hd,if_neg hd];simp
 ·rw[if_neg hs,if_neg hs]
  by_cases hb:k.testBit (i%8)=true
  ·rw[if_pos hb,if_pos hb];simp
  ·rw[if_neg hb,if_neg hb,kR hL W n 256 (Nat.le_refl _),if_pos hk]
theorem qd (s i:Nat) (now:List Int) (W:Nat→Int):∀ m,m≤256→fB (cT s i now m) W 256=fB now (fun k=>tQ s i k W) m:=by
  intro m
  induction m with
  | zero=>intro _;exact xm W 256
  | succ m ih=>
    intro hm
    rw[bt,Bz (hJ _ _ _ _) s i (by omega),ih (by omega)]
    rfl
def pc8 (k:Nat):Nat:=((List.range 8).filter k.testBit).length
theorem Kj (k:Nat):pc8 k≤8:=by unfold pc8;exact Nat.le_trans (List.length_filter_le _ _) (by simp)
theorem zr {k x:Nat} (hx:x<8) (h:k.testBit x=false):pc8 (k|||2^ x)=pc8 k+1:=by
 unfold pc8;rw[uv,if_pos ⟨h,hx⟩]
theorem EM {k x:Nat} (hx:x<8) (h:k.testBit x=true):pc8 (andn k (2^ x))+1=pc8 k:=by
 have h1:(andn k (2^ x)).testBit x=false:=by rw[cE,Nat.testBit_two_pow];simp
 have:=zr hx h1
 have e:andn k (2^ x)|||2^ x=k:=by
  apply Nat.eq_of_testBit_eq;intro i
  rw[Nat.testBit_or,cE,Nat.testBit_two_pow]
  by_cases hi:x=i
  ·subst hi;simp [h]
  ·simp [hi]
 rw[e]at this;exact this.symm
def uW (i k:Nat):Int:=((2^ ((72-i-pc8 k)/2):Nat):Int)
theorem tU (i k:Nat):1≤uW i k:=by
 have:0<2^ ((72-i-pc8 k)/2):=Nat.two_pow_pos _
 unfold uW;omega
theorem pw {a b:Nat} (h:a≤b):((2^ a:Nat):Int)≤((2^ b:Nat):Int):=by
 have:=Nat.pow_le_pow_right (n:=2) (by decide) h
 omega
theorem Kk {k x:Nat} (hx:x<8) (h:k.testBit x=false):pc8 k≤7:=by
 have h1:=zr hx h
 have h2:=Kj (k|||2^ x)
 omega
theorem Bk {i k:Nat} {x:Nat} (hi:i<64) (hx:x<8) (h:k.testBit x=false):uW (i+1) (k|||2^ x)+uW (i+1) (k|||2^ x)=uW i k:=by
 have h7:=Kk hx h
 unfold uW
 rw[zr hx h]
 have e:(72-i-pc8 k)/2=(72-(i+1)-(pc8 k+1))/2+1:=by omega
 rw[e,Nat.pow_succ];omega
theorem Ba (s:Nat) {i k:Nat} (hi:i<64):tQ s i k (uW (i+1))≤uW i k:=by
 have hx:i%8<8:=Nat.mod_lt _ (by decide)
 have h0:=tU i k
 unfold tQ
 by_cases hs:s.testBit i=true
 ·rw[if_pos hs]
  by_cases hb:k.testBit (i%8)=true
  ·rw[if_pos hb]
   have:=EM hx hb
   unfold uW;exact pw (by omega)
  ·rw[if_neg hb]
   simp only[Bool.not_eq_true]at hb
   have e1:=Bk hi hx hb
   have p1:=tU (i+1) (k|||2^ (i%8))
   by_cases hr:(rtB s i&& !k.testBit (i%8+1))=true
   ·rw[if_pos hr]
    simp only[Bool.and_eq_true,Bool.not_eq_true']at hr
    have hr1:=pC hr.1
    have e2:=Bk hi hr1 hr.2
    split<;>omega
   ·rw[if_neg hr]
    split<;>omega
 ·rw[if_neg hs]
  by_cases hb:k.testBit (i%8)=true
  ·rw[if_pos hb];omega
  ·rw[if_neg hb];unfold uW;exact pw (by omega)
def jp (L:List Int):Prop:=∀ k,0≤gI L k
theorem lg {L:List Int} (h:jp L) (k:Nat) {n:Int} (hn:0≤n):jp (el L k n):=by
 intro j
 have hk:=h k
 have hj:=h j
 unfold el
 generalize gI L k=g at*
 unfold gI at*
 rw[List.getD_eq_getElem?_getD,List.getElem?_set]
 split
 ·split
  ·simp only[Option.getD_some];omega
  ·exact Int.le_refl _
 ·rwa [List.getD_eq_getElem?_getD]at hj
theorem qU:jp (List.replicate 256 0):=by
 intro k;unfold gI;rw[List.getD_eq_getElem?_getD,List.getElem?_replicate];split<;>exact Int.le_refl _
theorem wu {L:List Int} (h:jp L) (s i k:Nat) {n:Int} (hn:0≤n):jp (gG s i L k n):=by
 unfold gG
 (repeat' split)<;>first |exact h |exact lg h _ hn |exact lg (lg h _ hn) _ hn
theorem oX {now:List Int} (h:jp now) (s i:Nat):∀ m,jp (cT s i now m):=by
 intro m
 induction m with
 | zero=>exact qU
 | succ m ih=>rw[bt];exact wu ih _ _ _ (h m)
theorem fR (s:Nat):∀ i,jp (bR s i):=by
  intro i
  induction i with
  | zero=>
    have e:(List.replicate 256 (0:Int)).set 0 1=el (List.replicate 256 0) 0 1:=by
      unfold el;rw[Ao];rfl
    rw[bR,e];exact lg qU 0 (by decide)
  | succ i ih=>exact oX ih _ _ _
theorem DJ {L:List Int} (h:jp L) {W V:Nat→Int} (hw:∀ k,W k≤V k):∀ n,fB L W n≤fB L V n:=by
 intro n
 induction n with
 | zero=>exact Int.le_refl _
 | succ n ih=>rw[show fB L W (n+1)=fB L W n+gI L n*W n from rfl,show fB L V (n+1)=fB L V n+gI L n*V n from rfl];have:=Int.mul_le_mul_of_nonneg_left (hw n) (h n);omega
theorem ss {L:List Int} (h:jp L) {W:Nat→Int} (hw:∀ k,0≤W k) {m n:Nat} (hmn:m≤n):fB L W m≤fB L W n:=by
  induction n with
  | zero => have:m=0:=by omega
            subst this;exact Int.le_refl _
  | succ n ih=>
    rcases Nat.lt_or_ge n m with h1 |h1
    · have:m=n+1:=by omega
      subst this;exact Int.le_refl _
    · rw[show fB L W (n+1)=fB L W n+gI L n*W n from rfl];have:=Int.mul_nonneg (h n) (hw n);have:=ih h1;omega
theorem DI {L:List Int} (h:jp L) {W:Nat→Int} (hw:∀ k,1≤W k) {k:Nat}:∀ n,k<n→gI L k≤fB L W n:=by
 intro n hk
 have h1:=ss h (W:=W) (fun k=>by have:=hw k;omega) (show k+1≤n by omega)
 have h2:0≤fB L W k:=by
  have:=ss h (W:=W) (fun k=>by have:=hw k;omega) (Nat.zero_le k)
  exact this
 have h3:=Int.mul_le_mul_of_nonneg_left (hw k) (h k)
 rw[show fB L W (k+1)=fB L W k+gI L k*W k from rfl]at h1
 omega
theorem xj (W:Nat→Int):fB ((List.replicate 256 0).set 0 1) W 256=W 0:=by
 have e:(List.replicate 256 (0:Int)).set 0 1=el (List.replicate 256 0) 0 1:=by
  unfold el;rw[Ao];rfl
 rw[e,kR List.length_replicate W 1 256 (Nat.le_refl _),xm];simp
theorem xk (s:Nat):∀ i,i≤64→fB (bR s i) (uW i) 256≤68719476736:=by
  intro i
  induction i with
  | zero=>intro _;rw[bR,xj];decide
  | succ i ih=>
    intro hi
    rw[bR,qd _ _ _ _ 256 (Nat.le_refl _)]
    exact Int.le_trans (DJ (fR s i) (fun k=>Ba s (by omega)) 256) (ih (by omega))
theorem pi {s i:Nat} (hi:i≤64) {k:Nat} (hk:k<256):0≤gI (bR s i) k∧gI (bR s i) k≤68719476736:=
 ⟨fR s i k,Int.le_trans (DI (fR s i) (tU i) 256 hk) (xk s i hi)⟩
theorem rT {s i:Nat} (hi:i<64) {m k:Nat} (hm:m≤256) (hk:k<256):0≤gI (cT s i (bR s i) m) k∧gI (cT s i (bR s i) m) k≤68719476736:=by
 have hn:=oX (fR s i) s i m
 refine⟨hn k,Int.le_trans (DI hn (tU (i+1)) 256 hk) ?_⟩
 rw[qd _ _ _ _ m hm]
 refine Int.le_trans (DJ (fR s i) (fun k=>Ba s hi) m) ?_
 exact Int.le_trans (ss (fR s i) (fun k=>by have:=tU i k;omega) hm) (xk s i (by omega))
def jy (s i k j:Nat):Bool:=s.testBit j&& !(decide (j<i+8)&&k.testBit (j%8))
def rG (s i k:Nat):Bool:=(List.range 8).all fun t=> !k.testBit ((i+t)%8)||s.testBit (i+t)
theorem fH {s i k:Nat}:rG s i k=true↔∀ j,i≤j→j<i+8→k.testBit (j%8)=true→s.testBit j=true:=by
 unfold rG
 simp only[List.all_eq_true,List.mem_range,Bool.or_eq_true,Bool.not_eq_true']
 constructor
 ·intro h j h1 h2 h3
  have:=h (j-i) (by omega)
  rw[show i+(j-i)=j by omega]at this
  rcases this with h4 |h4
  ·rw[h4]at h3;cases h3
  ·exact h4
 ·intro h t ht
  rcases Bool.eq_false_or_eq_true (k.testBit ((i+t)%8))with h1 |h1
  ·exact .inr (h (i+t) (by omega) (by omega) h1)
  ·exact .inl h1
def tW (s i k:Nat):Int:=if rG s i k=true then((tc (64-i) i (jy s i k):Nat):Int)else 0
theorem vQ (k x y:Nat):(k|||2^ x).testBit y=(k.testBit y||decide (x=y)):=by rw[Nat.testBit_or,Nat.testBit_two_pow]
theorem yP (k x y:Nat):(andn k (2^ x)).testBit y=(k.testBit y&& !decide (x=y)):=by rw[cE,Nat.testBit_two_pow]
theorem Bn {s i k x:Nat} (hi:s.testBit i=true) (hb:k.testBit (i%8)=false) (j:Nat) (hj1:i+1≤j) (hj2:j<i+9) (hjx:j%8=x) (hj:s.testBit j=true):rG s (i+1) (k|||2^ x)=rG s i k:=by
 rw[Bool.eq_iff_iff,fH,fH]
 constructor
 ·intro h m h1 h2 h3
  rcases Nat.eq_or_lt_of_le h1 with rfl |h4
  ·exact hi
  ·exact h m h4 (by omega) (by rw[vQ,h3];rfl)
 ·intro h m h1 h2 h3
  rw[vQ,Bool.or_eq_true,decide_eq_true_eq]at h3
  rcases h3 with h3 |h3
  ·rcases Nat.lt_or_ge m (i+8)with h4 |h4
   ·exact h m (by omega) h4 h3
   ·have:m%8=i%8:=by omega
    rw[this,hb]at h3;cases h3
  ·have:m=j:=by omega
   subst this;exact hj
theorem Fm {s i k x:Nat} (hb:k.testBit (i%8)=false) (j:Nat) (hj1:i+1≤j) (hj2:j<i+9) (hjx:j%8=x) (m:Nat) (hm:i+1≤m):jy s (i+1) (k|||2^ x) m=(jy s i k m&& !decide (m=j)):=by
 unfold jy
 rw[vQ]
 by_cases h1:m<i+8
 ·have e1:decide (m<i+1+8)=true:=by simp;omega
  have e2:decide (m<i+8)=true:=by simp;omega
  have e3:decide (x=m%8)=decide (m=j):=by rw[decide_eq_decide];omega
  rw[e1,e2,e3];cases s.testBit m<;>cases k.testBit (m%8)<;>cases decide (m=j)<;>rfl
 ·have e2:decide (m<i+8)=false:=by simp;omega
  rw[e2]
  by_cases h2:m<i+9
  ·have e1:decide (m<i+1+8)=true:=by simp;omega
   have e4:m%8=i%8:=by omega
   have e3:decide (x=i%8)=decide (m=j):=by rw[decide_eq_decide];omega
   rw[e1,e4,e3,hb];cases s.testBit m<;>cases decide (m=j)<;>rfl
  ·have e1:decide (m<i+1+8)=false:=by simp;omega
   have e3:decide (m=j)=false:=by simp;omega
   rw[e1,e3];simp
theorem Iq {s:Nat} (hs64:s<18446744073709551616) {i k:Nat} (hi:i<64):tQ s i k (tW s (i+1))=tW s i k:=by
 have hx:i%8<8:=Nat.mod_lt _ (by decide)
 have ef:64-i=(64-(i+1))+1:=by omega
 have hov:∀ j,64≤j→s.testBit j=false:=fun j hj=>Nat.testBit_lt_two_pow (Nat.lt_of_lt_of_le hs64 (Nat.pow_le_pow_right (n:=2) (i:=64) (by decide) hj))
 unfold tQ
 by_cases hs:s.testBit i=true
 ·rw[if_pos hs]
  by_cases hb:k.testBit (i%8)=true
  ·rw[if_pos hb]
   have hv:rG s (i+1) (andn k (2^ (i%8)))=rG s i k:=by
    rw[Bool.eq_iff_iff,fH,fH]
    constructor
    ·intro h m h1 h2 h3
     rcases Nat.eq_or_lt_of_le h1 with rfl |h4
     ·exact hs
     ·exact h m h4 (by omega) (by rw[yP,h3];simp;omega)
    ·intro h m h1 h2 h3
     rw[yP,Bool.and_eq_true,Bool.not_eq_true',decide_eq_false_iff_not]at h3
     rcases Nat.lt_or_ge m (i+8)with h4 |h4
     ·exact h m (by omega) h4 h3.1
     ·exact absurd (by omega) h3.2
   unfold tW
   rw[hv]
   split
   ·have hr:jy s i k i=false:=by unfold jy;rw[hb];simp
    rw[ef,tc,if_neg (by rw[hr];simp)]
    congr 1
    apply kE
    intro m hm
    unfold jy
    rw[yP]
    by_cases h1:m<i+8
    ·have e1:decide (m<i+1+8)=true:=by simp;omega
     have e2:decide (m<i+8)=true:=by simp;omega
     have e3:decide (i%8=m%8)=false:=by simp;omega
     rw[e1,e2,e3];simp
    ·have e2:decide (m<i+8)=false:=by simp;omega
     rw[e2]
     by_cases h2:m<i+9
     ·have e3:decide (i%8=m%8)=true:=by simp;omega
      rw[e3];simp
     ·have e1:decide (m<i+1+8)=false:=by simp;omega
      rw[e1];rfl
   ·rfl
  ·rw[if_neg hb]
   simp only[Bool.not_eq_true]at hb
   have hr:jy s i k i=true:=by unfold jy;rw[hb,hs];simp
   have rd:jy s i k (i+8)=s.testBit (i+8):=by unfold jy;simp
   have rr:(decide (i%8<7)&&jy s i k (i+1))=(rtB s i&& !k.testBit (i%8+1)):=by
    unfold jy rtB
    by_cases h7:i%8<7
    ·have:(i+1)%8=i%8+1:=by omega
     rw[this];simp [Bool.and_assoc]
    ·simp [h7]
   have rd2:(decide (i+8<64)&&jy s i k (i+8))=dnB s i:=by rw[rd];rfl
   have key:tW s i k=if rG s i k=true then(((if(rtB s i&& !k.testBit (i%8+1))=true then tc (64-(i+1)) (i+1) (fun j=>jy s i k j&& !decide (j=i+1))else 0)+(if dnB s i=true then tc (64-(i+1)) (i+1) (fun j=>jy s i k j&& !decide (j=i+8))else 0):Nat):Int)else 0:=by
    unfold tW
    rw[ef,tc,if_pos hr,rr,rd2]
   rw[key]
   have hd:dnB s i=true→tW s (i+1) (k|||2^ (i%8))=if rG s i k=true then((tc (64-(i+1)) (i+1) (fun j=>jy s i k j&& !decide (j=i+8)):Nat):Int)else 0:=by
    intro h
    unfold dnB at h;simp only[Bool.and_eq_true,decide_eq_true_eq]at h
    unfold tW
    rw[Bn hs hb (i+8) (by omega) (by omega) (by omega) h.2]
    rw[kE _ _ _ _ (fun m hm=>Fm (s:=s) hb (i+8) (by omega) (by omega) (by omega) m hm)]
   have hr':(rtB s i&& !k.testBit (i%8+1))=true→tW s (i+1) (k|||2^ (i%8+1))=if rG s i k=true then((tc (64-(i+1)) (i+1) (fun j=>jy s i k j&& !decide (j=i+1)):Nat):Int)else 0:=by
    intro h
    unfold rtB at h;simp only[Bool.and_eq_true,decide_eq_true_eq]at h
    unfold tW
    rw[Bn hs hb (i+1) (by omega) (by omega) (by omega) h.1.2]
    rw[kE _ _ _ _ (fun m hm=>Fm (s:=s) hb (i+1) (by omega) (by omega) (by omega) m hm)]
   by_cases h1:(rtB s i&& !k.testBit (i%8+1))=true
   ·rw[if_pos h1,if_pos h1,hr' h1]
    by_cases h2:dnB s i=true
    ·rw[if_pos h2,if_pos h2,hd h2];split<;>omega
    ·rw[if_neg h2,if_neg h2];split<;>omega
   ·rw[if_neg h1,if_neg h1]
    by_cases h2:dnB s i=true
    ·rw[if_pos h2,if_pos h2,hd h2];split<;>omega
    ·rw[if_neg h2,if_neg h2];split<;>omega
 ·rw[if_neg hs]
  by_cases hb:k.testBit (i%8)=true
  ·rw[if_pos hb]
   unfold tW
   rw[if_neg]
   rw[fH]
   intro h
   exact hs (h i (Nat.le_refl _) (by omega) hb)
  ·rw[if_neg hb]
   simp only[Bool.not_eq_true]at hb hs
   have hv:rG s (i+1) k=rG s i k:=by
    rw[Bool.eq_iff_iff,fH,fH]
    constructor
    ·intro h m h1 h2 h3
     rcases Nat.eq_or_lt_of_le h1 with rfl |h4
     ·rw[hb]at h3;cases h3
     ·exact h m h4 (by omega) h3
    ·intro h m h1 h2 h3
     rcases Nat.lt_or_ge m (i+8)with h4 |h4
     ·exact h m (by omega) h4 h3
     ·rw[show m%8=i%8 by omega,hb]at h3;cases h3
   unfold tW
   rw[hv]
   split
   ·have hr:jy s i k i=false:=by unfold jy;rw[hs];simp
    rw[ef,tc,if_neg (by rw[hr];simp)]
    congr 1
    apply kE
    intro m hm
    unfold jy
    by_cases h1:m<i+8
    ·have e1:decide (m<i+1+8)=true:=by simp;omega
     have e2:decide (m<i+8)=true:=by simp;omega
     rw[e1,e2]
    ·have e2:decide (m<i+8)=false:=by simp;omega
     rw[e2]
     by_cases h2:m<i+9
     ·rw[show m%8=i%8 by omega,hb];simp
     ·have e1:decide (m<i+1+8)=false:=by simp;omega
      rw[e1]
   ·rfl
theorem JB {L:List Int} {W V:Nat→Int} (hw:∀ k,W k=V k) (n:Nat):fB L W n=fB L V n:=by
 have:W=V:=funext hw
 rw[this]
theorem JC {s:Nat} (hs:s<18446744073709551616):∀ i,i≤64→fB (bR s i) (tW s i) 256=tW s 0 0:=by
  intro i
  induction i with
  | zero=>intro _;rw[bR,xj]
  | succ i ih=>
    intro hi
    rw[bR,qd _ _ _ _ 256 (Nat.le_refl _),JB (fun k=>Iq hs (k:=k) (by omega)) 256,ih (by omega)]
theorem GE {L:List Int} {W:Nat→Int} (h:∀ k,0<k→k<256→W k=0):∀ n,0<n→n≤256→fB L W n=gI L 0*W 0:=by
  intro n
  induction n with
  | zero=>intro h;omega
  | succ n ih=>
    intro _ hn
    unfold fB
    rcases Nat.eq_zero_or_pos n with rfl |hp
    · simp [fB]
    · rw[ih hp (by omega),h n hp (by omega)];simp
def cnt (s:Nat):Nat:=tc 64 0 s.testBit
theorem sZ {s:Nat} (hs:s<18446744073709551616):gI (bR s 64) 0=((cnt s:Nat):Int):=by
 have h:=JC hs 64 (Nat.le_refl _)
 have hov:∀ j,64≤j→s.testBit j=false:=fun j hj=>Nat.testBit_lt_two_pow (Nat.lt_of_lt_of_le hs (Nat.pow_le_pow_right (n:=2) (i:=64) (by decide) hj))
 rw[GE (fun k h1 h2=> ?_) 256 (by decide) (Nat.le_refl _)]at h
 ·have e0:tW s 64 0=1:=by
   unfold tW
   rw[if_pos]
   ·rfl
   ·rw[fH];intro j _ _ h3;rw[Nat.zero_testBit]at h3;cases h3
  have e1:tW s 0 0=((cnt s:Nat):Int):=by
   unfold tW
   rw[if_pos]
   ·unfold cnt
    rw[Nat.sub_zero,kE 64 0 (jy s 0 0) s.testBit (fun j _=>by unfold jy;rw[Nat.zero_testBit];simp)]
   ·rw[fH];intro j _ _ h3;rw[Nat.zero_testBit]at h3;cases h3
  rw[e0,e1]at h
  generalize gI (bR s 64) 0=z at*
  omega
 ·unfold tW
  rw[if_neg]
  rw[fH]
  intro h3
  obtain⟨x,hx⟩:=Nat.exists_testBit_of_ne_zero (show k≠0 by omega)
  have hx8:x<8:=by
   rcases Nat.lt_or_ge x 8 with h4 |h4
   ·exact h4
   ·rw[Nat.testBit_lt_two_pow (Nat.lt_of_lt_of_le h2 (Nat.pow_le_pow_right (n:=2) (i:=8) (by decide) h4))]at hx;cases hx
  have:=h3 (64+x) (by omega) (by omega) (by rw[show(64+x)%8=x by omega];exact hx)
  rw[hov _ (by omega)]at this;cases this
theorem Dq {s:Nat} (hs:s<18446744073709551616):cnt s≤68719476736:=by
 have:=(pi (s:=s) (i:=64) (by decide) (k:=0) (by decide)).2
 rw[sZ hs]at this;omega
theorem wK {p:Nat→Bool}:∀ i,i≤64→(∀ j,j<i→p j=false)→tc 64 0 p=tc (64-i) i p:=by
  intro i
  induction i with
  | zero=>intro _ _;rfl
  | succ i ih=>
    intro hi h
    rw[ih (by omega) (fun j hj=>h j (by omega)),show 64-i=(64-(i+1))+1 by omega,tc,if_neg (by rw[h i (by omega)];simp)]
theorem Jr {s:Nat} (hs:s<18446744073709551616) {j:Nat} (hj:64≤j):s.testBit j=false:=
 Nat.testBit_lt_two_pow (Nat.lt_of_lt_of_le hs (Nat.pow_le_pow_right (n:=2) (i:=64) (by decide) hj))
def aF (s:Nat):Nat:=(List.range 64).findIdx s.testBit
theorem ed {s:Nat} (hs:s<18446744073709551616) (h0:s≠0):aF s<64∧s.testBit (aF s)=true:=by
 obtain⟨x,hx⟩:=Nat.exists_testBit_of_ne_zero h0
 have hx64:x<64:=by
  rcases Nat.lt_or_ge x 64 with h |h
  ·exact h
  ·rw[Jr hs h]at hx;cases hx
 have hlt:(List.range 64).findIdx s.testBit<(List.range 64).length:=List.findIdx_lt_length_of_exists ⟨x,by simpa using hx64,hx⟩
 have h2:=List.findIdx_getElem (w:=hlt)
 refine⟨by simpa [aF] using hlt,?_⟩
 simpa [aF] using h2
theorem kX {s j:Nat} (hj:j<aF s):s.testBit j=false:=by
 unfold aF at hj
 have h1:=List.not_of_lt_findIdx hj
 simpa using h1
def dmn (i:Nat) (b:Bool):Dom:=⟨(cN i).x,(cN i).y,b⟩
theorem okD_r {i:Nat} (h:i<64):okD (dmn i false)=decide (i%8<7):=by
 unfold okD okd dmn
 rw[Bool.eq_iff_iff,Bool.and_eq_true,decide_eq_true_eq]
 simp only[Bool.false_eq_true,if_false,bL]
 unfold cN;dsimp only;omega
theorem okD_d {i:Nat} (h:i<64):okD (dmn i true)=decide (i+8<64):=by
 unfold okD okd dmn
 rw[Bool.eq_iff_iff,Bool.and_eq_true,decide_eq_true_eq]
 simp only[if_true,bL]
 unfold cN;dsimp only;omega
theorem pV {i:Nat} (b:Bool) (h:i<64):idx (ca (dmn i b))=i:=eU h
theorem cb_r (i:Nat) (h:i<64) (h2:i%8<7):idx (cb (dmn i false))=i+1:=by
 unfold cb dmn idx cN;simp only[Bool.false_eq_true,if_false];omega
theorem cb_d (i:Nat) (h:i<64):idx (cb (dmn i true))=i+8:=by
 unfold cb dmn idx cN;simp only[if_true];omega
def dZ (s:Nat) (d:Dom):Bool:=okD d&&decide (s&&&domS d=domS d)
theorem yM (s d:Nat):(s&&&d=d)↔∀ i,d.testBit i=true→s.testBit i=true:=by
 constructor
 ·intro h i hi
  rw[←h,Nat.testBit_and,Bool.and_eq_true]at hi;exact hi.1
 ·intro h
  apply Nat.eq_of_testBit_eq;intro i
  rw[Nat.testBit_and]
  rcases Bool.eq_false_or_eq_true (d.testBit i)with e |e
  ·rw[e,h i e];rfl
  ·rw[e];simp
theorem oK (s:Nat) (d:Dom):decide (s&&&domS d=domS d)=(s.testBit (idx (ca d))&&s.testBit (idx (cb d))):=by
 rw[Bool.eq_iff_iff,decide_eq_true_eq,yM,Bool.and_eq_true]
 constructor
 ·intro h;exact⟨h _ (by rw[ec];simp),h _ (by rw[ec];simp)⟩
 ·rintro⟨h1,h2⟩ i hi
  rw[ec,Bool.or_eq_true,decide_eq_true_eq,decide_eq_true_eq]at hi
  rcases hi with rfl |rfl
  ·exact h1
  ·exact h2
theorem fit_r {s i:Nat} (h:i<64) (hb:s.testBit i=true):dZ s (dmn i false)=(decide (i%8<7)&&s.testBit (i+1)):=by
 unfold dZ
 rw[okD_r h,oK,pV _ h]
 by_cases h7:i%8<7
 ·rw[cb_r i h h7,hb];simp
 ·simp [h7]
theorem fit_d {s i:Nat} (h:i<64) (hb:s.testBit i=true):dZ s (dmn i true)=(decide (i+8<64)&&s.testBit (i+8)):=by
 unfold dZ
 rw[okD_d h,oK,pV _ h,cb_d i h,hb];simp
theorem Aa {s i:Nat} {d:Dom} {b:Nat} (hi:i<64) (hmin:∀ j,j<i→s.testBit j=false) (h1:idx (ca d)=i) (h2:idx (cb d)=b) (hb:i<b):
  tc (64-(i+1)) (i+1) (fun j=>s.testBit j&& !decide (j=b))=cnt (andn s (domS d)):=by
 unfold cnt
 rw[wK (i+1) (by omega)]
 ·apply kE
  intro j hj
  rw[cE,ec,h1,h2]
  have e1:decide (i=j)=false:=by simp;omega
  have e2:decide (b=j)=decide (j=b):=by rw[decide_eq_decide];omega
  rw[e1,e2];simp
 ·intro j hj
  rw[cE,ec,h1]
  rcases Nat.lt_or_ge j i with h3 |h3
  ·rw[hmin j h3];rfl
  ·have e1:decide (i=j)=true:=by simp;omega
   rw[e1];simp
theorem zZ {s:Nat} (hs:s<18446744073709551616) (h0:s≠0):
    cnt s=(if dZ s (dmn (aF s) false)=true then cnt (andn s (domS (dmn (aF s) false)))else 0)+(if dZ s (dmn (aF s) true)=true then cnt (andn s (domS (dmn (aF s) true)))else 0):=by
  obtain⟨hi,hb⟩:=ed hs h0
  have hmin:∀ j,j<aF s→s.testBit j=false:=fun j hj=>kX hj
  rw[fit_r hi hb,fit_d hi hb]
  rw[show cnt s=tc 64 0 s.testBit from rfl,wK (aF s) (by omega) hmin,show 64-aF s=(64-(aF s+1))+1 by omega,tc,if_pos hb]
  congr 1
  · by_cases h:(decide (aF s%8<7)&&s.testBit (aF s+1))=true
    · rw[if_pos h,if_pos h]
      exact Aa hi hmin (pV _ hi) (cb_r _ hi (by simp only[Bool.and_eq_true,decide_eq_true_eq]at h;exact h.1)) (by omega)
    · rw[if_neg h,if_neg h]
  · by_cases h:(decide (aF s+8<64)&&s.testBit (aF s+8))=true
    · rw[if_pos h,if_pos h]
      exact Aa hi hmin (pV _ hi) (cb_d _ hi) (by omega)
    · rw[if_neg h,if_neg h]
theorem Dr:cnt 0=1:=by
 unfold cnt
 rw[wK 64 (Nat.le_refl _) (fun j _=>Nat.zero_testBit j)];rfl
theorem yX {s:Nat} {d:Dom} (h:dZ s d=true):okD d=true∧s.testBit (idx (ca d))=true∧s.testBit (idx (cb d))=true:=by
 unfold dZ at h
 rw[oK]at h
 simp only[Bool.and_eq_true]at h
 exact⟨h.1,h.2.1,h.2.2⟩
theorem gr {s:Nat} {d:Dom} (h:dZ s d=true):jC (andn s (domS d))+2=jC s:=by
 obtain⟨h1,h2,h3⟩:=yX h
 have e:andn s (domS d)|||domS d=s:=by
  apply Nat.eq_of_testBit_eq;intro i
  rw[Nat.testBit_or,cE,ec]
  by_cases ha:idx (ca d)=i
  ·subst ha;simp [h2]
  ·by_cases hb:idx (cb d)=i
   ·subst hb;simp [h3]
   ·simp [ha,hb]
 have:=EO (s:=andn s (domS d)) h1 (by rw[cE,ec];simp) (by rw[cE,ec];simp)
 rw[e]at this;exact this.symm
def pick (s:Nat):Dom:=if(dZ s (dmn (aF s) false)&& !decide (cnt (andn s (domS (dmn (aF s) false)))=0))=true then dmn (aF s) false else dmn (aF s) true
theorem HC {s:Nat} (hs:s<18446744073709551616) (h0:s≠0) (hc:0<cnt s):dZ s (pick s)=true∧0<cnt (andn s (domS (pick s))):=by
 rw[zZ hs h0]at hc
 unfold pick
 by_cases h:(dZ s (dmn (aF s) false)&& !decide (cnt (andn s (domS (dmn (aF s) false)))=0))=true
 ·rw[if_pos h]
  simp only[Bool.and_eq_true,Bool.not_eq_true',decide_eq_false_iff_not]at h
  exact⟨h.1,by omega⟩
 ·rw[if_neg h]
  have e:(if dZ s (dmn (aF s) false)=true then cnt (andn s (domS (dmn (aF s) false)))else 0)=0:=by
   split
   ·rename_i h1
    rw[h1]at h
    simpa using h
   ·rfl
  rw[e,Nat.zero_add]at hc
  split at hc
  ·rename_i h1;exact⟨h1,hc⟩
  ·omega
def ftl:Nat→Nat→List Dom
 | 0,_=>[]
 | n+1,s=>if s=0 then []else pick s::ftl n (andn s (domS (pick s)))
def tls:Nat→Nat→List (List Dom)
  | 0,_=>[]
  | n+1,s=>if s=0 then [[]]else
      (if dZ s (dmn (aF s) false)=true then(tls n (andn s (domS (dmn (aF s) false)))).map (dmn (aF s) false:: ·)else [])++
      (if dZ s (dmn (aF s) true)=true then(tls n (andn s (domS (dmn (aF s) true)))).map (dmn (aF s) true:: ·)else [])
theorem wM:∀ n s,s<18446744073709551616→jC s<2*n→(tls n s).length=cnt s:=by
  intro n
  induction n with
  | zero=>intro s _ h;omega
  | succ n ih=>
    intro s hs hp
    unfold tls
    by_cases h0:s=0
    · rw[if_pos h0,h0,Dr];rfl
    · rw[if_neg h0,zZ hs h0,List.length_append]
      congr 1
      · split
        · rename_i h
          rw[List.length_map,ih _ (ff hs) (by have:=gr h;omega)]
        · rfl
      · split
        · rename_i h
          rw[List.length_map,ih _ (ff hs) (by have:=gr h;omega)]
        · rfl
def cntR (l:List Int):Nat:=if bj l=true then cnt (ao l)else 0
theorem Kh:∀ a,a<256→∀ x,x<8→(a|||2^ x)=andn a (2^ x)+2^ x:=by decide+kernel
theorem shlI {a b:Int} {m n:Nat} (ha:a=(m:Int)) (hb:b=(n:Int)) (hn:n≤64) (hm:m<<<n<9223372036854775808):IntKind.i64.wrap (a*2^ (min b.toNat IntKind.i64.bits))=((m<<<n:Nat):Int):=by
 subst ha;subst hb
 have e:min ((n:Int)).toNat IntKind.i64.bits=n:=by
  simp only[Int.toNat_natCast,IntKind.bits];omega
 rw[e]
 have e2:((m:Int)*2^ n)=((m<<<n:Nat):Int):=by rw[Nat.shiftLeft_eq];push_cast;rfl
 rw[e2];exact ox hm
theorem andnI {a b:Int} {m n:Nat} (ha:a=(m:Int)) (hb:b=(n:Int)) (hm:m<9223372036854775808) (hn:n<9223372036854775808):IntKind.i64.wrap ((BitVec.ofInt IntKind.i64.bits a)&&& ~~~(BitVec.ofInt IntKind.i64.bits b)).toNat=((andn m n:Nat):Int):=by
 have e1:(BitVec.ofInt IntKind.i64.bits a).toNat=m:=rj ha (by omega)
 have e2:(BitVec.ofInt IntKind.i64.bits b).toNat=n:=rj hb (by omega)
 have e:((BitVec.ofInt IntKind.i64.bits a)&&& ~~~(BitVec.ofInt IntKind.i64.bits b)).toNat=andn m n:=by
  apply Nat.eq_of_testBit_eq
  intro i
  rw[cE,BitVec.testBit_toNat,BitVec.getLsbD_and,BitVec.getLsbD_not,←BitVec.testBit_toNat,←BitVec.testBit_toNat,e1,e2]
  by_cases hi:i<64
  ·have:i<IntKind.i64.bits:=hi
   simp [this]
  ·have:m.testBit i=false:=Nat.testBit_lt_two_pow (Nat.lt_of_lt_of_le hm (Nat.pow_le_pow_right (n:=2) (i:=63) (by decide) (by omega)))
   simp [this]
 rw[e]
 exact ox (by unfold andn;exact Nat.xor_lt_two_pow (n:=63) hm (Nat.lt_of_le_of_lt Nat.and_le_left hm))
def wth (x n:Int):Int:=if x<0 then 1 else n
theorem nJ {x n:Int} (h:0≤x):wth x n=n:=by unfold wth;rw[if_neg (by omega)]
theorem yx (k:Nat):(List.replicate 256 (0:Int)).set k 0=List.replicate 256 0:=by
 apply List.ext_getElem
 ·simp only[List.length_set]
 ·intro i h1 h2;rw[List.getElem_set,List.getElem_replicate];split<;>rfl
theorem we {s i:Nat} (hi:i<64):bO s ⟨(cN i).x,(cN i).y+1⟩=dnB s i:=by
 unfold bO dnB
 by_cases h:i+8<64
 ·have e:(⟨(cN i).x,(cN i).y+1⟩:Cel)=cN (i+8):=by unfold cN;simp only[Cel.mk.injEq];omega
  rw[e,fP h,eU h];simp [h]
 ·have e:okc (cN i).x ((cN i).y+1)=false:=by
   rcases Bool.eq_false_or_eq_true (okc (cN i).x ((cN i).y+1))with q |q
   ·have:=bL.1 q;unfold cN at this;dsimp only at this;omega
   ·exact q
  simp only[e];simp [h]
theorem qj {s i:Nat} (hi:i<64):bO s ⟨(cN i).x+1,(cN i).y⟩=rtB s i:=by
 unfold bO rtB
 by_cases h:i%8<7
 ·have e:(⟨(cN i).x+1,(cN i).y⟩:Cel)=cN (i+1):=by unfold cN;simp only[Cel.mk.injEq];omega
  rw[e,fP (by omega),eU (by omega)];simp [h]
 ·have e:okc ((cN i).x+1) (cN i).y=false:=by
   rcases Bool.eq_false_or_eq_true (okc ((cN i).x+1) (cN i).y)with q |q
   ·have:=bL.1 q;unfold cN at this;dsimp only at this;omega
   ·exact q
  simp only[e];simp [h]
theorem IX {s i:Nat} (hi:i<64):bO s (cN i)=s.testBit i:=by unfold bO;rw[fP hi,eU hi];rfl
theorem Gn (k x:Nat):k&&&2^ x=if k.testBit x=true then 2^ x else 0:=by
 apply Nat.eq_of_testBit_eq;intro i
 rw[Nat.testBit_and,Nat.testBit_two_pow]
 by_cases h:x=i
 ·subst h;cases e:k.testBit x<;>simp
 ·cases e:k.testBit x<;>simp [h]
theorem and0 {k x:Nat} {b:Bool} (h:decide (((k&&&2^ x:Nat):Int)=0)=b):k.testBit x= !b:=by
 subst h
 rw[Gn]
 have:=Nat.two_pow_pos x
 cases e:k.testBit x
 ·simp
 ·simp only[if_true]
  rw[decide_eq_false (by omega)];rfl
theorem and1 {k x:Nat} {b:Bool} (h:decide (((k&&&((2^ x)<<<1):Nat):Int)=0)=b):k.testBit (x+1)= !b:=by
 have e:(2^ x)<<<1=2^ (x+1):=by rw[Nat.shiftLeft_eq];exact(Nat.pow_add 2 x 1).symm
 rw[e]at h;exact and0 h
theorem cQ (x:Nat):(2^ x)<<<1=2^ (x+1):=by rw[Nat.shiftLeft_eq];exact(Nat.pow_add 2 x 1).symm
theorem AM {L:List Int} (hL:L.length=256) {a b:Nat} {n B C:Int} (ha:a<256) (hb:b<256) (h0:∀ j,j<256→0≤gI L j∧gI L j≤B) (hn:0≤n∧n≤C) (hC:0≤C):0≤gI (el L a n) b∧gI (el L a n) b≤B+C:=by
 have h1:=h0 a ha
 have h2:=h0 b hb
 unfold el
 rw[DY (by omega)]
 split<;>omega
theorem AY {s i k:Nat} {L:List Int} {n:Int} (hn:n=0):gG s i L k n=L:=by unfold gG;rw[if_pos hn]
theorem sk_a {s i k:Nat} {L:List Int} {n:Int} (hn:¬n=0) (hs:s.testBit i=false) (hk:k.testBit (i%8)=false):gG s i L k n=el L k n:=by unfold gG;rw[if_neg hn,hs,hk];rfl
theorem sk_d {s i k:Nat} {L:List Int} {n:Int} (hn:¬n=0) (hs:s.testBit i=false) (hk:k.testBit (i%8)=true):gG s i L k n=L:=by unfold gG;rw[if_neg hn,hs,hk];rfl
theorem sk_b {s i k:Nat} {L:List Int} {n:Int} (hn:¬n=0) (hs:s.testBit i=true) (hk:k.testBit (i%8)=true):gG s i L k n=el L (andn k (2^ (i%8))) n:=by unfold gG;rw[if_neg hn,if_pos hs,if_pos hk]
theorem lK {s i k:Nat} {L:List Int} {n:Int} (hn:¬n=0) (hs:s.testBit i=true) (hk:k.testBit (i%8)=false):gG s i L k n=
  if(rtB s i&& !k.testBit (i%8+1))=true then el (if dnB s i=true then el L (k|||2^ (i%8)) n else L) (k|||2^ (i%8+1)) n else if dnB s i=true then el L (k|||2^ (i%8)) n else L:=by
 unfold gG;rw[if_neg hn,if_pos hs,hk];rfl
theorem Ip {k x:Nat} (hk:k<256) (h:k.testBit x=true):IntKind.i64.wrap ((k:Int)-((2^ x:Nat):Int))=((andn k (2^ x):Nat):Int):=by
 have e:k=andn k (2^ x)+2^ x:=by
  have hx:x<8:=by
   rcases Nat.lt_or_ge x 8 with h1 |h1
   ·exact h1
   ·rw[Nat.testBit_lt_two_pow (Nat.lt_of_lt_of_le hk (Nat.pow_le_pow_right (n:=2) (i:=8) (by decide) h1))]at h;cases h
  have h2:=Kh k hk x hx
  have h3:k|||2^ x=k:=by
   apply Nat.eq_of_testBit_eq;intro i
   rw[vQ]
   by_cases hi:x=i
   ·subst hi;simp [h]
   ·simp [hi]
  rw[h3]at h2;exact h2
 have e2:(k:Int)-((2^ x:Nat):Int)=((andn k (2^ x):Nat):Int):=by omega
 rw[e2];exact ox (by have:andn k (2^ x)<256:=lM hk;omega)
theorem DH {l:List Int} {i:Nat} (ho:bj l=true) (hi:i<64) {b:Bool} (h1:okc (cN i).x ((cN i).y+1)=true) (h2:cu l ⟨(cN i).x,(cN i).y+1⟩=b):dnB (ao l) i=b:=by
 rw[←we hi,←h2];unfold bO;rw[h1,←gZ ho h1];rfl
theorem dn_no {s i:Nat} (hi:i<64) (h1:okc (cN i).x ((cN i).y+1)=false):dnB s i=false:=by rw[←we hi];unfold bO;rw[h1];rfl
theorem qB {l:List Int} {i:Nat} (ho:bj l=true) (hi:i<64) {b:Bool} (h1:okc ((cN i).x+1) (cN i).y=true) (h2:cu l ⟨(cN i).x+1,(cN i).y⟩=b):rtB (ao l) i=b:=by
 rw[←qj hi,←h2];unfold bO;rw[h1,←gZ ho h1];rfl
theorem FC {s i:Nat} (hi:i<64) (h1:okc ((cN i).x+1) (cN i).y=false):rtB s i=false:=by rw[←qj hi];unfold bO;rw[h1];rfl
theorem wd {l:List Int} {i:Nat} (ho:bj l=true) (hi:i<64) {b:Bool} (h:cu l (cN i)=b):(ao l).testBit i=b:=by
 rw[←h,←gZ ho (fP hi),eU hi]
theorem rt_bd {s i k:Nat} (hi:i<64) (hk:k<256) (hr:rtB s i=true):0≤gI (el (cT s i (bR s i) k) (k|||2^ (cN i).x.toNat) (wth (cN i).x (gI (bR s i) k))) (k|||2^ (cN i).x.toNat<<<1)∧gI (el (cT s i (bR s i) k) (k|||2^ (cN i).x.toNat) (wth (cN i).x (gI (bR s i) k))) (k|||2^ (cN i).x.toNat<<<1)≤1099511627776:=by
 have hx:(cN i).x=((i%8:Nat):Int):=rfl
 have h7:=pC hr
 have hn:=pi (s:=s) (i:=i) (by omega) (k:=k) hk
 have q:=AM (L:=cT s i (bR s i) k) (hJ _ _ _ _) (a:=k|||2^ (cN i).x.toNat) (b:=k|||2^ (cN i).x.toNat<<<1) (n:=wth (cN i).x (gI (bR s i) k)) (B:=68719476736) (C:=68719476736) (ij hk (by omega)) (by rw[cQ];exact ij hk (by omega)) (fun j hj=>rT hi (by omega) hj) (by rw[nJ (by omega)];omega) (by decide)
 exact⟨q.1,Int.le_trans q.2 (by decide)⟩
theorem zH {s i k:Nat} (hi:i<64) (hk:k<256) (hr:rtB s i=true):0≤gI (el (cT s i (bR s i) k) (k|||2^ (i%8)) (gI (bR s i) k)) (k|||2^ (i%8+1))∧gI (el (cT s i (bR s i) k) (k|||2^ (i%8)) (gI (bR s i) k)) (k|||2^ (i%8+1))≤1099511627776:=by
 have h7:=pC hr
 have hn:=pi (s:=s) (i:=i) (by omega) (k:=k) hk
 have q:=AM (L:=cT s i (bR s i) k) (hJ _ _ _ _) (a:=k|||2^ (i%8)) (b:=k|||2^ (i%8+1)) (n:=gI (bR s i) k) (B:=68719476736) (C:=68719476736) (ij hk (by omega)) (ij hk h7) (fun j hj=>rT hi (by omega) hj) (by omega) (by decide)
 exact⟨q.1,Int.le_trans q.2 (by decide)⟩
end Cl
end Go.Proofs.YtgmkkfdnmdohlaaGreatDoor
