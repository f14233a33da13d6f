/- Walks. -/
import Derived.Test.YtonlghbbdcddoaaGreatC3
import Derived.Test.YtonlghbbdcddoaaGreatClB
namespace Go.Proofs.YtonlghbbdcddoaaGreat
namespace Cl
open Go.ChangeShapes Go.WideShapes Go.ChangeAt Go.RowKit
set_option maxRecDepth 20000
def tc:Nat→Nat→(Nat→Bool)→Nat
 | 0,_,_=>1
 | f+1,i,p=>if p i=true then(if(decide (i%8<7)&&p (i+1))=true then tc f (i+1) (fun j=>p j&& !decide (j=i+1))else 0)+(if(decide (i+8<64)&&p (i+8))=true then tc f (i+1) (fun j=>p j&& !decide (j=i+8))else 0)else tc f (i+1) p
theorem mu:∀ (f i:Nat) (p q:Nat→Bool),(∀ j,i≤j→p j=q j)→tc f i p=tc f i q:=by
  intro f
  induction f with
  | zero=>intro i p q _;rfl
  | succ f ih=>
    intro i p q h
    unfold tc
    rw[h i (Nat.le_refl _),h (i+1) (by omega),h (i+8) (by omega)]
    rw[ih (i+1) (fun j=>p j&& !decide (j=i+1)) (fun j=>q j&& !decide (j=i+1)) (fun j hj=>by simp only[h j (by omega)])]
    rw[ih (i+1) (fun j=>p j&& !decide (j=i+8)) (fun j=>q j&& !decide (j=i+8)) (fun j hj=>by simp only[h j (by omega)])]
    rw[ih (i+1) p q (fun j hj=>h j (by omega))]
def fv (L:List Int) (k:Nat) (n:Int):List Int:=L.set k (gI L k+n)
def dnB (s i:Nat):Bool:=decide (i+8<64)&&s.testBit (i+8)
def rtB (s i:Nat):Bool:=decide (i%8<7)&&s.testBit (i+1)
def jb (s i:Nat) (L:List Int) (k:Nat) (n:Int):List Int:=
  if n=0 then L
  else if s.testBit i=true then
    (if k.testBit (i%8)=true then fv L (andn k (2^ (i%8))) n
     else if(rtB s i&& !k.testBit (i%8+1))=true then fv (if dnB s i=true then fv L (k|||2^ (i%8)) n else L) (k|||2^ (i%8+1)) n
     else if dnB s i=true then fv L (k|||2^ (i%8)) n else L)
  else if k.testBit (i%8)=true then L else fv L k n
def dS (s i:Nat) (now:List Int) (m:Nat):List Int:=(List.range m).foldl (fun L k=>jb s i L k (gI now k)) (List.replicate 256 0)
def cm (s:Nat):Nat→List Int
 | 0=>(List.replicate 256 0).set 0 1
 | i+1=>dS s i (cm s i) 256
def gO (L:List Int) (W:Nat→Int):Nat→Int
 | 0=>0
 | n+1=>gO L W n+gI L n*W n
theorem mD {L:List Int} (hL:L.length=256) (W:Nat→Int) {k:Nat} (v:Int):∀ n,n≤256→gO (fv L k v) W n=gO L W n+(if k<n then v*W k else 0):=by
  intro n
  induction n with
  | zero=>intro _;simp [gO]
  | succ n ih=>
    intro hn
    unfold gO
    rw[ih (by omega),fv,GU (by omega)]
    by_cases h:k=n
    · subst h
      rw[if_pos rfl,if_neg (by omega),if_pos (by omega),Int.add_mul];omega
    · rw[if_neg h]
      by_cases h2:k<n
      · rw[if_pos h2,if_pos (by omega)];omega
      · rw[if_neg h2,if_neg (by omega)];omega
theorem Dl (k:Nat):gI (List.replicate 256 0) k=0:=by unfold gI;rw[List.getD_eq_getElem?_getD,List.getElem?_replicate];split<;>rfl
theorem zM (W:Nat→Int):∀ n,gO (List.replicate 256 0) W n=0:=by
  intro n
  induction n with
  | zero=>rfl
  | succ n ih=>
    unfold gO
    rw[ih]
    have:gI (List.replicate 256 0) n=0:=by
      unfold gI;rw[List.getD_eq_getElem?_getD,List.getElem?_replicate];split<;>rfl
    rw[this];simp
theorem vo (L:List Int) (k:Nat) (n:Int):(fv L k n).length=L.length:=by unfold fv;simp
theorem FS (s i:Nat) (L:List Int) (k:Nat) (n:Int):(jb s i L k n).length=L.length:=by
 unfold jb;(repeat' split)<;>simp only[vo]
theorem jC (s i:Nat) (now:List Int):∀ m,(dS s i now m).length=256:=by
 intro m
 induction m with
 | zero=>exact List.length_replicate
 | succ m ih=>unfold dS at*;rw[List.range_succ,List.foldl_append];simp only[List.foldl_cons,List.foldl_nil];rw[FS,ih]
theorem bT (s i:Nat) (now:List Int) (m:Nat):dS s i now (m+1)=jb s i (dS s i now m) m (gI now m):=by
 unfold dS;rw[List.range_succ,List.foldl_append];rfl
theorem md (s:Nat):∀ i,(cm s i).length=256:=by
 intro i
 cases i with
 | zero=>rw[cm,List.length_set,List.length_replicate]
 | succ i=>exact jC _ _ _ _
def we (s i k:Nat) (W:Nat→Int):Int:=
  if s.testBit i=true then
    (if k.testBit (i%8)=true then W (andn k (2^ (i%8)))
     else(if dnB s i=true then W (k|||2^ (i%8))else 0)+(if(rtB s i&& !k.testBit (i%8+1))=true then W (k|||2^ (i%8+1))else 0))
  else if k.testBit (i%8)=true then 0 else W k
theorem jV {k x:Nat} (hk:k<256) (hx:x<8):k|||2^ x<256:=Nat.or_lt_two_pow (n:=8) hk (Nat.pow_lt_pow_right (by decide) hx)
theorem nJ {k m:Nat} (hk:k<256):andn k m<256:=by
 unfold andn;exact Nat.xor_lt_two_pow (n:=8) hk (Nat.lt_of_le_of_lt Nat.and_le_left hk)
theorem rl {s i:Nat} (h:rtB s i=true):i%8+1<8:=by
 unfold rtB at h;simp only[Bool.and_eq_true,decide_eq_true_eq]at h;omega
theorem EO {L:List Int} (hL:L.length=256) (s i:Nat) {k:Nat} (hk:k<256) (n:Int) (W:Nat→Int):gO (jb s i L k n) W 256=gO L W 256+n*we s i k W:=by
 have hx:i%8<8:=Nat.mod_lt _ (by decide)
 unfold jb we
 by_cases hn:n=0
 ·rw[if_pos hn,hn];simp
 rw[if_neg hn]
 by_cases hs:s.testBit i=true
 ·rw[if_pos hs,if_pos hs]
  by_cases hb:k.testBit (i%8)=true
  ·rw[if_pos hb,if_pos hb,mD hL W n 256 (Nat.le_refl _),if_pos (nJ hk)]
  ·rw[if_neg hb,if_neg hb]
   by_cases hr:(rtB s i&& !k.testBit (i%8+1))=true
   ·have hr1:i%8+1<8:=rl (by simp only[Bool.and_eq_true]at hr;exact hr.1)
    rw[if_pos hr,if_pos hr]
    by_cases hd:dnB s i=true
    ·rw[if_pos hd,if_pos hd,mD (by rw[vo];exact hL) W n 256 (Nat.le_refl _),if_pos (jV hk hr1),mD hL W n 256 (Nat.le_refl _),if_pos (jV hk hx),Int.mul_add];omega
    ·rw[if_neg hd,if_neg hd,mD hL W n 256 (Nat.le_refl _),if_pos (jV hk hr1)];simp
   ·rw[if_neg hr,if_neg hr]
    by_cases hd:dnB s i=true
    ·rw[if_pos hd,if_pos hd,mD hL W n 256 (Nat.le_refl _),if_pos (jV hk hx)];simp
    ·rw[if_neg hd,if_neg hd];simp
 ·rw[if_neg hs,if_neg hs]
  by_cases hb:k.testBit (i%8)=true
  ·rw[if_pos hb,if_pos hb];simp
  ·rw[if_neg hb,if_neg hb,mD hL W n 256 (Nat.le_refl _),if_pos hk]
theorem rV (s i:Nat) (now:List Int) (W:Nat→Int):∀ m,m≤256→gO (dS s i now m) W 256=gO now (fun k=>we s i k W) m:=by
  intro m
  induction m with
  | zero=>intro _;exact zM W 256
  | succ m ih=>
    intro hm
    rw[bT,EO (jC _ _ _ _) s i (by omega),ih (by omega)]
    rfl
def pc8 (k:Nat):Nat:=((List.range 8).filter k.testBit).length
theorem Ng (k:Nat):pc8 k≤8:=by unfold pc8;exact Nat.le_trans (List.length_filter_le _ _) (by simp)
theorem Cb {k x:Nat} (hx:x<8) (h:k.testBit x=false):pc8 (k|||2^ x)=pc8 k+1:=by
 unfold pc8;rw[xb,if_pos ⟨h,hx⟩]
theorem HM {k x:Nat} (hx:x<8) (h:k.testBit x=true):pc8 (andn k (2^ x))+1=pc8 k:=by
 have h1:(andn k (2^ x)).testBit x=false:=by rw[du,Nat.testBit_two_pow];simp
 have:=Cb hx h1
 have e:andn k (2^ x)|||2^ x=k:=by
  apply Nat.eq_of_testBit_eq;intro i
  rw[Nat.testBit_or,du,Nat.testBit_two_pow]
  by_cases hi:x=i
  ·subst hi;simp [h]
  ·simp [hi]
 rw[e]at this;exact this.symm
def uW (i k:Nat):Int:=((2^ ((72-i-pc8 k)/2):Nat):Int)
theorem wh (i k:Nat):1≤uW i k:=by
 have:0<2^ ((72-i-pc8 k)/2):=Nat.two_pow_pos _
 unfold uW;omega
theorem pw {a b:Nat} (h:a≤b):((2^ a:Nat):Int)≤((2^ b:Nat):Int):=by
 have:=Nat.pow_le_pow_right (n:=2) (by decide) h
 omega
theorem Nh {k x:Nat} (hx:x<8) (h:k.testBit x=false):pc8 k≤7:=by
 have h1:=Cb hx h
 have h2:=Ng (k|||2^ x)
 omega
theorem Eo {i k:Nat} {x:Nat} (hi:i<64) (hx:x<8) (h:k.testBit x=false):uW (i+1) (k|||2^ x)+uW (i+1) (k|||2^ x)=uW i k:=by
 have h7:=Nh hx h
 unfold uW
 rw[Cb hx h]
 have e:(72-i-pc8 k)/2=(72-(i+1)-(pc8 k+1))/2+1:=by omega
 rw[e,Nat.pow_succ];omega
theorem Ea (s:Nat) {i k:Nat} (hi:i<64):we s i k (uW (i+1))≤uW i k:=by
 have hx:i%8<8:=Nat.mod_lt _ (by decide)
 have h0:=wh i k
 unfold we
 by_cases hs:s.testBit i=true
 ·rw[if_pos hs]
  by_cases hb:k.testBit (i%8)=true
  ·rw[if_pos hb]
   have:=HM hx hb
   unfold uW;exact pw (by omega)
  ·rw[if_neg hb]
   simp only[Bool.not_eq_true]at hb
   have e1:=Eo hi hx hb
   have p1:=wh (i+1) (k|||2^ (i%8))
   by_cases hr:(rtB s i&& !k.testBit (i%8+1))=true
   ·rw[if_pos hr]
    simp only[Bool.and_eq_true,Bool.not_eq_true']at hr
    have hr1:=rl hr.1
    have e2:=Eo hi hr1 hr.2
    split<;>omega
   ·rw[if_neg hr]
    split<;>omega
 ·rw[if_neg hs]
  by_cases hb:k.testBit (i%8)=true
  ·rw[if_pos hb];omega
  ·rw[if_neg hb];unfold uW;exact pw (by omega)
def kZ (L:List Int):Prop:=∀ k,0≤gI L k
theorem mS {L:List Int} (h:kZ L) (k:Nat) {n:Int} (hn:0≤n):kZ (fv L k n):=by
 intro j
 have hk:=h k
 have hj:=h j
 unfold fv
 generalize gI L k=g at*
 unfold gI at*
 rw[List.getD_eq_getElem?_getD,List.getElem?_set]
 split
 ·split
  ·simp only[Option.getD_some];omega
  ·exact Int.le_refl _
 ·rwa [List.getD_eq_getElem?_getD]at hj
theorem th:kZ (List.replicate 256 0):=by
 intro k;unfold gI;rw[List.getD_eq_getElem?_getD,List.getElem?_replicate];split<;>exact Int.le_refl _
theorem yK {L:List Int} (h:kZ L) (s i k:Nat) {n:Int} (hn:0≤n):kZ (jb s i L k n):=by
 unfold jb
 (repeat' split)<;>first |exact h |exact mS h _ hn |exact mS (mS h _ hn) _ hn
theorem qX {now:List Int} (h:kZ now) (s i:Nat):∀ m,kZ (dS s i now m):=by
 intro m
 induction m with
 | zero=>exact th
 | succ m ih=>rw[bT];exact yK ih _ _ _ (h m)
theorem iy (s:Nat):∀ i,kZ (cm s i):=by
  intro i
  induction i with
  | zero=>
    have e:(List.replicate 256 (0:Int)).set 0 1=fv (List.replicate 256 0) 0 1:=by
      unfold fv;rw[Dl];rfl
    rw[cm,e];exact mS th 0 (by decide)
  | succ i ih=>exact qX ih _ _ _
theorem GG {L:List Int} (h:kZ L) {W V:Nat→Int} (hw:∀ k,W k≤V k):∀ n,gO L W n≤gO L V n:=by
 intro n
 induction n with
 | zero=>exact Int.le_refl _
 | succ n ih=>rw[show gO L W (n+1)=gO L W n+gI L n*W n from rfl,show gO L V (n+1)=gO L V n+gI L n*V n from rfl];have:=Int.mul_le_mul_of_nonneg_left (hw n) (h n);omega
theorem uG {L:List Int} (h:kZ L) {W:Nat→Int} (hw:∀ k,0≤W k) {m n:Nat} (hmn:m≤n):gO L W m≤gO L W n:=by
  induction n with
  | zero => have:m=0:=by omega
            subst this;exact Int.le_refl _
  | succ n ih=>
    rcases Nat.lt_or_ge n m with h1 |h1
    · have:m=n+1:=by omega
      subst this;exact Int.le_refl _
    · rw[show gO L W (n+1)=gO L W n+gI L n*W n from rfl];have:=Int.mul_nonneg (h n) (hw n);have:=ih h1;omega
theorem GF {L:List Int} (h:kZ L) {W:Nat→Int} (hw:∀ k,1≤W k) {k:Nat}:∀ n,k<n→gI L k≤gO L W n:=by
 intro n hk
 have h1:=uG h (W:=W) (fun k=>by have:=hw k;omega) (show k+1≤n by omega)
 have h2:0≤gO L W k:=by
  have:=uG h (W:=W) (fun k=>by have:=hw k;omega) (Nat.zero_le k)
  exact this
 have h3:=Int.mul_le_mul_of_nonneg_left (hw k) (h k)
 rw[show gO L W (k+1)=gO L W k+gI L k*W k from rfl]at h1
 omega
theorem zK (W:Nat→Int):gO ((List.replicate 256 0).set 0 1) W 256=W 0:=by
 have e:(List.replicate 256 (0:Int)).set 0 1=fv (List.replicate 256 0) 0 1:=by
  unfold fv;rw[Dl];rfl
 rw[e,mD List.length_replicate W 1 256 (Nat.le_refl _),zM];simp
theorem zL (s:Nat):∀ i,i≤64→gO (cm s i) (uW i) 256≤68719476736:=by
  intro i
  induction i with
  | zero=>intro _;rw[cm,zK];decide
  | succ i ih=>
    intro hi
    rw[cm,rV _ _ _ _ 256 (Nat.le_refl _)]
    exact Int.le_trans (GG (iy s i) (fun k=>Ea s (by omega)) 256) (ih (by omega))
theorem qZ {s i:Nat} (hi:i≤64) {k:Nat} (hk:k<256):0≤gI (cm s i) k∧gI (cm s i) k≤68719476736:=
 ⟨iy s i k,Int.le_trans (GF (iy s i) (wh i) 256 hk) (zL s i hi)⟩
theorem un {s i:Nat} (hi:i<64) {m k:Nat} (hm:m≤256) (hk:k<256):0≤gI (dS s i (cm s i) m) k∧gI (dS s i (cm s i) m) k≤68719476736:=by
 have hn:=qX (iy s i) s i m
 refine⟨hn k,Int.le_trans (GF hn (wh (i+1)) 256 hk) ?_⟩
 rw[rV _ _ _ _ m hm]
 refine Int.le_trans (GG (iy s i) (fun k=>Ea s hi) m) ?_
 exact Int.le_trans (uG (iy s i) (fun k=>by have:=wh i k;omega) hm) (zL s i (by omega))
def lg (s i k j:Nat):Bool:=s.testBit j&& !(decide (j<i+8)&&k.testBit (j%8))
def ua (s i k:Nat):Bool:=(List.range 8).all fun t=> !k.testBit ((i+t)%8)||s.testBit (i+t)
theorem hJ {s i k:Nat}:ua s i k=true↔∀ j,i≤j→j<i+8→k.testBit (j%8)=true→s.testBit j=true:=by
 unfold ua
 simp only[List.all_eq_true,List.mem_range,Bool.or_eq_true,Bool.not_eq_true']
 constructor
 ·intro h j h1 h2 h3
  have:=h (j-i) (by omega)
  rw[show i+(j-i)=j by omega]at this
  rcases this with h4 |h4
  ·rw[h4]at h3;cases h3
  ·exact h4
 ·intro h t ht
  rcases Bool.eq_false_or_eq_true (k.testBit ((i+t)%8))with h1 |h1
  ·exact .inr (h (i+t) (by omega) (by omega) h1)
  ·exact .inl h1
def tW (s i k:Nat):Int:=if ua s i k=true then((tc (64-i) i (lg s i k):Nat):Int)else 0
theorem yf (k x y:Nat):(k|||2^ x).testBit y=(k.testBit y||decide (x=y)):=by rw[Nat.testBit_or,Nat.testBit_two_pow]
theorem BA (k x y:Nat):(andn k (2^ x)).testBit y=(k.testBit y&& !decide (x=y)):=by rw[du,Nat.testBit_two_pow]
theorem Er {s i k x:Nat} (hi:s.testBit i=true) (hb:k.testBit (i%8)=false) (j:Nat) (hj1:i+1≤j) (hj2:j<i+9) (hjx:j%8=x) (hj:s.testBit j=true):ua s (i+1) (k|||2^ x)=ua s i k:=by
 rw[Bool.eq_iff_iff,hJ,hJ]
 constructor
 ·intro h m h1 h2 h3
  rcases Nat.eq_or_lt_of_le h1 with rfl |h4
  ·exact hi
  ·exact h m h4 (by omega) (by rw[yf,h3];rfl)
 ·intro h m h1 h2 h3
  rw[yf,Bool.or_eq_true,decide_eq_true_eq]at h3
  rcases h3 with h3 |h3
  ·rcases Nat.lt_or_ge m (i+8)with h4 |h4
   ·exact h m (by omega) h4 h3
   ·have:m%8=i%8:=by omega
    rw[this,hb]at h3;cases h3
  ·have:m=j:=by omega
   subst this;exact hj
theorem Ik {s i k x:Nat} (hb:k.testBit (i%8)=false) (j:Nat) (hj1:i+1≤j) (hj2:j<i+9) (hjx:j%8=x) (m:Nat) (hm:i+1≤m):lg s (i+1) (k|||2^ x) m=(lg s i k m&& !decide (m=j)):=by
 unfold lg
 rw[yf]
 by_cases h1:m<i+8
 ·have e1:decide (m<i+1+8)=true:=by simp;omega
  have e2:decide (m<i+8)=true:=by simp;omega
  have e3:decide (x=m%8)=decide (m=j):=by rw[decide_eq_decide];omega
  rw[e1,e2,e3];cases s.testBit m<;>cases k.testBit (m%8)<;>cases decide (m=j)<;>rfl
 ·have e2:decide (m<i+8)=false:=by simp;omega
  rw[e2]
  by_cases h2:m<i+9
  ·have e1:decide (m<i+1+8)=true:=by simp;omega
   have e4:m%8=i%8:=by omega
   have e3:decide (x=i%8)=decide (m=j):=by rw[decide_eq_decide];omega
   rw[e1,e4,e3,hb];cases s.testBit m<;>cases decide (m=j)<;>rfl
  ·have e1:decide (m<i+1+8)=false:=by simp;omega
   have e3:decide (m=j)=false:=by simp;omega
   rw[e1,e3];simp
theorem Ll {s:Nat} (hs64:s<18446744073709551616) {i k:Nat} (hi:i<64):we s i k (tW s (i+1))=tW s i k:=by
 have hx:i%8<8:=Nat.mod_lt _ (by decide)
 have ef:64-i=(64-(i+1))+1:=by omega
 have hov:∀ j,64≤j→s.testBit j=false:=fun j hj=>Nat.testBit_lt_two_pow (Nat.lt_of_lt_of_le hs64 (Nat.pow_le_pow_right (n:=2) (i:=64) (by decide) hj))
 unfold we
 by_cases hs:s.testBit i=true
 ·rw[if_pos hs]
  by_cases hb:k.testBit (i%8)=true
  ·rw[if_pos hb]
   have hv:ua s (i+1) (andn k (2^ (i%8)))=ua s i k:=by
    rw[Bool.eq_iff_iff,hJ,hJ]
    constructor
    ·intro h m h1 h2 h3
     rcases Nat.eq_or_lt_of_le h1 with rfl |h4
     ·exact hs
     ·exact h m h4 (by omega) (by rw[BA,h3];simp;omega)
    ·intro h m h1 h2 h3
     rw[BA,Bool.and_eq_true,Bool.not_eq_true',decide_eq_false_iff_not]at h3
     rcases Nat.lt_or_ge m (i+8)with h4 |h4
     ·exact h m (by omega) h4 h3.1
     ·exact absurd (by omega) h3.2
   unfold tW
   rw[hv]
   split
   ·have hr:lg s i k i=false:=by unfold lg;rw[hb];simp
    rw[ef,tc,if_neg (by rw[hr];simp)]
    congr 1
    apply mu
    intro m hm
    unfold lg
    rw[BA]
    by_cases h1:m<i+8
    ·have e1:decide (m<i+1+8)=true:=by simp;omega
     have e2:decide (m<i+8)=true:=by simp;omega
     have e3:decide (i%8=m%8)=false:=by simp;omega
     rw[e1,e2,e3];simp
    ·have e2:decide (m<i+8)=false:=by simp;omega
     rw[e2]
     by_cases h2:m<i+9
     ·have e3:decide (i%8=m%8)=true:=by simp;omega
      rw[e3];simp
     ·have e1:decide (m<i+1+8)=false:=by simp;omega
      rw[e1];rfl
   ·rfl
  ·rw[if_neg hb]
   simp only[Bool.not_eq_true]at hb
   have hr:lg s i k i=true:=by unfold lg;rw[hb,hs];simp
   have rd:lg s i k (i+8)=s.testBit (i+8):=by unfold lg;simp
   have rr:(decide (i%8<7)&&lg s i k (i+1))=(rtB s i&& !k.testBit (i%8+1)):=by
    unfold lg rtB
    by_cases h7:i%8<7
    ·have:(i+1)%8=i%8+1:=by omega
     rw[this];simp [Bool.and_assoc]
    ·simp [h7]
   have rd2:(decide (i+8<64)&&lg s i k (i+8))=dnB s i:=by rw[rd];rfl
   have key:tW s i k=if ua s i k=true then(((if(rtB s i&& !k.testBit (i%8+1))=true then tc (64-(i+1)) (i+1) (fun j=>lg s i k j&& !decide (j=i+1))else 0)+(if dnB s i=true then tc (64-(i+1)) (i+1) (fun j=>lg s i k j&& !decide (j=i+8))else 0):Nat):Int)else 0:=by
    unfold tW
    rw[ef,tc,if_pos hr,rr,rd2]
   rw[key]
   have hd:dnB s i=true→tW s (i+1) (k|||2^ (i%8))=if ua s i k=true then((tc (64-(i+1)) (i+1) (fun j=>lg s i k j&& !decide (j=i+8)):Nat):Int)else 0:=by
    intro h
    unfold dnB at h;simp only[Bool.and_eq_true,decide_eq_true_eq]at h
    unfold tW
    rw[Er hs hb (i+8) (by omega) (by omega) (by omega) h.2]
    rw[mu _ _ _ _ (fun m hm=>Ik (s:=s) hb (i+8) (by omega) (by omega) (by omega) m hm)]
   have hr':(rtB s i&& !k.testBit (i%8+1))=true→tW s (i+1) (k|||2^ (i%8+1))=if ua s i k=true then((tc (64-(i+1)) (i+1) (fun j=>lg s i k j&& !decide (j=i+1)):Nat):Int)else 0:=by
    intro h
    unfold rtB at h;simp only[Bool.and_eq_true,decide_eq_true_eq]at h
    unfold tW
    rw[Er hs hb (i+1) (by omega) (by omega) (by omega) h.1.2]
    rw[mu _ _ _ _ (fun m hm=>Ik (s:=s) hb (i+1) (by omega) (by omega) (by omega) m hm)]
   by_cases h1:(rtB s i&& !k.testBit (i%8+1))=true
   ·rw[if_pos h1,if_pos h1,hr' h1]
    by_cases h2:dnB s i=true
    ·rw[if_pos h2,if_pos h2,hd h2];split<;>omega
    ·rw[if_neg h2,if_neg h2];split<;>omega
   ·rw[if_neg h1,if_neg h1]
    by_cases h2:dnB s i=true
    ·rw[if_pos h2,if_pos h2,hd h2];split<;>omega
    ·rw[if_neg h2,if_neg h2];split<;>omega
 ·rw[if_neg hs]
  by_cases hb:k.testBit (i%8)=true
  ·rw[if_pos hb]
   unfold tW
   rw[if_neg]
   rw[hJ]
   intro h
   exact hs (h i (Nat.le_refl _) (by omega) hb)
  ·rw[if_neg hb]
   simp only[Bool.not_eq_true]at hb hs
   have hv:ua s (i+1) k=ua s i k:=by
    rw[Bool.eq_iff_iff,hJ,hJ]
    constructor
    ·intro h m h1 h2 h3
     rcases Nat.eq_or_lt_of_le h1 with rfl |h4
     ·rw[hb]at h3;cases h3
     ·exact h m h4 (by omega) h3
    ·intro h m h1 h2 h3
     rcases Nat.lt_or_ge m (i+8)with h4 |h4
     ·exact h m (by omega) h4 h3
     ·rw[show m%8=i%8 by omega,hb]at h3;cases h3
   unfold tW
   rw[hv]
   split
   ·have hr:lg s i k i=false:=by unfold lg;rw[hs];simp
    rw[ef,tc,if_neg (by rw[hr];simp)]
    congr 1
    apply mu
    intro m hm
    unfold lg
    by_cases h1:m<i+8
    ·have e1:decide (m<i+1+8)=true:=by simp;omega
     have e2:decide (m<i+8)=true:=by simp;omega
     rw[e1,e2]
    ·have e2:decide (m<i+8)=false:=by simp;omega
     rw[e2]
     by_cases h2:m<i+9
     ·rw[show m%8=i%8 by omega,hb];simp
     ·have e1:decide (m<i+1+8)=false:=by simp;omega
      rw[e1]
   ·rfl
theorem Mv {L:List Int} {W V:Nat→Int} (hw:∀ k,W k=V k) (n:Nat):gO L W n=gO L V n:=by
 have:W=V:=funext hw
 rw[this]
theorem Mw {s:Nat} (hs:s<18446744073709551616):∀ i,i≤64→gO (cm s i) (tW s i) 256=tW s 0 0:=by
  intro i
  induction i with
  | zero=>intro _;rw[cm,zK]
  | succ i ih=>
    intro hi
    rw[cm,rV _ _ _ _ 256 (Nat.le_refl _),Mv (fun k=>Ll hs (k:=k) (by omega)) 256,ih (by omega)]
theorem JB {L:List Int} {W:Nat→Int} (h:∀ k,0<k→k<256→W k=0):∀ n,0<n→n≤256→gO L W n=gI L 0*W 0:=by
  intro n
  induction n with
  | zero=>intro h;omega
  | succ n ih=>
    intro _ hn
    unfold gO
    rcases Nat.eq_zero_or_pos n with rfl |hp
    · simp [gO]
    · rw[ih hp (by omega),h n hp (by omega)];simp
def cnt (s:Nat):Nat:=tc 64 0 s.testBit
theorem vn {s:Nat} (hs:s<18446744073709551616):gI (cm s 64) 0=((cnt s:Nat):Int):=by
 have h:=Mw hs 64 (Nat.le_refl _)
 have hov:∀ j,64≤j→s.testBit j=false:=fun j hj=>Nat.testBit_lt_two_pow (Nat.lt_of_lt_of_le hs (Nat.pow_le_pow_right (n:=2) (i:=64) (by decide) hj))
 rw[JB (fun k h1 h2=> ?_) 256 (by decide) (Nat.le_refl _)]at h
 ·have e0:tW s 64 0=1:=by
   unfold tW
   rw[if_pos]
   ·rfl
   ·rw[hJ];intro j _ _ h3;rw[Nat.zero_testBit]at h3;cases h3
  have e1:tW s 0 0=((cnt s:Nat):Int):=by
   unfold tW
   rw[if_pos]
   ·unfold cnt
    rw[Nat.sub_zero,mu 64 0 (lg s 0 0) s.testBit (fun j _=>by unfold lg;rw[Nat.zero_testBit];simp)]
   ·rw[hJ];intro j _ _ h3;rw[Nat.zero_testBit]at h3;cases h3
  rw[e0,e1]at h
  generalize gI (cm s 64) 0=z at*
  omega
 ·unfold tW
  rw[if_neg]
  rw[hJ]
  intro h3
  obtain⟨x,hx⟩:=Nat.exists_testBit_of_ne_zero (show k≠0 by omega)
  have hx8:x<8:=by
   rcases Nat.lt_or_ge x 8 with h4 |h4
   ·exact h4
   ·rw[Nat.testBit_lt_two_pow (Nat.lt_of_lt_of_le h2 (Nat.pow_le_pow_right (n:=2) (i:=8) (by decide) h4))]at hx;cases hx
  have:=h3 (64+x) (by omega) (by omega) (by rw[show(64+x)%8=x by omega];exact hx)
  rw[hov _ (by omega)]at this;cases this
theorem Mm {s:Nat} (hs:s<18446744073709551616):cnt s≤68719476736:=by
 have:=(qZ (s:=s) (i:=64) (by decide) (k:=0) (by decide)).2
 rw[vn hs]at this;omega
theorem zl {p:Nat→Bool}:∀ i,i≤64→(∀ j,j<i→p j=false)→tc 64 0 p=tc (64-i) i p:=by
  intro i
  induction i with
  | zero=>intro _ _;rfl
  | succ i ih=>
    intro hi h
    rw[ih (by omega) (fun j hj=>h j (by omega)),show 64-i=(64-(i+1))+1 by omega,tc,if_neg (by rw[h i (by omega)];simp)]
theorem Ml {s:Nat} (hs:s<18446744073709551616) {j:Nat} (hj:64≤j):s.testBit j=false:=
 Nat.testBit_lt_two_pow (Nat.lt_of_lt_of_le hs (Nat.pow_le_pow_right (n:=2) (i:=64) (by decide) hj))
def au (s:Nat):Nat:=(List.range 64).findIdx s.testBit
theorem dr {s:Nat} (hs:s<18446744073709551616) (h0:s≠0):au s<64∧s.testBit (au s)=true:=by
 obtain⟨x,hx⟩:=Nat.exists_testBit_of_ne_zero h0
 have hx64:x<64:=by
  rcases Nat.lt_or_ge x 64 with h |h
  ·exact h
  ·rw[Ml hs h]at hx;cases hx
 have hlt:(List.range 64).findIdx s.testBit<(List.range 64).length:=List.findIdx_lt_length_of_exists ⟨x,by simpa using hx64,hx⟩
 have h2:=List.findIdx_getElem (w:=hlt)
 refine⟨by simpa [au] using hlt,?_⟩
 simpa [au] using h2
theorem ig {s j:Nat} (hj:j<au s):s.testBit j=false:=by
 unfold au at hj
 have h1:=List.not_of_lt_findIdx hj
 simpa using h1
def dmn (i:Nat) (b:Bool):Dom:=⟨(cN i).x,(cN i).y,b⟩
theorem okD_r {i:Nat} (h:i<64):okD (dmn i false)=decide (i%8<7):=by
 unfold okD okd dmn
 rw[Bool.eq_iff_iff,Bool.and_eq_true,decide_eq_true_eq]
 simp only[Bool.false_eq_true,if_false,bz]
 unfold cN;dsimp only;omega
theorem okD_d {i:Nat} (h:i<64):okD (dmn i true)=decide (i+8<64):=by
 unfold okD okd dmn
 rw[Bool.eq_iff_iff,Bool.and_eq_true,decide_eq_true_eq]
 simp only[if_true,bz]
 unfold cN;dsimp only;omega
theorem rL {i:Nat} (b:Bool) (h:i<64):idx (ca (dmn i b))=i:=dF h
theorem cb_r (i:Nat) (h:i<64) (h2:i%8<7):idx (cb (dmn i false))=i+1:=by
 unfold cb dmn idx cN;simp only[Bool.false_eq_true,if_false];omega
theorem cb_d (i:Nat) (h:i<64):idx (cb (dmn i true))=i+8:=by
 unfold cb dmn idx cN;simp only[if_true];omega
def fc (s:Nat) (d:Dom):Bool:=okD d&&decide (s&&&domS d=domS d)
theorem Bv (s d:Nat):(s&&&d=d)↔∀ i,d.testBit i=true→s.testBit i=true:=by
 constructor
 ·intro h i hi
  rw[←h,Nat.testBit_and,Bool.and_eq_true]at hi;exact hi.1
 ·intro h
  apply Nat.eq_of_testBit_eq;intro i
  rw[Nat.testBit_and]
  rcases Bool.eq_false_or_eq_true (d.testBit i)with e |e
  ·rw[e,h i e];rfl
  ·rw[e];simp
theorem qK (s:Nat) (d:Dom):decide (s&&&domS d=domS d)=(s.testBit (idx (ca d))&&s.testBit (idx (cb d))):=by
 rw[Bool.eq_iff_iff,decide_eq_true_eq,Bv,Bool.and_eq_true]
 constructor
 ·intro h;exact⟨h _ (by rw[eR];simp),h _ (by rw[eR];simp)⟩
 ·rintro⟨h1,h2⟩ i hi
  rw[eR,Bool.or_eq_true,decide_eq_true_eq,decide_eq_true_eq]at hi
  rcases hi with rfl |rfl
  ·exact h1
  ·exact h2
theorem fit_r {s i:Nat} (h:i<64) (hb:s.testBit i=true):fc s (dmn i false)=(decide (i%8<7)&&s.testBit (i+1)):=by
 unfold fc
 rw[okD_r h,qK,rL _ h]
 by_cases h7:i%8<7
 ·rw[cb_r i h h7,hb];simp
 ·simp [h7]
theorem fit_d {s i:Nat} (h:i<64) (hb:s.testBit i=true):fc s (dmn i true)=(decide (i+8<64)&&s.testBit (i+8)):=by
 unfold fc
 rw[okD_d h,qK,rL _ h,cb_d i h,hb];simp
theorem CX {s i:Nat} {d:Dom} {b:Nat} (hi:i<64) (hmin:∀ j,j<i→s.testBit j=false) (h1:idx (ca d)=i) (h2:idx (cb d)=b) (hb:i<b):
  tc (64-(i+1)) (i+1) (fun j=>s.testBit j&& !decide (j=b))=cnt (andn s (domS d)):=by
 unfold cnt
 rw[zl (i+1) (by omega)]
 ·apply mu
  intro j hj
  rw[du,eR,h1,h2]
  have e1:decide (i=j)=false:=by simp;omega
  have e2:decide (b=j)=decide (j=b):=by rw[decide_eq_decide];omega
  rw[e1,e2];simp
 ·intro j hj
  rw[du,eR,h1]
  rcases Nat.lt_or_ge j i with h3 |h3
  ·rw[hmin j h3];rfl
  ·have e1:decide (i=j)=true:=by simp;omega
   rw[e1];simp
theorem CW {s:Nat} (hs:s<18446744073709551616) (h0:s≠0):
    cnt s=(if fc s (dmn (au s) false)=true then cnt (andn s (domS (dmn (au s) false)))else 0)+(if fc s (dmn (au s) true)=true then cnt (andn s (domS (dmn (au s) true)))else 0):=by
  obtain⟨hi,hb⟩:=dr hs h0
  have hmin:∀ j,j<au s→s.testBit j=false:=fun j hj=>ig hj
  rw[fit_r hi hb,fit_d hi hb]
  rw[show cnt s=tc 64 0 s.testBit from rfl,zl (au s) (by omega) hmin,show 64-au s=(64-(au s+1))+1 by omega,tc,if_pos hb]
  congr 1
  · by_cases h:(decide (au s%8<7)&&s.testBit (au s+1))=true
    · rw[if_pos h,if_pos h]
      exact CX hi hmin (rL _ hi) (cb_r _ hi (by simp only[Bool.and_eq_true,decide_eq_true_eq]at h;exact h.1)) (by omega)
    · rw[if_neg h,if_neg h]
  · by_cases h:(decide (au s+8<64)&&s.testBit (au s+8))=true
    · rw[if_pos h,if_pos h]
      exact CX hi hmin (rL _ hi) (cb_d _ hi) (by omega)
    · rw[if_neg h,if_neg h]
theorem Gv:cnt 0=1:=by
 unfold cnt
 rw[zl 64 (Nat.le_refl _) (fun j _=>Nat.zero_testBit j)];rfl
theorem BJ {s:Nat} {d:Dom} (h:fc s d=true):okD d=true∧s.testBit (idx (ca d))=true∧s.testBit (idx (cb d))=true:=by
 unfold fc at h
 rw[qK]at h
 simp only[Bool.and_eq_true]at h
 exact⟨h.1,h.2.1,h.2.2⟩
theorem iT {s:Nat} {d:Dom} (h:fc s d=true):jj (andn s (domS d))+2=jj s:=by
 obtain⟨h1,h2,h3⟩:=BJ h
 have e:andn s (domS d)|||domS d=s:=by
  apply Nat.eq_of_testBit_eq;intro i
  rw[Nat.testBit_or,du,eR]
  by_cases ha:idx (ca d)=i
  ·subst ha;simp [h2]
  ·by_cases hb:idx (cb d)=i
   ·subst hb;simp [h3]
   ·simp [ha,hb]
 have:=AG (s:=andn s (domS d)) h1 (by rw[du,eR];simp) (by rw[du,eR];simp)
 rw[e]at this;exact this.symm
def pick (s:Nat):Dom:=if(fc s (dmn (au s) false)&& !decide (cnt (andn s (domS (dmn (au s) false)))=0))=true then dmn (au s) false else dmn (au s) true
theorem KD {s:Nat} (hs:s<18446744073709551616) (h0:s≠0) (hc:0<cnt s):fc s (pick s)=true∧0<cnt (andn s (domS (pick s))):=by
 rw[CW hs h0]at hc
 unfold pick
 by_cases h:(fc s (dmn (au s) false)&& !decide (cnt (andn s (domS (dmn (au s) false)))=0))=true
 ·rw[if_pos h]
  simp only[Bool.and_eq_true,Bool.not_eq_true',decide_eq_false_iff_not]at h
  exact⟨h.1,by omega⟩
 ·rw[if_neg h]
  have e:(if fc s (dmn (au s) false)=true then cnt (andn s (domS (dmn (au s) false)))else 0)=0:=by
   split
   ·rename_i h1
    rw[h1]at h
    simpa using h
   ·rfl
  rw[e,Nat.zero_add]at hc
  split at hc
  ·rename_i h1;exact⟨h1,hc⟩
  ·omega
def ftl:Nat→Nat→List Dom
 | 0,_=>[]
 | n+1,s=>if s=0 then []else pick s::ftl n (andn s (domS (pick s)))
def tls:Nat→Nat→List (List Dom)
  | 0,_=>[]
  | n+1,s=>if s=0 then [[]]else
      (if fc s (dmn (au s) false)=true then(tls n (andn s (domS (dmn (au s) false)))).map (dmn (au s) false:: ·)else [])++
      (if fc s (dmn (au s) true)=true then(tls n (andn s (domS (dmn (au s) true)))).map (dmn (au s) true:: ·)else [])
theorem zt:∀ n s,s<18446744073709551616→jj s<2*n→(tls n s).length=cnt s:=by
  intro n
  induction n with
  | zero=>intro s _ h;omega
  | succ n ih=>
    intro s hs hp
    unfold tls
    by_cases h0:s=0
    · rw[if_pos h0,h0,Gv];rfl
    · rw[if_neg h0,CW hs h0,List.length_append]
      congr 1
      · split
        · rename_i h
          rw[List.length_map,ih _ (dQ hs) (by have:=iT h;omega)]
        · rfl
      · split
        · rename_i h
          rw[List.length_map,ih _ (dQ hs) (by have:=iT h;omega)]
        · rfl
def cntR (l:List Int):Nat:=if aU l=true then cnt (ag l)else 0
theorem Nd:∀ a,a<256→∀ x,x<8→(a|||2^ x)=andn a (2^ x)+2^ x:=by decide+kernel
theorem shlI {a b:Int} {m n:Nat} (ha:a=(m:Int)) (hb:b=(n:Int)) (hn:n≤64) (hm:m<<<n<9223372036854775808):IntKind.i64.wrap (a*2^ (min b.toNat IntKind.i64.bits))=((m<<<n:Nat):Int):=by
 subst ha;subst hb
 have e:min ((n:Int)).toNat IntKind.i64.bits=n:=by
  simp only[Int.toNat_natCast,IntKind.bits];omega
 rw[e]
 have e2:((m:Int)*2^ n)=((m<<<n:Nat):Int):=by rw[Nat.shiftLeft_eq];push_cast;rfl
 rw[e2];exact qq hm
theorem andnI {a b:Int} {m n:Nat} (ha:a=(m:Int)) (hb:b=(n:Int)) (hm:m<9223372036854775808) (hn:n<9223372036854775808):IntKind.i64.wrap ((BitVec.ofInt IntKind.i64.bits a)&&& ~~~(BitVec.ofInt IntKind.i64.bits b)).toNat=((andn m n:Nat):Int):=by
 have e1:(BitVec.ofInt IntKind.i64.bits a).toNat=m:=tG ha (by omega)
 have e2:(BitVec.ofInt IntKind.i64.bits b).toNat=n:=tG hb (by omega)
 have e:((BitVec.ofInt IntKind.i64.bits a)&&& ~~~(BitVec.ofInt IntKind.i64.bits b)).toNat=andn m n:=by
  apply Nat.eq_of_testBit_eq
  intro i
  rw[du,BitVec.testBit_toNat,BitVec.getLsbD_and,BitVec.getLsbD_not,←BitVec.testBit_toNat,←BitVec.testBit_toNat,e1,e2]
  by_cases hi:i<64
  ·have:i<IntKind.i64.bits:=hi
   simp [this]
  ·have:m.testBit i=false:=Nat.testBit_lt_two_pow (Nat.lt_of_lt_of_le hm (Nat.pow_le_pow_right (n:=2) (i:=63) (by decide) (by omega)))
   simp [this]
 rw[e]
 exact qq (by unfold andn;exact Nat.xor_lt_two_pow (n:=63) hm (Nat.lt_of_le_of_lt Nat.and_le_left hm))
def wth (x n:Int):Int:=if x<0 then 1 else n
theorem pO {x n:Int} (h:0≤x):wth x n=n:=by unfold wth;rw[if_neg (by omega)]
theorem Bd (k:Nat):(List.replicate 256 (0:Int)).set k 0=List.replicate 256 0:=by
 apply List.ext_getElem
 ·simp only[List.length_set]
 ·intro i h1 h2;rw[List.getElem_set,List.getElem_replicate];split<;>rfl
theorem yu {s i:Nat} (hi:i<64):aP s ⟨(cN i).x,(cN i).y+1⟩=dnB s i:=by
 unfold aP dnB
 by_cases h:i+8<64
 ·have e:(⟨(cN i).x,(cN i).y+1⟩:Cel)=cN (i+8):=by unfold cN;simp only[Cel.mk.injEq];omega
  rw[e,fk h,dF h];simp [h]
 ·have e:okc (cN i).x ((cN i).y+1)=false:=by
   rcases Bool.eq_false_or_eq_true (okc (cN i).x ((cN i).y+1))with q |q
   ·have:=bz.1 q;unfold cN at this;dsimp only at this;omega
   ·exact q
  simp only[e];simp [h]
theorem rY {s i:Nat} (hi:i<64):aP s ⟨(cN i).x+1,(cN i).y⟩=rtB s i:=by
 unfold aP rtB
 by_cases h:i%8<7
 ·have e:(⟨(cN i).x+1,(cN i).y⟩:Cel)=cN (i+1):=by unfold cN;simp only[Cel.mk.injEq];omega
  rw[e,fk (by omega),dF (by omega)];simp [h]
 ·have e:okc ((cN i).x+1) (cN i).y=false:=by
   rcases Bool.eq_false_or_eq_true (okc ((cN i).x+1) (cN i).y)with q |q
   ·have:=bz.1 q;unfold cN at this;dsimp only at this;omega
   ·exact q
  simp only[e];simp [h]
theorem LI {s i:Nat} (hi:i<64):aP s (cN i)=s.testBit i:=by unfold aP;rw[fk hi,dF hi];rfl
theorem Jp (k x:Nat):k&&&2^ x=if k.testBit x=true then 2^ x else 0:=by
 apply Nat.eq_of_testBit_eq;intro i
 rw[Nat.testBit_and,Nat.testBit_two_pow]
 by_cases h:x=i
 ·subst h;cases e:k.testBit x<;>simp
 ·cases e:k.testBit x<;>simp [h]
theorem and0 {k x:Nat} {b:Bool} (h:decide (((k&&&2^ x:Nat):Int)=0)=b):k.testBit x= !b:=by
 subst h
 rw[Jp]
 have:=Nat.two_pow_pos x
 cases e:k.testBit x
 ·simp
 ·simp only[if_true]
  rw[decide_eq_false (by omega)];rfl
theorem and1 {k x:Nat} {b:Bool} (h:decide (((k&&&((2^ x)<<<1):Nat):Int)=0)=b):k.testBit (x+1)= !b:=by
 have e:(2^ x)<<<1=2^ (x+1):=by rw[Nat.shiftLeft_eq];exact(Nat.pow_add 2 x 1).symm
 rw[e]at h;exact and0 h
theorem dR (x:Nat):(2^ x)<<<1=2^ (x+1):=by rw[Nat.shiftLeft_eq];exact(Nat.pow_add 2 x 1).symm
theorem DG {L:List Int} (hL:L.length=256) {a b:Nat} {n B C:Int} (ha:a<256) (hb:b<256) (h0:∀ j,j<256→0≤gI L j∧gI L j≤B) (hn:0≤n∧n≤C) (hC:0≤C):0≤gI (fv L a n) b∧gI (fv L a n) b≤B+C:=by
 have h1:=h0 a ha
 have h2:=h0 b hb
 unfold fv
 rw[GU (by omega)]
 split<;>omega
theorem DS {s i k:Nat} {L:List Int} {n:Int} (hn:n=0):jb s i L k n=L:=by unfold jb;rw[if_pos hn]
theorem sk_a {s i k:Nat} {L:List Int} {n:Int} (hn:¬n=0) (hs:s.testBit i=false) (hk:k.testBit (i%8)=false):jb s i L k n=fv L k n:=by unfold jb;rw[if_neg hn,hs,hk];rfl
theorem sk_d {s i k:Nat} {L:List Int} {n:Int} (hn:¬n=0) (hs:s.testBit i=false) (hk:k.testBit (i%8)=true):jb s i L k n=L:=by unfold jb;rw[if_neg hn,hs,hk];rfl
theorem sk_b {s i k:Nat} {L:List Int} {n:Int} (hn:¬n=0) (hs:s.testBit i=true) (hk:k.testBit (i%8)=true):jb s i L k n=fv L (andn k (2^ (i%8))) n:=by unfold jb;rw[if_neg hn,if_pos hs,if_pos hk]
theorem nC {s i k:Nat} {L:List Int} {n:Int} (hn:¬n=0) (hs:s.testBit i=true) (hk:k.testBit (i%8)=false):jb s i L k n=
  if(rtB s i&& !k.testBit (i%8+1))=true then fv (if dnB s i=true then fv L (k|||2^ (i%8)) n else L) (k|||2^ (i%8+1)) n else if dnB s i=true then fv L (k|||2^ (i%8)) n else L:=by
 unfold jb;rw[if_neg hn,if_pos hs,hk];rfl
theorem Lk {k x:Nat} (hk:k<256) (h:k.testBit x=true):IntKind.i64.wrap ((k:Int)-((2^ x:Nat):Int))=((andn k (2^ x):Nat):Int):=by
 have e:k=andn k (2^ x)+2^ x:=by
  have hx:x<8:=by
   rcases Nat.lt_or_ge x 8 with h1 |h1
   ·exact h1
   ·rw[Nat.testBit_lt_two_pow (Nat.lt_of_lt_of_le hk (Nat.pow_le_pow_right (n:=2) (i:=8) (by decide) h1))]at h;cases h
  have h2:=Nd k hk x hx
  have h3:k|||2^ x=k:=by
   apply Nat.eq_of_testBit_eq;intro i
   rw[yf]
   by_cases hi:x=i
   ·subst hi;simp [h]
   ·simp [hi]
  rw[h3]at h2;exact h2
 have e2:(k:Int)-((2^ x:Nat):Int)=((andn k (2^ x):Nat):Int):=by omega
 rw[e2];exact qq (by have:andn k (2^ x)<256:=nJ hk;omega)
theorem GE {l:List Int} {i:Nat} (ho:aU l=true) (hi:i<64) {b:Bool} (h1:okc (cN i).x ((cN i).y+1)=true) (h2:dm l ⟨(cN i).x,(cN i).y+1⟩=b):dnB (ag l) i=b:=by
 rw[←yu hi,←h2];unfold aP;rw[h1,←jB ho h1];rfl
theorem dn_no {s i:Nat} (hi:i<64) (h1:okc (cN i).x ((cN i).y+1)=false):dnB s i=false:=by rw[←yu hi];unfold aP;rw[h1];rfl
theorem sG {l:List Int} {i:Nat} (ho:aU l=true) (hi:i<64) {b:Bool} (h1:okc ((cN i).x+1) (cN i).y=true) (h2:dm l ⟨(cN i).x+1,(cN i).y⟩=b):rtB (ag l) i=b:=by
 rw[←rY hi,←h2];unfold aP;rw[h1,←jB ho h1];rfl
theorem Iw {s i:Nat} (hi:i<64) (h1:okc ((cN i).x+1) (cN i).y=false):rtB s i=false:=by rw[←rY hi];unfold aP;rw[h1];rfl
theorem yt {l:List Int} {i:Nat} (ho:aU l=true) (hi:i<64) {b:Bool} (h:dm l (cN i)=b):(ag l).testBit i=b:=by
 rw[←h,←jB ho (fk hi),dF hi]
theorem rt_bd {s i k:Nat} (hi:i<64) (hk:k<256) (hr:rtB s i=true):0≤gI (fv (dS s i (cm s i) k) (k|||2^ (cN i).x.toNat) (wth (cN i).x (gI (cm s i) k))) (k|||2^ (cN i).x.toNat<<<1)∧gI (fv (dS s i (cm s i) k) (k|||2^ (cN i).x.toNat) (wth (cN i).x (gI (cm s i) k))) (k|||2^ (cN i).x.toNat<<<1)≤1099511627776:=by
 have hx:(cN i).x=((i%8:Nat):Int):=rfl
 have h7:=rl hr
 have hn:=qZ (s:=s) (i:=i) (by omega) (k:=k) hk
 have q:=DG (L:=dS s i (cm s i) k) (jC _ _ _ _) (a:=k|||2^ (cN i).x.toNat) (b:=k|||2^ (cN i).x.toNat<<<1) (n:=wth (cN i).x (gI (cm s i) k)) (B:=68719476736) (C:=68719476736) (jV hk (by omega)) (by rw[dR];exact jV hk (by omega)) (fun j hj=>un hi (by omega) hj) (by rw[pO (by omega)];omega) (by decide)
 exact⟨q.1,Int.le_trans q.2 (by decide)⟩
theorem CF {s i k:Nat} (hi:i<64) (hk:k<256) (hr:rtB s i=true):0≤gI (fv (dS s i (cm s i) k) (k|||2^ (i%8)) (gI (cm s i) k)) (k|||2^ (i%8+1))∧gI (fv (dS s i (cm s i) k) (k|||2^ (i%8)) (gI (cm s i) k)) (k|||2^ (i%8+1))≤1099511627776:=by
 have h7:=rl hr
 have hn:=qZ (s:=s) (i:=i) (by omega) (k:=k) hk
 have q:=DG (L:=dS s i (cm s i) k) (jC _ _ _ _) (a:=k|||2^ (i%8)) (b:=k|||2^ (i%8+1)) (n:=gI (cm s i) k) (B:=68719476736) (C:=68719476736) (jV hk (by omega)) (jV hk h7) (fun j hj=>un hi (by omega) hj) (by omega) (by decide)
 exact⟨q.1,Int.le_trans q.2 (by decide)⟩
end Cl
end Go.Proofs.YtonlghbbdcddoaaGreat
