
import Derived.Test.YtgmkkfdnmdohlaaGreatDoorRows
import Derived.WalkKit
import Derived.ProofKit
import Derived.OpenShut
import Derived.Lib.Hide
import Derived.Deep.QuietTactic
import Derived.BigQuiet
import Derived.StillTailTactics
import Derived.Deep.RegionHeld3
import Derived.Deep.AppendLies
import Derived.Maps.AppendAt
import Derived.Deep.Draws
import Derived.Deep.RegionLaw
set_option linter.unusedSimpArgs false
set_option linter.unusedVariables false
namespace Go.Proofs.YtgmkkfdnmdohlaaGreatDoor
open Go.ChangeShapes Go.WideShapes Go.ChangeAt Go.RowKit
def isl (l:List Int):List Value:=l.map (Value.int .i64)
structure Dom where
 x:Int
 y:Int
 d:Bool
 deriving DecidableEq
structure Cel where
 x:Int
 y:Int
 deriving DecidableEq
def Dom.cs (d:Dom):List Value:=[.int .i64 d.x,.int .i64 d.y,.bool d.d]
def Cel.cs (c:Cel):List Value:=[.int .i64 c.x,.int .i64 c.y]
def dsl (l:List Dom):List Value:=l.flatMap Dom.cs
def csl (l:List Cel):List Value:=l.flatMap Cel.cs
theorem de {α:Type} (f:α→List Value) (s:Nat) (hf:∀ a,(f a).length=s) (l:List α) (k j:Nat) (h:k<l.length) (hj:j<s):
    (l.flatMap f)[k*s+j]? =(f l[k])[j]? :=by
  induction l generalizing k with
  | nil=>simp at h
  | cons a l ih=>
    cases k with
    | zero=>simp only[List.flatMap_cons,Nat.zero_mul,Nat.zero_add,List.getElem_cons_zero];rw[List.getElem?_append_left (by rw[hf];exact hj)]
    | succ k=>
      simp only[List.flatMap_cons,List.getElem_cons_succ]
      rw[List.getElem?_append_right (by rw[hf,Nat.succ_mul];omega),hf]
      have:(k+1)*s+j-s=k*s+j:=by rw[Nat.succ_mul];omega
      rw[this]
      exact ih k (by simpa using h)
theorem qQ {α:Type} (f:α→List Value) (s:Nat) (hf:∀ a,(f a).length=s) (l:List α):(l.flatMap f).length=l.length*s:=by
 induction l with
 | nil=>simp
 | cons a l ih=>simp [List.flatMap_cons,hf,ih,Nat.succ_mul];omega
theorem cc (l:List Dom):(dsl l).length=l.length*3:=qQ _ 3 (fun _=>rfl) l
theorem rJ (l:List Cel):(csl l).length=l.length*2:=qQ _ 2 (fun _=>rfl) l
theorem dl (l:List Int):(isl l).length=l.length*1:=by simp [isl]
theorem dv (a b:List Dom):dsl (a++b)=dsl a++dsl b:=by simp [dsl]
theorem sn (a b:List Cel):csl (a++b)=csl a++csl b:=by simp [csl]
theorem sJ (a b:List Int):isl (a++b)=isl a++isl b:=by simp [isl]
def Rd (w:World) (size:Nat) (A:Option Addr) (n:Nat) (xs:List Value):Prop:=
 xs.length=n*size∧(0<n→∃ g off,A=some ⟨g,off,none⟩∧g<w.heap.size∧∀ j u,xs[j]? =some u→w.cell? ⟨g,off+j,none⟩=some u)
theorem Rd.nil (w:World) (size:Nat):Rd w size none 0 []:=⟨by simp,fun h=>absurd h (by omega)⟩
theorem Rd.below {w w':World} {size n:Nat} {A:Option Addr} {xs:List Value} (h:Rd w size A n xs) {B:Nat} (hb:Below B w w') (hB:w.heap.size≤B):Rd w' size A n xs:=
 ⟨h.1,fun hn=>by
  obtain⟨g,off,e,hg,hc⟩:=h.2 hn
  exact⟨g,off,e,Nat.lt_of_lt_of_le hg hb.size,fun j u hu=>(hb.cell (p:=⟨g,off+j,none⟩) (Nat.lt_of_lt_of_le hg hB)).trans (hc j u hu)⟩⟩
theorem Rd.ints {w:World} {A:Option Addr} {l:List Int} {n:Nat} (h:Rd w 1 A n (isl l)) {k:Nat} (hk:k<l.length):
  ∃ g off,A=some ⟨g,off,none⟩∧g<w.heap.size∧w.cell? ⟨g,off+k,none⟩=some (.int .i64 l[k]):=by
 have hn:0<n:=by have:=h.1;rw[dl]at this;omega
 obtain⟨g,off,e,hg,hc⟩:=h.2 hn
 exact⟨g,off,e,hg,hc k _ (by simp [isl,hk])⟩
theorem Rd.doms {w:World} {A:Option Addr} {l:List Dom} {n:Nat} (h:Rd w 3 A n (dsl l)) {k:Nat} (hk:k<l.length):
  ∃ g off,A=some ⟨g,off,none⟩∧g<w.heap.size∧w.cell? ⟨g,off+k*3,none⟩=some (.int .i64 l[k].x)∧w.cell? ⟨g,off+k*3+1,none⟩=some (.int .i64 l[k].y)∧w.cell? ⟨g,off+k*3+2,none⟩=some (.bool l[k].d):=by
 have hn:0<n:=by have:=h.1;rw[cc]at this;omega
 obtain⟨g,off,e,hg,hc⟩:=h.2 hn
 exact⟨g,off,e,hg,hc (k*3) _ (de Dom.cs 3 (fun _=>rfl) l k 0 hk (by omega)),(by rw[Nat.add_assoc];exact hc (k*3+1) _ (de Dom.cs 3 (fun _=>rfl) l k 1 hk (by omega))),(by rw[Nat.add_assoc];exact hc (k*3+2) _ (de Dom.cs 3 (fun _=>rfl) l k 2 hk (by omega)))⟩
theorem Rd.len1 {w:World} {A:Option Addr} {l:List Int} {n:Nat} (h:Rd w 1 A n (isl l)):n=l.length:=by have:=h.1;rw[dl]at this;omega
theorem Rd.len3 {w:World} {A:Option Addr} {l:List Dom} {n:Nat} (h:Rd w 3 A n (dsl l)):n=l.length:=by have:=h.1;rw[cc]at this;omega
theorem me {w:World} {base e size:Nat} {v:Value} {n:Nat} {xs:List Value} (h:w.ownsRow base e size v n xs):
  ∃ A c,v= .slice A n c∧Rd w size A n xs∧n≤c∧c≤maxLen:=by
 have h0:=h
 obtain⟨h1,h2⟩:=h
 rcases h2 with⟨rfl,rfl⟩ |⟨g,cap,cur,rfl,hb,hg,hn,hm,hs,hx⟩
 ·have:xs=[]:=List.eq_nil_of_length_eq_zero (by simpa using h1)
  subst this
  exact⟨none,0,rfl,Rd.nil _ _,Nat.le_refl _,Nat.zero_le _⟩
 ·refine⟨_,cap,rfl,⟨h1,fun hn0=>⟨g,0,rfl,?_,fun j u hu=> ?_⟩⟩,hn,hm⟩
  ·rcases Nat.lt_or_ge g w.heap.size with hlt |hge
   ·exact hlt
   ·rw[Array.getElem?_eq_none hge]at hg;cases hg
  ·have hj:j<xs.length:=by
    rcases Nat.lt_or_ge j xs.length with hlt |hge
    ·exact hlt
    ·rw[List.getElem?_eq_none hge]at hu;cases hu
   have:=h0.cellAt j (by omega)
   rw[Nat.zero_add,this,hu]
theorem qN {W w1:World} (hb:Below W.heap.size W w1):(∀ b o,b<W.heap.size→w1.cell? ⟨b,o,none⟩=W.cell? ⟨b,o,none⟩)∧(∀ b o,b<W.heap.size→w1.frozen? ⟨b,o,none⟩=W.frozen? ⟨b,o,none⟩)∧W.heap.size≤w1.heap.size:=
 ⟨fun b o h=>hb.cell (p:=⟨b,o,none⟩) h,fun b o h=>hb.frozen (p:=⟨b,o,none⟩) h,hb.size⟩
theorem Below.step {B:Nat} {a b c:World} (h:Below B a b) (k:Below b.heap.size b c) (hB:B≤b.heap.size):Below B a c:=h.trans (k.mono hB)
theorem Below.step0 {a b c:World} (h:Below a.heap.size a b) (k:Below b.heap.size b c):Below a.heap.size a c:=h.trans (k.mono h.size)
theorem Below.alloc0 {a b:World} (h:Below a.heap.size a b) (o:Obj):Below a.heap.size a (b.alloc o):=h.alloc h.size o
theorem bb {B:Nat} {a w:World} (h:Below B a w) (n:Nat):Below B a (w.drewN n):=⟨h.os,h.tape,h.output,h.size,h.block⟩
theorem BN {w w':World} {base e size:Nat} {v:Value} {n:Nat} {xs:List Value} (h:w.ownsRow base e size v n xs) {B:Nat} (hb:Below B w w') (hB:w.heap.size≤B):w'.ownsRow base e size v n xs:=by
 obtain⟨h1,h2⟩:=h
 refine⟨h1,?_⟩
 rcases h2 with h2 |⟨g,cap,cur,rfl,hb0,hg,r⟩
 ·exact .inl h2
 ·refine .inr ⟨g,cap,cur,rfl,hb0,?_,r⟩
  rw[hb.block g]
  ·exact hg
  ·rcases Nat.lt_or_ge g w.heap.size with hlt |hge
   ·omega
   ·rw[Array.getElem?_eq_none hge]at hg;cases hg
theorem xS {w:World} {base base' e size:Nat} {v:Value} {n:Nat} {xs:List Value} (h:w.ownsRow base e size v n xs) (hB:base'≤base):w.ownsRow base' e size v n xs:=by
 obtain⟨h1,h2⟩:=h
 refine⟨h1,?_⟩
 rcases h2 with h2 |⟨g,cap,cur,rfl,hb0,r⟩
 ·exact .inl h2
 ·exact .inr ⟨g,cap,cur,rfl,Nat.le_trans hB hb0,r⟩
def RdA (w:World) (size:Nat) (A:Option Addr) (n:Nat) (xs:List Value):Prop:=
 xs.length=n*size∧(0<n→∃ ad:Addr,A=some ad∧ad.block<w.heap.size∧∀ j u,xs[j]? =some u→w.cell? (ad.add j)=some u)
theorem vR (a:Addr) (n:Nat):(a.add n).block=a.block:=by unfold Addr.add;split<;>rfl
theorem nK (a:Addr) (i j:Nat):(a.add i).add j=a.add (i+j):=by
 unfold Addr.add
 by_cases hi:i=0<;>by_cases hj:j=0<;>simp [hi,hj,Nat.add_assoc]
theorem RdA.below {w w':World} {size n:Nat} {A:Option Addr} {xs:List Value} (h:RdA w size A n xs) {B:Nat} (hb:Below B w w') (hB:w.heap.size≤B):RdA w' size A n xs:=
 ⟨h.1,fun hn=>by
  obtain⟨ad,e,hg,hc⟩:=h.2 hn
  exact⟨ad,e,Nat.lt_of_lt_of_le hg hb.size,fun j u hu=>(hb.cell (p:=ad.add j) (by rw[vR];exact Nat.lt_of_lt_of_le hg hB)).trans (hc j u hu)⟩⟩
theorem Rd.step {w w':World} {size n:Nat} {A:Option Addr} {xs:List Value} (h:Rd w size A n xs) (hb:Below w.heap.size w w'):Rd w' size A n xs:=h.below hb (Nat.le_refl _)
theorem Rd.alloc {w:World} {size n:Nat} {A:Option Addr} {xs:List Value} (h:Rd w size A n xs) (o:Obj):Rd (w.alloc o) size A n xs:=h.step ((Below.refl _ _).alloc (Nat.le_refl _) o)
theorem Rd.drew {w:World} {size n:Nat} {A:Option Addr} {xs:List Value} (h:Rd w size A n xs):Rd w.drew size A n xs:=h
theorem Rd.drewN {w:World} {size n:Nat} {A:Option Addr} {xs:List Value} (h:Rd w size A n xs) (k:Nat):Rd (w.drewN k) size A n xs:=h
theorem RdA.step {w w':World} {size n:Nat} {A:Option Addr} {xs:List Value} (h:RdA w size A n xs) (hb:Below w.heap.size w w'):RdA w' size A n xs:=h.below hb (Nat.le_refl _)
theorem RdA.alloc {w:World} {size n:Nat} {A:Option Addr} {xs:List Value} (h:RdA w size A n xs) (o:Obj):RdA (w.alloc o) size A n xs:=h.step ((Below.refl _ _).alloc (Nat.le_refl _) o)
theorem RdA.drew {w:World} {size n:Nat} {A:Option Addr} {xs:List Value} (h:RdA w size A n xs):RdA w.drew size A n xs:=h
theorem RdA.drewN {w:World} {size n:Nat} {A:Option Addr} {xs:List Value} (h:RdA w size A n xs) (k:Nat):RdA (w.drewN k) size A n xs:=h
theorem RdA.ints {w:World} {A:Option Addr} {l:List Int} {n:Nat} (h:RdA w 1 A n (isl l)) {k:Nat} (hk:k<l.length):
  ∃ ad:Addr,A=some ad∧ad.block<w.heap.size∧w.cell? (ad.add k)=some (.int .i64 l[k]):=by
 have hn:0<n:=by have:=h.1;rw[dl]at this;omega
 obtain⟨ad,e,hg,hc⟩:=h.2 hn
 exact⟨ad,e,hg,hc k _ (by simp [isl,hk])⟩
theorem RdA.doms {w:World} {A:Option Addr} {l:List Dom} {n:Nat} (h:RdA w 3 A n (dsl l)) {k:Nat} (hk:k<l.length):
  ∃ ad:Addr,A=some ad∧ad.block<w.heap.size∧w.cell? (ad.add (k*3))=some (.int .i64 l[k].x)∧w.cell? ⟨(ad.add (k*3)).block,(ad.add (k*3)).off+1,none⟩=some (.int .i64 l[k].y)∧w.cell? ⟨(ad.add (k*3)).block,(ad.add (k*3)).off+2,none⟩=some (.bool l[k].d):=by
 have hn:0<n:=by have:=h.1;rw[cc]at this;omega
 obtain⟨ad,e,hg,hc⟩:=h.2 hn
 exact⟨ad,e,hg,hc (k*3) _ (de Dom.cs 3 (fun _=>rfl) l k 0 hk (by omega)),(by have h:=hc (k*3+1) _ (de Dom.cs 3 (fun _=>rfl) l k 1 hk (by omega));rwa [←nK]at h),(by have h:=hc (k*3+2) _ (de Dom.cs 3 (fun _=>rfl) l k 2 hk (by omega));rwa [←nK]at h)⟩
theorem CG {P:Program} (t e:TypeId) (i:TypeInfo) (z:Value) (ht:P.underlying t=some (.slice e)) (hi:P.info? e=some i) (hz:i.zero=some z)
  (n:Nat) (hbytes:i.bytes*n≤281474976710656) (h63:n≤maxLen) (w:World):
  (Instr.makeSlice t (.int .i64 (n:Int)) (.int .i64 (n:Int))).run P w= .ok (.slice (some ⟨w.heap.size,0,none⟩) n n) (w.alloc (.cells (madeCells z.cells (n*i.size)) e)):=by
 have hb:(i.bytes:Int)*(n:Int)≤281474976710656:=by
  have h:((i.bytes*n:Nat):Int)≤281474976710656:=by omega
  rwa [Int.natCast_mul]at h
 unfold maxLen at h63
 have hr:=run_make (P:=P) w t e i z ht hi hz .i64 .i64 n n (by omega) (by omega) hb (by omega)
 simp only[Int.toNat_natCast]at hr
 exact hr
theorem eT (w:World) (o:Obj):(w.alloc o).heap[w.heap.size]? =some o:=by
 show(w.heap.push o)[w.heap.size]? =some o
 simp
theorem rQ (w:World) (e size n:Nat) (cur:Array Value) (hs:cur.size=n*size) (hn:n≤maxLen):
  (w.alloc (.cells cur e)).ownsRow w.heap.size e size (.slice (some ⟨w.heap.size,0,none⟩) n n) n cur.toList:=by
 refine⟨by simpa using hs,.inr ⟨w.heap.size,n,cur,rfl,Nat.le_refl _,eT _ _,Nat.le_refl _,hn,hs,?_⟩⟩
 rw[List.take_of_length_le]
 simp [hs]
theorem BL (n:Nat):(madeCells (Value.int .i64 0).cells (n*1)).toList=isl (List.replicate n 0):=by
 have h:(Value.int .i64 0).cells= #[Value.int .i64 0]:=rfl
 rw[h,Nat.mul_one,toList_madeCells_one]
 simp [isl]
theorem rU {k:IntKind} {a b:Int} (h:a=b):Ending.returned (.int k a)= .returned (.int k b):=by rw[h]
theorem fb {a b:Bool} (h:a=b):Ending.returned (.bool a)= .returned (.bool b):=by rw[h]
theorem xU {w:World} {B e size n c:Nat} {A:Option Addr} {xs:List Value} (h:w.ownsRow B e size (.slice A n c) n xs) (hn:0<n):
  ∃ g,A=some ⟨g,0,none⟩∧B≤g∧g<w.heap.size:=by
 rcases h.2 with⟨hv,h0⟩ |⟨g,cap,cur,hv,hb,hg,_⟩
 ·omega
 ·injection hv with h1 h2 h3
  refine⟨g,h1,hb,?_⟩
  rcases Nat.lt_or_ge g w.heap.size with hlt |hge
  ·exact hlt
  ·rw[Array.getElem?_eq_none hge]at hg;cases hg
theorem ko {w:World} {base e size:Nat} {v:Value} {n:Nat} {xs:List Value} (h:w.ownsRow base e size v n xs):
  ∃ A c,v= .slice A n c:=by
 obtain⟨A,c,h,_⟩:=me h
 exact⟨A,c,h⟩
theorem nV {w:World} {base e size n c:Nat} {A:Option Addr} {xs:List Value} (h:w.ownsRow base e size (.slice A n c) n xs):Rd w size A n xs:=by
 obtain⟨A',c',hv,hr,_⟩:=me h
 injection hv with h1 h2 h3
 subst h1
 exact hr
theorem Kt (w:World) (e size n:Nat) (cur:Array Value) (hs:cur.size=n*size):Rd (w.alloc (.cells cur e)) size (some ⟨w.heap.size,0,none⟩) n cur.toList:=by
 refine⟨by simpa using hs,fun _=>⟨w.heap.size,0,rfl,by simp,fun j u hu=> ?_⟩⟩
 have h:=eT w (.cells cur e)
 have hu':cur[j]? =some u:=by simpa using hu
 simp only[World.cell?]
 rw[h]
 simpa using hu'
theorem zf {w w':World} {row:Option Nat} (hg:w.grownBy w' row) {b o:Nat} {v:Value} (h:w.cell? ⟨b,o,none⟩=some v) (hne:row≠some b):w'.cell? ⟨b,o,none⟩=some v:=
 hg.cell h (fun e=>hne e.symm)
theorem ka {w:World} {b o:Nat} {v:Value} (h:w.cell? ⟨b,o,none⟩=some v):b<w.heap.size:=by
 rcases Nat.lt_or_ge b w.heap.size with hlt |hge
 ·exact hlt
 ·simp [World.cell?,Array.getElem?_eq_none hge]at h
theorem sE (w:World) (row:Option Nat):w.grownBy w row:=⟨rfl,rfl,rfl,Nat.le_refl _,fun _ _ _=>rfl⟩
theorem dB {w w':World} {base e size:Nat} {v:Value} {n:Nat} {xs:List Value} (h:w.ownsRow base e size v n xs) (hb:Below w.heap.size w w'):w'.ownsRow base e size v n xs:=BN h hb (Nat.le_refl _)
theorem cr {w:World} {B e s n:Nat} {v:Value} {xs:List Value} (h:w.ownsRow B e s v n xs) (o:Obj):(w.alloc o).ownsRow B e s v n xs:=h.alloc o
theorem cF {w:World} {B e s n:Nat} {v:Value} {xs:List Value} (h:w.ownsRow B e s v n xs):w.drew.ownsRow B e s v n xs:=h
theorem cP {w:World} {B e s n:Nat} {v:Value} {xs:List Value} (h:w.ownsRow B e s v n xs) (k:Nat):(w.drewN k).ownsRow B e s v n xs:=h
theorem ck {w w':World} {row:Option Nat} (h:w.grownBy w' row):w.heap.size≤w'.heap.size:=h.size
theorem co {n:Nat} {w:World} (h:n≤w.heap.size) (o:Obj):n≤(w.alloc o).heap.size:=by simp;omega
theorem cp {n:Nat} {w:World} (h:n≤w.heap.size) (k:Nat):n≤(w.drewN k).heap.size:=h
theorem cB {n:Nat} {w:World} (h:n≤w.heap.size):n≤w.drew.heap.size:=h
theorem aH {w w':World} {b o:Nat} {v:Value} (h:w.cell? ⟨b,o,none⟩=some v) (hb:Below w.heap.size w w'):w'.cell? ⟨b,o,none⟩=some v:=(hb.cell (p:=⟨b,o,none⟩) (ka h)).trans h
theorem aw {w:World} {b o:Nat} {v:Value} (h:w.cell? ⟨b,o,none⟩=some v) (x:Obj):(w.alloc x).cell? ⟨b,o,none⟩=some v:=by rw[World.cell?_alloc_lt w x _ (ka h)];exact h
theorem aD {w:World} {b o:Nat} {v:Value} (h:w.cell? ⟨b,o,none⟩=some v):w.drew.cell? ⟨b,o,none⟩=some v:=h
theorem az {w:World} {b o:Nat} {v:Value} (h:w.cell? ⟨b,o,none⟩=some v) (k:Nat):(w.drewN k).cell? ⟨b,o,none⟩=some v:=h
theorem ai {w:World} {cs:Array Value} {t:TypeId} {b o:Nat} {v:Value} (h:cs[o]? =some v) (hb:b=w.heap.size):(w.alloc (.cells cs t)).cell? ⟨b,o,none⟩=some v:=by
 subst hb
 have h':=eT w (.cells cs t)
 simp only[World.cell?]
 rw[h']
 simpa using h
theorem cj {w w':World} {row:Option Nat} {b o:Nat} {v:Value} (h:w.cell? ⟨b,o,none⟩=some v) (hg:w.grownBy w' row) (hne:row≠some b):w'.cell? ⟨b,o,none⟩=some v:=zf hg h hne
theorem Fz {w:World} {B e s n:Nat} {v:Value} {xs:List Value} (h:w.ownsRow B e s v n xs) {b:Nat} (hle:w.heap.size≤b):v.ownBlock≠some b:=fun e=>by have:=(h.lt b e).2;omega
theorem ut {W w:World} {cs:Array Value} {t:TypeId} (hW:W=w.alloc (.cells cs t)):∀ (j:Nat) (u:Value),cs.toList[j]? =some u→W.cell? ((⟨w.heap.size,0,none⟩:Addr).add j)=some u:=by
 subst hW
 intro j u hu
 have h:cs[j]? =some u:=by simpa using hu
 have e:((⟨w.heap.size,0,none⟩:Addr).add j)=⟨w.heap.size,j,none⟩:=by
  unfold Addr.add;split
  ·subst_vars;rfl
  ·simp
 rw[e]
 exact ai h rfl
theorem yS (w:World) (a b:Value) (t:TypeId):∀ (j:Nat) (u:Value),[a,b][j]? =some u→(w.alloc (.cells #[a,b] t)).cell? ((⟨w.heap.size,0,none⟩:Addr).add j)=some u:=ut rfl
theorem sm (w:World) (a b c:Value) (t:TypeId):∀ (j:Nat) (u:Value),[a,b,c][j]? =some u→(w.alloc (.cells #[a,b,c] t)).cell? ((⟨w.heap.size,0,none⟩:Addr).add j)=some u:=ut rfl
theorem dc {B:Nat} {a w w2:World} {row:Option Nat} (hb:Below B a w) (hg:w.grownBy w2 row) (hr:∀ k,row=some k→B≤k) (hB:B≤w.heap.size):Below B a w2:=hb.grown hg hB hr
theorem mS {w:World} {base e size:Nat} {v:Value} {n:Nat} {xs ys:List Value} (h:w.ownsRow base e size v n xs) (he:xs=ys):w.ownsRow base e size v n ys:=he▸h
end Go.Proofs.YtgmkkfdnmdohlaaGreatDoor
