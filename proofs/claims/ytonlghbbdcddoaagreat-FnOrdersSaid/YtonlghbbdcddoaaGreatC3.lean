/- Walks. -/
import Derived.Test.YtonlghbbdcddoaaGreatC2
import Derived.Test.YtonlghbbdcddoaaGreatClB
namespace Go.Proofs.YtonlghbbdcddoaaGreat
namespace Cl
open Go.ChangeShapes Go.WideShapes Go.ChangeAt Go.RowKit
set_option maxRecDepth 20000
theorem nR {l:List Int} {c:Cel} (ho:aU l=true) (hc:okc c.x c.y=true):dm l c=aP (ag l) c:=by unfold aP;rw[hc,←jB ho hc];rfl
theorem Hb {s i:Nat} (h:i<64):aP s (cN i)=s.testBit i:=by unfold aP;rw[fk h,dF h];rfl
theorem mr {Γ:Cx} {ops:Array Oper} {o:Oper} {j dj d:Nat} {b b':Bool} (hg:o.guard=some (j,b)) (hj:(ops[j]?).bind (·.dst)=some dj) (hb:b'≠b) (hd:o.dst=some d) (hN:Γ.ok d):
    iM Γ ops o [(.s dj,.s (V.v (.bool b')))] [(.s d,some (.s (V.v (.tuple #[]))))]:=by
  intro σ a w ⟨ρ,I,hs⟩ hR K Q hK
  rw[if_neg (by simp [Region.wanted,hg,qr hs hj (hR (.s dj,.s (V.v (.bool b'))) (by simp)),hb]),hd]
  exact hK _ _ ⟨ρ,I,hs.put hN rfl⟩
theorem wQ {Γ:Cx} {ops:Array Oper} {σ:St} {a:Act} {w:World} {ρ:Nat→Option Place} {I:Nat→Prop} (hs:Sat Γ σ a w ρ I) {j dj:Nat} (hj:(ops[j]?).bind (·.dst)=some dj) (hb:get σ (.s dj)=some (.s (V.v (.tuple #[])))):
    yielded ops a.tmps j=none:=by
  have h:a.tmps.getD dj undef= .tuple #[]:=hs.sl dj _ hb
  unfold yielded
  rw[hj]
  cases hq:a.tmps[dj]? with
  | none=>simp [hq]
  | some v=>
    rw[Array.getD_eq_getD_getElem?,hq]at h
    simp at h;subst h;simp [hq]
theorem bV {Γ:Cx} {ops:Array Oper} {o:Oper} {j dj d:Nat} {b:Bool} (hg:o.guard=some (j,b)) (hj:(ops[j]?).bind (·.dst)=some dj) (hd:o.dst=some d) (hN:Γ.ok d):
    iM Γ ops o [(.s dj,.s (V.v (.tuple #[])))] [(.s d,some (.s (V.v (.tuple #[]))))]:=by
  intro σ a w ⟨ρ,I,hs⟩ hR K Q hK
  rw[if_neg (by simp [Region.wanted,hg,wQ hs hj (hR (.s dj,.s (V.v (.tuple #[]))) (by simp))]),hd]
  exact hK _ _ ⟨ρ,I,hs.put hN rfl⟩
def ca (d:Dom):Cel:=⟨d.x,d.y⟩
def cb (d:Dom):Cel:=⟨if d.d then d.x else d.x+1,if d.d then d.y+1 else d.y⟩
theorem Aa {l:List Int} {c:Cel} (h:eJ l c=true):aU l=true:=by unfold eJ at h;simp only[Bool.and_eq_true]at h;exact h.1
def okD (d:Dom):Bool:=okd d.x d.y d.d
theorem eK {d:Dom} (h:okD d=true):(0≤d.x∧d.x≤7)∧(0≤d.y∧d.y≤7)∧(d.d=false→d.x≤6)∧(d.d=true→d.y≤6):=by
 have:=jU.1 h
 cases e:d.d<;>simp [e]at this⊢ <;>omega
theorem yM (d:Dom):okD d=(okc (ca d).x (ca d).y&&okc (cb d).x (cb d).y):=by
 unfold okD okd ca cb;cases d.d<;>simp
theorem eX {d:Dom} (h:okD d=true):okc (ca d).x (ca d).y=true:=by rw[yM]at h;simp only[Bool.and_eq_true]at h;exact h.1
theorem fU {d:Dom} (h:okD d=true):okc (cb d).x (cb d).y=true:=by rw[yM]at h;simp only[Bool.and_eq_true]at h;exact h.2
theorem Gq (d:Dom):ca d≠cb d:=by
 unfold ca cb;intro h;simp only[Cel.mk.injEq]at h
 cases e:d.d<;>simp [e]at h<;>omega
def domS (d:Dom):Nat:=pu (pu 0 (ca d)) (cb d)
theorem iP {d:Dom} (h:okD d=true):domS d<18446744073709551616:=oC (oC (by decide) (eX h)) (fU h)
theorem eR (d:Dom) (i:Nat):(domS d).testBit i=(decide (idx (ca d)=i)||decide (idx (cb d)=i)):=by
 unfold domS;rw[kK,kK];simp
def ord (d:Dom):Nat:=2*idx (ca d)+(if d.d then 1 else 0)
theorem kr {d:Dom} (h:okD d=true):((ord d:Nat):Int)=2*(d.y*8+d.x)+(if d.d then 1 else 0):=by
 have:=eK h;unfold ord idx ca;cases e:d.d<;>simp [e]<;>omega
def bef (d e:Dom):Bool:=okD d&&okD e&&decide (ord d<ord e)
theorem yR {d e:Dom} (hd:okD d=true) (he:okD e=true) (h:ord d=ord e):d=e:=by
 unfold ord at h
 have h1:idx (ca d)=idx (ca e)∧d.d=e.d:=by
  cases d1:d.d<;>cases e1:e.d<;>simp [d1,e1]at h⊢ <;>omega
 have h2:=gx (eX hd) (eX he) h1.1
 unfold ca at h2;simp only[Cel.mk.injEq]at h2
 cases d;cases e;simp_all
def rP (s:Nat) (d:Dom):Nat:=if okD d then s|||domS d else s
def dl (ds:List Dom):Nat:=ds.foldl rP 0
theorem Jw {s:Nat} (hs:s<18446744073709551616) (d:Dom):rP s d<18446744073709551616:=by
 unfold rP;split
 ·rename_i h;exact oT 64 hs (iP h)
 ·exact hs
theorem wC (ds:List Dom):∀ s,s<18446744073709551616→ds.foldl rP s<18446744073709551616:=by
 induction ds with
 | nil=>intro s h;exact h
 | cons d ds ih=>intro s h;exact ih _ (Jw h d)
theorem CY (ds:List Dom):dl ds<18446744073709551616:=wC ds 0 (by decide)
theorem xd {ds:List Dom} {k:Nat} (h:k<ds.length):dl (ds.take (k+1))=rP (dl (ds.take k)) (gD ds k):=by
 unfold dl;rw[List.take_succ_eq_append_getElem h,List.foldl_append,jP h];rfl
theorem qD {ds:List Dom} {k:Nat} (h:k<ds.length) (ho:okD (gD ds k)=true):dl (ds.take (k+1))=dl (ds.take k)|||domS (gD ds k):=by
 rw[xd h,rP,if_pos ho]
theorem Jx {ds:List Dom} {k:Nat} (h:k<ds.length) (ho:okD (gD ds k)=false):dl (ds.take (k+1))=dl (ds.take k):=by
 rw[xd h,rP,ho];simp
theorem Gw {ds:List Dom} {k:Nat} (h:¬(k:Int)<(ds.length:Int)):dl (ds.take k)=dl ds:=by rw[List.take_of_length_le (by omega)]
theorem pS {l:List Dom} {k:Nat} (h:k<l.length):gD l k∈l:=by rw[jP h];exact List.getElem_mem h
def cvr (c:Cel) (d:Dom):Bool:=okD d&&(decide (ca d=c)||decide (cb d=c))
theorem uN (ds:List Dom) {c:Cel} (hc:okc c.x c.y=true):∀ s,(ds.foldl rP s).testBit (idx c)=(s.testBit (idx c)||ds.any (cvr c)):=by
  induction ds with
  | nil=>intro s;simp
  | cons d ds ih=>
    intro s
    rw[List.foldl_cons,ih,List.any_cons,←Bool.or_assoc]
    congr 1
    unfold rP cvr
    by_cases ho:okD d=true
    · rw[if_pos ho,ho,Nat.testBit_or,eR]
      have e1:decide (idx (ca d)=idx c)=decide (ca d=c):=by
        rw[decide_eq_decide];exact⟨gx (eX ho) hc,fun h=>by rw[h]⟩
      have e2:decide (idx (cb d)=idx c)=decide (cb d=c):=by
        rw[decide_eq_decide];exact⟨gx (fU ho) hc,fun h=>by rw[h]⟩
      rw[e1,e2];simp
    · simp only[Bool.not_eq_true]at ho;rw[ho];simp
theorem qC (ds:List Dom) {c:Cel} (hc:okc c.x c.y=true):(dl ds).testBit (idx c)=ds.any (cvr c):=by
 unfold dl;rw[uN ds hc];simp
theorem CR (a b c:Nat):andn (andn a b) c=andn a (b|||c):=by
 refine Nat.eq_of_testBit_eq fun i=> ?_
 rw[du,du,du,Nat.testBit_or]
 cases a.testBit i<;>cases b.testBit i<;>cases c.testBit i<;>rfl
theorem natI {a b:Nat}:((a:Int)=(b:Int))↔a=b:=Int.ofNat_inj
theorem wV (s:Nat) (ds:List Dom):andn s (dl (ds.take 0))=s:=by simp [andn,dl]
def fits (s c:Nat) (d:Dom):Bool:=decide (andn s c&&&domS d=domS d)
theorem nP (s c:Nat) (d:Dom):fits s c d=((s.testBit (idx (ca d))&& !c.testBit (idx (ca d)))&&(s.testBit (idx (cb d))&& !c.testBit (idx (cb d)))):=by
 unfold fits
 rw[Bool.eq_iff_iff,decide_eq_true_eq]
 constructor
 ·intro h
  have h1:=congrArg (fun n=>n.testBit (idx (ca d))) h
  have h2:=congrArg (fun n=>n.testBit (idx (cb d))) h
  simp only[Nat.testBit_and,du,eR,decide_true,Bool.true_or,Bool.or_true,Bool.and_true]at h1 h2
  rw[h1,h2];rfl
 ·intro h
  simp only[Bool.and_eq_true]at h
  refine Nat.eq_of_testBit_eq fun i=> ?_
  rw[Nat.testBit_and,du,eR]
  by_cases e1:idx (ca d)=i
  ·subst e1;simp [h.1.1,h.1.2]
  ·by_cases e2:idx (cb d)=i
   ·subst e2;simp [h.2.1,h.2.2]
   ·simp [e1,e2]
def stepOk (s:Nat) (ds:List Dom) (j:Nat):Bool:=okD (gD ds j)&&(fits s (dl (ds.take j)) (gD ds j)&&(decide (j=0)||bef (gD ds (j-1)) (gD ds j)))
def pC (s:Nat) (ds:List Dom) (k:Nat):Bool:=(List.range k).all (stepOk s ds)
def fg (l:List Int) (ds:List Dom):Bool:=aU l&&pC (ag l) ds ds.length
theorem xx (s:Nat) (ds:List Dom):pC s ds 0=true:=rfl
theorem xw {s:Nat} {ds:List Dom} {k:Nat} (h:pC s ds k=true) (h2:stepOk s ds k=true):pC s ds (k+1)=true:=by
 unfold pC at*;rw[List.range_succ,List.all_append,h];simp [h2]
theorem xp {l:List Int} {ds:List Dom} (h:aU l=false):fg l ds=false:=by unfold fg;rw[h];rfl
theorem Hk {l:List Int} {ds:List Dom} {k:Nat} (hk:k<ds.length) (h:aU l=false∨stepOk (ag l) ds k=false):fg l ds=false:=by
 rcases h with h |h
 ·exact xp h
 ·unfold fg pC
  have:(List.range ds.length).all (stepOk (ag l) ds)=false:=by
   rw[List.all_eq_false];exact⟨k,by simpa using hk,by rw[h];simp⟩
  rw[this];simp
theorem Fe {l:List Int} {ds:List Dom} {k:Nat} (hk:¬(k:Int)<(ds.length:Int)) (hk2:k≤ds.length) (h:aU l=true) (h2:pC (ag l) ds k=true):fg l ds=true:=by
 obtain rfl:k=ds.length:=by omega
 unfold fg;rw[h,h2];rfl
theorem mL {l:List Int} {ds:List Dom} (h:fg l ds=true):aU l=true∧∀ k,k<ds.length→stepOk (ag l) ds k=true:=by
 unfold fg pC at h;simp only[Bool.and_eq_true,List.all_eq_true]at h
 exact⟨h.1,fun k hk=>h.2 k (by simpa using hk)⟩
theorem Hl {l:List Int} {ds:List Dom} (h:fg l ds=true) {k:Nat} (hk:k<ds.length):okD (gD ds k)=true:=by
 have:=(mL h).2 k hk
 unfold stepOk at this;simp only[Bool.and_eq_true]at this;exact this.1
def dP (c:Nat):List Bool:=(List.range 64).map c.testBit
theorem eD (c:Nat):(dP c).length=64:=by simp [dP]
theorem km {c k:Nat} (h:k<64):gB (dP c) k=c.testBit k:=by
 rw[GS (by rw[eD];exact h)];simp [dP]
theorem uC:List.replicate 64 false=dP 0:=by
 decide
theorem ED (ds:List Dom):List.replicate 64 false=dP (dl (ds.take 0)):=by rw[List.take_zero];exact uC
theorem oF (s:Nat) (c:Cel):(dP s).set (idx c) true=dP (pu s c):=by
 refine List.ext_getElem (by simp [dP]) fun i h1 h2=> ?_
 simp only[dP,List.getElem_set,List.getElem_map,List.getElem_range,kK]
 by_cases h:idx c=i<;>simp [h]
theorem zy (s:Nat) (d:Dom):pu (pu s (ca d)) (cb d)=s|||domS d:=by
 refine Nat.eq_of_testBit_eq fun i=> ?_
 rw[kK,kK,Nat.testBit_or,eR,Bool.or_assoc]
theorem EE {ds:List Dom} {k:Nat} (h:k<ds.length) (ho:okD (gD ds k)=true):((dP (dl (ds.take k))).set (idx (ca (gD ds k))) true).set (idx (cb (gD ds k))) true=dP (dl (ds.take (k+1))):=by
 rw[oF,oF,zy,qD h ho]
theorem DZ {l:List Int} {ds:List Dom} {k:Nat} (hr:aU l=true) (ho:okD (gD ds k)=true):stepOk (ag l) ds k=
  (((eJ l (ca (gD ds k))&& !gB (dP (dl (ds.take k))) (idx (ca (gD ds k))))&&(eJ l (cb (gD ds k))&& !gB (dP (dl (ds.take k))) (idx (cb (gD ds k)))))&&(decide (k=0)||bef (gD ds (k-1)) (gD ds k))):=by
 unfold stepOk eJ
 rw[nP,ho,hr,eX ho,fU ho,km (cn (eX ho)),km (cn (fU ho))];simp
theorem sf {l:List Int} {ds:List Dom} {k:Nat} (hk:k<ds.length) (h:aU l=true→stepOk (ag l) ds k=false):fg l ds=false:=by
 cases hr:aU l
 ·exact xp hr
 ·exact Hk hk (.inr (h hr))
theorem Fd {l:List Int} {ds:List Dom} {k:Nat} (hk:¬(k:Int)<(ds.length:Int)) (hk2:k≤ds.length) (h2:pC (ag l) ds k=true):aU l=fg l ds:=by
 obtain rfl:k=ds.length:=by omega
 unfold fg;rw[h2];simp
def jj (s:Nat):Nat:=((List.range 64).filter s.testBit).length
theorem AF {s:Nat} {c:Cel} (hc:okc c.x c.y=true) (h:s.testBit (idx c)=false):jj (pu s c)=jj s+1:=by
 unfold jj pu;rw[xb,if_pos ⟨h,cn hc⟩]
theorem AG {s:Nat} {d:Dom} (ho:okD d=true) (h1:s.testBit (idx (ca d))=false) (h2:s.testBit (idx (cb d))=false):jj (s|||domS d)=jj s+2:=by
 rw[←zy,AF (fU ho),AF (eX ho) h1]
 rw[kK,h2]
 have:idx (ca d)≠idx (cb d):=fun h=>Gq d (gx (eX ho) (fU ho) h)
 simp [this]
theorem HN {s:Nat} {ds:List Dom} {k:Nat} (hk:k≤ds.length) (h:pC s ds k=true):jj (dl (ds.take k))=2*k∧∀ i,(dl (ds.take k)).testBit i=true→s.testBit i=true:=by
  induction k with
  | zero=>exact⟨by rw[List.take_zero];decide,fun i hi=>by simp [dl]at hi⟩
  | succ k ih=>
    unfold pC at h;rw[List.range_succ,List.all_append]at h
    simp only[Bool.and_eq_true,List.all_cons,List.all_nil,Bool.and_true]at h
    obtain⟨i1,i2⟩:=ih (by omega) h.1
    have hs:=h.2
    unfold stepOk at hs;rw[nP]at hs
    simp only[Bool.and_eq_true,Bool.not_eq_true']at hs
    obtain⟨ho,⟨⟨a1,a2⟩,b1,b2⟩,_⟩:=hs
    rw[qD (by omega) ho,AG ho a2 b2,i1]
    refine⟨by omega,fun i hi=> ?_⟩
    rw[Nat.testBit_or,eR]at hi
    simp only[Bool.or_eq_true,decide_eq_true_eq]at hi
    rcases hi with hi |rfl |rfl
    · exact i2 i hi
    · exact a1
    · exact b1
theorem wA {p q:Nat→Bool}:∀ {l:List Nat},(∀ i∈l,p i=true→q i=true)→(l.filter p).length=(l.filter q).length→∀ i∈l,p i=q i:=by
  intro l
  induction l with
  | nil=>intro _ _ i hi;cases hi
  | cons a l ih=>
    intro h he i hi
    have hle:(l.filter p).length≤(l.filter q).length:=by
      have hh:∀ i∈l,p i=true→q i=true:=fun i hi=>h i (by simp [hi])
      clear h he hi ih
      induction l with
      | nil=>simp
      | cons b l ih=>
        have:=ih (fun i hi=>hh i (by simp [hi]))
        have hb:=hh b (by simp)
        cases e1:p b<;>cases e2:q b<;>simp [e1,e2]at* <;>omega
    have ha:=h a (by simp)
    cases e1:p a<;>cases e2:q a<;>simp [e1,e2]at he ha
    · rcases List.mem_cons.1 hi with rfl |hi
      · rw[e1,e2]
      · exact ih (fun i hi=>h i (by simp [hi])) he i hi
    · omega
    · rcases List.mem_cons.1 hi with rfl |hi
      · rw[e1,e2]
      · exact ih (fun i hi=>h i (by simp [hi])) he i hi
theorem BH {a b:Nat} (ha:a<18446744073709551616) (hb:b<18446744073709551616) (h:∀ i,a.testBit i=true→b.testBit i=true) (he:jj a=jj b):a=b:=by
 refine Nat.eq_of_testBit_eq fun i=> ?_
 by_cases hi:i<64
 ·exact wA (fun i _=>h i) he i (by simpa using hi)
 ·rw[Nat.testBit_lt_two_pow (Nat.lt_of_lt_of_le (show a<2^ 64 from ha) (Nat.pow_le_pow_right (by decide) (by omega))),Nat.testBit_lt_two_pow (Nat.lt_of_lt_of_le (show b<2^ 64 from hb) (Nat.pow_le_pow_right (by decide) (by omega)))]
def ct (l:List Int) (ds:List Dom):Bool:=fg l ds&&decide (dl ds=ag l)
theorem Ai {l:List Int} {ds:List Dom} (h:fg l ds=true):ct l ds=decide (2*ds.length=(cellsOf l).length):=by
 unfold ct;rw[h,Bool.true_and,decide_eq_decide]
 obtain⟨hr,_⟩:=mL h
 unfold fg at h;rw[hr,Bool.true_and]at h
 obtain⟨h1,h2⟩:=HN (Nat.le_refl _) h
 rw[List.take_of_length_le (Nat.le_refl _)]at h1 h2
 have e:(cellsOf l).length=jj (ag l):=by unfold cellsOf aj jj;rw[hr];simp
 rw[e,←h1]
 constructor
 ·intro h;rw[h]
 ·exact BH (CY _) (bb hr) h2
def atD (ds:List Dom) (c:Cel):Int:=if ds.any (cvr c)then(ds.findIdx (cvr c):Int)else -1
theorem rH {p:Dom→Bool} {l:List Dom} {k:Nat} (h:k<l.length) (h1:(l.take k).any p=false) (h2:p (gD l k)=false):(l.take (k+1)).any p=false:=by
 rw[List.take_succ_eq_append_getElem h,List.any_append,h1,←jP h];simp [h2]
theorem CT {ds:List Dom} {c:Cel} {k:Nat} (hk:k<ds.length) (h1:(ds.take k).any (cvr c)=false) (h2:cvr c (gD ds k)=true):(k:Int)=atD ds c:=by
 unfold atD
 rw[if_pos (List.any_eq_true.2 ⟨_,pS hk,h2⟩)]
 have:ds.findIdx (cvr c)=k:=by
  rw[List.findIdx_eq hk]
  refine⟨by rw[←jP hk];exact h2,fun j hj=> ?_⟩
  rw[List.any_eq_false]at h1
  have:=h1 (ds[j]'(by omega)) (List.mem_take_iff_getElem.2 ⟨j,by omega,rfl⟩)
  simpa using this
 rw[this]
theorem Mh {ds:List Dom} {c:Cel} {k:Nat} (hk:¬(k:Int)<(ds.length:Int)) (h1:(ds.take k).any (cvr c)=false):(-1:Int)=atD ds c:=by
 rw[List.take_of_length_le (by omega)]at h1
 unfold atD;rw[h1];rfl
theorem ye (ds:List Dom) (c:Cel):decide (atD ds c<0)= !(ds.any (cvr c)):=by
 unfold atD;cases ds.any (cvr c)<;>simp
theorem Gl {ds:List Dom} {c:Cel} (h:decide (atD ds c<0)=true):(!(ds.any (cvr c)))=true:=by rwa [ye]at h
theorem Gk {ds:List Dom} {c:Cel} (h:decide (atD ds c<0)=false):(!(ds.any (cvr c)))=false:=by rwa [ye]at h
def unc (l:List Int) (ds:List Dom):List Cel:=(cellsOf l).filter (fun c=> !(ds.any (cvr c)))
theorem Lu (l:List Int) (ds:List Dom):(unc l ds).length≤64:=Nat.le_trans (List.length_filter_le _ _) (lq l)
theorem zu {l:List Int} (ds:List Dom) (h:aU l=true):aj (andn (ag l) (dl ds))=unc l ds:=by
 unfold unc cellsOf;rw[h,if_pos rfl,tH]
 unfold aj
 congr 1
 refine List.filter_congr fun k hk=> ?_
 rw[du]
 have hk:k<64:=by simpa using hk
 have:=qC ds (fk hk)
 rw[dF hk]at this;rw[this]
def lft (l:List Int) (ds:List Dom):Nat:=andn (ag l) (dl ds)
theorem dh {s:Nat} {c:Cel}:c∈aj s↔aP s c=true:=by
 unfold aj aP
 rw[List.mem_map]
 constructor
 ·rintro⟨k,hk,rfl⟩
  have h:=List.mem_filter.1 hk
  have hlt:k<64:=by simpa using h.1
  rw[fk hlt,dF hlt];exact h.2
 ·intro h;simp only[Bool.and_eq_true]at h
  exact⟨idx c,List.mem_filter.2 ⟨by simpa using cn h.1,h.2⟩,pQ h.1⟩
theorem jX {s i j:Nat} (hij:i<j) (hj:j<(aj s).length):idx (gC (aj s) i)<idx (gC (aj s) j):=by
  have hp:(aj s).Pairwise (fun a b=>idx a<idx b):=by
    unfold aj
    rw[List.pairwise_map]
    have h0:((List.range 64).filter s.testBit).Pairwise (· < ·):=List.Pairwise.filter _ List.pairwise_lt_range
    refine h0.imp_of_mem ?_
    intro a b ha hb h
    have ha:a<64:=by have:=(List.mem_filter.1 ha).1;simpa using this
    have hb:b<64:=by have:=(List.mem_filter.1 hb).1;simpa using this
    rw[dF ha,dF hb];exact h
  rw[jO hj,jO (by omega)]
  exact List.pairwise_iff_getElem.1 hp i j (by omega) hj hij
theorem bN {s:Nat} {c:Cel} (h:aP s c=true):okc c.x c.y=true:=by unfold aP at h;simp only[Bool.and_eq_true]at h;exact h.1
theorem GU {l:List Int} {i k:Nat} {v:Int} (h:k<l.length):gI (l.set i v) k=if i=k then v else gI l k:=by
 rw[cQ (by simpa using h),cQ h,List.getElem_set]
theorem oV (s:Nat):jj s≤64:=by
 unfold jj;exact Nat.le_trans (List.length_filter_le _ _) (by simp)
theorem BZ {b:Cel} {k:Nat} (h:k<(nbs b).length):okc (gC (nbs b) k).x (gC (nbs b) k).y=true:=by
 have:=uk.1 (kR h)
 unfold nbr at this;simp only[Bool.and_eq_true]at this;exact this.1.2
theorem Dk {s:Nat} {w:Cel} (h:okc w.x w.y=true):gB (dP s) (idx w)=aP s w:=by rw[km (cn h)];unfold aP;rw[h];rfl
theorem GH {L M:List Cel} {i j:Nat} (h:L.drop i=M.drop j) (hi:i<L.length):j<M.length∧gC L i=gC M j:=by
 have e:=congrArg List.length h
 simp only[List.length_drop]at e
 have hj:j<M.length:=by omega
 refine⟨hj,?_⟩
 rw[jO hi,jO hj]
 have h1:=congrArg (fun x=>x[0]?) h
 simp only[List.getElem?_drop,Nat.add_zero]at h1
 rw[List.getElem?_eq_getElem hi,List.getElem?_eq_getElem hj]at h1
 exact Option.some.inj h1
theorem xe {α:Type} {L M:List α} {i j:Nat} (h:L.drop i=M.drop j):L.drop (i+1)=M.drop (j+1):=by
 rw[←List.drop_drop,h,List.drop_drop]
theorem zN {α:Type} {L M:List α} {i j:Nat} (h:L.drop i=M.drop j) (hj:j≤M.length) (c:List α):(L.drop i++c).drop 0=(M++c).drop j:=by
 rw[List.drop_zero,h,List.drop_append_of_le_length hj]
theorem xf {α:Type} {L M:List α} {i j:Nat} (h:L.drop i=M.drop j) (hi:¬((0:Int)<((L.length-i:Nat):Int))):¬j<M.length:=by
 have e:=congrArg List.length h
 simp only[List.length_drop]at e
 omega
theorem EP {L M:List Int} {i j:Nat} (h:L.drop i=M.drop j) (hi:i<L.length):j<M.length∧gI L i=gI M j:=by
 have e:=congrArg List.length h
 simp only[List.length_drop]at e
 have hj:j<M.length:=by omega
 refine⟨hj,?_⟩
 rw[cQ hi,cQ hj]
 have h1:=congrArg (fun x=>x[0]?) h
 simp only[List.getElem?_drop,Nat.add_zero]at h1
 rw[List.getElem?_eq_getElem hi,List.getElem?_eq_getElem hj]at h1
 exact Option.some.inj h1
end Cl
end Go.Proofs.YtonlghbbdcddoaaGreat
