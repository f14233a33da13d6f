/- Walks. -/
import Derived.Test.YtgmkkfdnmdohlaaGreatDoorC2
import Derived.Test.YtgmkkfdnmdohlaaGreatDoorClB
set_option linter.unusedSimpArgs false
set_option linter.unusedVariables false
namespace Go.Proofs.YtgmkkfdnmdohlaaGreatDoor
namespace Cl
open Go.ChangeShapes Go.WideShapes Go.ChangeAt Go.RowKit
set_option maxRecDepth 20000
theorem lS {l:List Int} {c:Cel} (ho:bj l=true) (hc:okc c.x c.y=true):cu l c=bO (ao l) c:=by unfold bO;rw[hc,←gZ ho hc];rfl
theorem Eh {s i:Nat} (h:i<64):bO s (cN i)=s.testBit i:=by unfold bO;rw[fP h,eU h];rfl
theorem vF {Γ:Cx} {ops:Array Oper} {o:Oper} {j dj d:Nat} {b b':Bool} (hg:o.guard=some (j,b)) (hj:(ops[j]?).bind (·.dst)=some dj) (hb:b'≠b) (hd:o.dst=some d) (hN:Γ.ok d):
    fA Γ ops o [(.s dj,.s (V.v (.bool b')))] [(.s d,some (.s (V.v (.tuple #[]))))]:=by
  intro σ a w ⟨ρ,I,hs⟩ hR K Q hK
  rw[if_neg (by simp [Region.wanted,hg,oy hs hj (hR (.s dj,.s (V.v (.bool b'))) (by simp)),hb]),hd]
  exact hK _ _ ⟨ρ,I,hs.put hN rfl⟩
theorem ul {Γ:Cx} {ops:Array Oper} {σ:St} {a:Act} {w:World} {ρ:Nat→Option Place} {I:Nat→Prop} (hs:Sat Γ σ a w ρ I) {j dj:Nat} (hj:(ops[j]?).bind (·.dst)=some dj) (hb:get σ (.s dj)=some (.s (V.v (.tuple #[])))):
    yielded ops a.tmps j=none:=by
  have h:a.tmps.getD dj undef= .tuple #[]:=hs.sl dj _ hb
  unfold yielded
  rw[hj]
  cases hq:a.tmps[dj]? with
  | none=>simp [hq]
  | some v=>
    rw[Array.getD_eq_getD_getElem?,hq]at h
    simp at h;subst h;simp [hq]
theorem vG {Γ:Cx} {ops:Array Oper} {o:Oper} {j dj d:Nat} {b:Bool} (hg:o.guard=some (j,b)) (hj:(ops[j]?).bind (·.dst)=some dj) (hd:o.dst=some d) (hN:Γ.ok d):
    fA Γ ops o [(.s dj,.s (V.v (.tuple #[])))] [(.s d,some (.s (V.v (.tuple #[]))))]:=by
  intro σ a w ⟨ρ,I,hs⟩ hR K Q hK
  rw[if_neg (by simp [Region.wanted,hg,ul hs hj (hR (.s dj,.s (V.v (.tuple #[]))) (by simp))]),hd]
  exact hK _ _ ⟨ρ,I,hs.put hN rfl⟩
def ca (d:Dom):Cel:=⟨d.x,d.y⟩
def cb (d:Dom):Cel:=⟨if d.d then d.x else d.x+1,if d.d then d.y+1 else d.y⟩
def okD (d:Dom):Bool:=okd d.x d.y d.d
theorem jX {d:Dom} (h:okD d=true):(0≤d.x∧d.x≤7)∧(0≤d.y∧d.y≤7)∧(d.d=false→d.x≤6)∧(d.d=true→d.y≤6):=by
 have:=km.1 h
 cases e:d.d<;>simp [e]at this⊢ <;>omega
theorem AE (d:Dom):okD d=(okc (ca d).x (ca d).y&&okc (cb d).x (cb d).y):=by
 unfold okD okd ca cb;cases d.d<;>simp
theorem md {d:Dom} (h:okD d=true):okc (ca d).x (ca d).y=true:=by rw[AE]at h;simp only[Bool.and_eq_true]at h;exact h.1
theorem oY {d:Dom} (h:okD d=true):okc (cb d).x (cb d).y=true:=by rw[AE]at h;simp only[Bool.and_eq_true]at h;exact h.2
theorem Dk (d:Dom):ca d≠cb d:=by
 unfold ca cb;intro h;simp only[Cel.mk.injEq]at h
 cases e:d.d<;>simp [e]at h<;>omega
def domS (d:Dom):Nat:=nw (nw 0 (ca d)) (cb d)
theorem GD {d:Dom} (h:okD d=true):domS d<18446744073709551616:=mC (mC (by decide) (md h)) (oY h)
theorem ec (d:Dom) (i:Nat):(domS d).testBit i=(decide (idx (ca d)=i)||decide (idx (cb d)=i)):=by
 unfold domS;rw[jj,jj];simp
def ord (d:Dom):Nat:=2*idx (ca d)+(if d.d then 1 else 0)
theorem Hz {d:Dom} (h:okD d=true):((ord d:Nat):Int)=2*(d.y*8+d.x)+(if d.d then 1 else 0):=by
 have:=jX h;unfold ord idx ca;cases e:d.d<;>simp [e]<;>omega
def bef (d e:Dom):Bool:=okD d&&okD e&&decide (ord d<ord e)
theorem rP {d e:Dom} (hd:okD d=true) (he:okD e=true) (h:ord d=ord e):d=e:=by
 unfold ord at h
 have h1:idx (ca d)=idx (ca e)∧d.d=e.d:=by
  cases d1:d.d<;>cases e1:e.d<;>simp [d1,e1]at h⊢ <;>omega
 have h2:=iG (md hd) (md he) h1.1
 unfold ca at h2;simp only[Cel.mk.injEq]at h2
 cases d;cases e;simp_all
def cov1 (s:Nat) (d:Dom):Nat:=if okD d then s|||domS d else s
def lQ (ds:List Dom):Nat:=ds.foldl cov1 0
theorem nP {l:List Dom} {k:Nat} (h:k<l.length):gD l k∈l:=by rw[gl h];exact List.getElem_mem h
def cvr (c:Cel) (d:Dom):Bool:=okD d&&(decide (ca d=c)||decide (cb d=c))
theorem sC (ds:List Dom) {c:Cel} (hc:okc c.x c.y=true):∀ s,(ds.foldl cov1 s).testBit (idx c)=(s.testBit (idx c)||ds.any (cvr c)):=by
  induction ds with
  | nil=>intro s;simp
  | cons d ds ih=>
    intro s
    rw[List.foldl_cons,ih,List.any_cons,←Bool.or_assoc]
    congr 1
    unfold cov1 cvr
    by_cases ho:okD d=true
    · rw[if_pos ho,ho,Nat.testBit_or,ec]
      have e1:decide (idx (ca d)=idx c)=decide (ca d=c):=by
        rw[decide_eq_decide];exact⟨iG (md ho) hc,fun h=>by rw[h]⟩
      have e2:decide (idx (cb d)=idx c)=decide (cb d=c):=by
        rw[decide_eq_decide];exact⟨iG (oY ho) hc,fun h=>by rw[h]⟩
      rw[e1,e2];simp
    · simp only[Bool.not_eq_true]at ho;rw[ho];simp
theorem oF (ds:List Dom) {c:Cel} (hc:okc c.x c.y=true):(lQ ds).testBit (idx c)=ds.any (cvr c):=by
 unfold lQ;rw[sC ds hc];simp
theorem Gp (a b c:Nat):andn (andn a b) c=andn a (b|||c):=by
 refine Nat.eq_of_testBit_eq fun i=> ?_
 rw[cE,cE,cE,Nat.testBit_or]
 cases a.testBit i<;>cases b.testBit i<;>cases c.testBit i<;>rfl
theorem Bs (s:Nat) (ds:List Dom):andn s (lQ (ds.take 0))=s:=by simp [andn,lQ]
def fits (s c:Nat) (d:Dom):Bool:=decide (andn s c&&&domS d=domS d)
theorem sz (s c:Nat) (d:Dom):fits s c d=((s.testBit (idx (ca d))&& !c.testBit (idx (ca d)))&&(s.testBit (idx (cb d))&& !c.testBit (idx (cb d)))):=by
 unfold fits
 rw[Bool.eq_iff_iff,decide_eq_true_eq]
 constructor
 ·intro h
  have h1:=congrArg (fun n=>n.testBit (idx (ca d))) h
  have h2:=congrArg (fun n=>n.testBit (idx (cb d))) h
  simp only[Nat.testBit_and,cE,ec,decide_true,Bool.true_or,Bool.or_true,Bool.and_true]at h1 h2
  rw[h1,h2];rfl
 ·intro h
  simp only[Bool.and_eq_true]at h
  refine Nat.eq_of_testBit_eq fun i=> ?_
  rw[Nat.testBit_and,cE,ec]
  by_cases e1:idx (ca d)=i
  ·subst e1;simp [h.1.1,h.1.2]
  ·by_cases e2:idx (cb d)=i
   ·subst e2;simp [h.2.1,h.2.2]
   ·simp [e1,e2]
def tP (s:Nat) (ds:List Dom) (j:Nat):Bool:=okD (gD ds j)&&(fits s (lQ (ds.take j)) (gD ds j)&&(decide (j=0)||bef (gD ds (j-1)) (gD ds j)))
def parT (s:Nat) (ds:List Dom) (k:Nat):Bool:=(List.range k).all (tP s ds)
def qS (l:List Int) (ds:List Dom):Bool:=bj l&&parT (ao l) ds ds.length
theorem sH {l:List Int} {ds:List Dom} (h:qS l ds=true):bj l=true∧∀ k,k<ds.length→tP (ao l) ds k=true:=by
 unfold qS parT at h;simp only[Bool.and_eq_true,List.all_eq_true]at h
 exact⟨h.1,fun k hk=>h.2 k (by simpa using hk)⟩
theorem Em {l:List Int} {ds:List Dom} (h:qS l ds=true) {k:Nat} (hk:k<ds.length):okD (gD ds k)=true:=by
 have:=(sH h).2 k hk
 unfold tP at this;simp only[Bool.and_eq_true]at this;exact this.1
def gE (c:Nat):List Bool:=(List.range 64).map c.testBit
theorem pR (c:Nat):(gE c).length=64:=by simp [gE]
theorem kY {c k:Nat} (h:k<64):gB (gE c) k=c.testBit k:=by
 rw[An (by rw[pR];exact h)];simp [gE]
theorem yQ:List.replicate 64 false=gE 0:=by
 decide
theorem ur (s:Nat) (c:Cel):(gE s).set (idx c) true=gE (nw s c):=by
 refine List.ext_getElem (by simp [gE]) fun i h1 h2=> ?_
 simp only[gE,List.getElem_set,List.getElem_map,List.getElem_range,jj]
 by_cases h:idx c=i<;>simp [h]
theorem Dd (s:Nat) (d:Dom):nw (nw s (ca d)) (cb d)=s|||domS d:=by
 refine Nat.eq_of_testBit_eq fun i=> ?_
 rw[jj,jj,Nat.testBit_or,ec,Bool.or_assoc]
def jC (s:Nat):Nat:=((List.range 64).filter s.testBit).length
theorem xW {s:Nat} {c:Cel} (hc:okc c.x c.y=true) (h:s.testBit (idx c)=false):jC (nw s c)=jC s+1:=by
 unfold jC nw;rw[uv,if_pos ⟨h,eV hc⟩]
theorem EO {s:Nat} {d:Dom} (ho:okD d=true) (h1:s.testBit (idx (ca d))=false) (h2:s.testBit (idx (cb d))=false):jC (s|||domS d)=jC s+2:=by
 rw[←Dd,xW (oY ho),xW (md ho) h1]
 rw[jj,h2]
 have:idx (ca d)≠idx (cb d):=fun h=>Dk d (iG (md ho) (oY ho) h)
 simp [this]
def qT (l:List Int) (ds:List Dom):Bool:=qS l ds&&decide (lQ ds=ao l)
def atD (ds:List Dom) (c:Cel):Int:=if ds.any (cvr c)then(ds.findIdx (cvr c):Int)else -1
theorem uo {p:Dom→Bool} {l:List Dom} {k:Nat} (h:k<l.length) (h1:(l.take k).any p=false) (h2:p (gD l k)=false):(l.take (k+1)).any p=false:=by
 rw[List.take_succ_eq_append_getElem h,List.any_append,h1,←gl h];simp [h2]
theorem zW {ds:List Dom} {c:Cel} {k:Nat} (hk:k<ds.length) (h1:(ds.take k).any (cvr c)=false) (h2:cvr c (gD ds k)=true):(k:Int)=atD ds c:=by
 unfold atD
 rw[if_pos (List.any_eq_true.2 ⟨_,nP hk,h2⟩)]
 have:ds.findIdx (cvr c)=k:=by
  rw[List.findIdx_eq hk]
  refine⟨by rw[←gl hk];exact h2,fun j hj=> ?_⟩
  rw[List.any_eq_false]at h1
  have:=h1 (ds[j]'(by omega)) (List.mem_take_iff_getElem.2 ⟨j,by omega,rfl⟩)
  simpa using this
 rw[this]
theorem Jn {ds:List Dom} {c:Cel} {k:Nat} (hk:¬(k:Int)<(ds.length:Int)) (h1:(ds.take k).any (cvr c)=false):(-1:Int)=atD ds c:=by
 rw[List.take_of_length_le (by omega)]at h1
 unfold atD;rw[h1];rfl
theorem vP (ds:List Dom) (c:Cel):decide (atD ds c<0)= !(ds.any (cvr c)):=by
 unfold atD;cases ds.any (cvr c)<;>simp
theorem Dh {ds:List Dom} {c:Cel} (h:decide (atD ds c<0)=true):(!(ds.any (cvr c)))=true:=by rwa [vP]at h
theorem Dg {ds:List Dom} {c:Cel} (h:decide (atD ds c<0)=false):(!(ds.any (cvr c)))=false:=by rwa [vP]at h
def unc (l:List Int) (ds:List Dom):List Cel:=(cellsOf l).filter (fun c=> !(ds.any (cvr c)))
theorem IA (l:List Int) (ds:List Dom):(unc l ds).length≤64:=Nat.le_trans (List.length_filter_le _ _) (lO l)
theorem wR {l:List Int} (ds:List Dom) (h:bj l=true):bM (andn (ao l) (lQ ds))=unc l ds:=by
 unfold unc cellsOf;rw[h,if_pos rfl,rk]
 unfold bM
 congr 1
 refine List.filter_congr fun k hk=> ?_
 rw[cE]
 have hk:k<64:=by simpa using hk
 have:=oF ds (fP hk)
 rw[eU hk]at this;rw[this]
def lft (l:List Int) (ds:List Dom):Nat:=andn (ao l) (lQ ds)
theorem gw {s:Nat} {c:Cel}:c∈bM s↔bO s c=true:=by
 unfold bM bO
 rw[List.mem_map]
 constructor
 ·rintro⟨k,hk,rfl⟩
  have h:=List.mem_filter.1 hk
  have hlt:k<64:=by simpa using h.1
  rw[fP hlt,eU hlt];exact h.2
 ·intro h;simp only[Bool.and_eq_true]at h
  exact⟨idx c,List.mem_filter.2 ⟨by simpa using eV h.1,h.2⟩,pU h.1⟩
theorem mp {s i j:Nat} (hij:i<j) (hj:j<(bM s).length):idx (gC (bM s) i)<idx (gC (bM s) j):=by
  have hp:(bM s).Pairwise (fun a b=>idx a<idx b):=by
    unfold bM
    rw[List.pairwise_map]
    have h0:((List.range 64).filter s.testBit).Pairwise (· < ·):=List.Pairwise.filter _ List.pairwise_lt_range
    refine h0.imp_of_mem ?_
    intro a b ha hb h
    have ha:a<64:=by have:=(List.mem_filter.1 ha).1;simpa using this
    have hb:b<64:=by have:=(List.mem_filter.1 hb).1;simpa using this
    rw[eU ha,eU hb];exact h
  rw[gk hj,gk (by omega)]
  exact List.pairwise_iff_getElem.1 hp i j (by omega) hj hij
theorem dk {s:Nat} {c:Cel} (h:bO s c=true):okc c.x c.y=true:=by unfold bO at h;simp only[Bool.and_eq_true]at h;exact h.1
theorem DY {l:List Int} {i k:Nat} {v:Int} (h:k<l.length):gI (l.set i v) k=if i=k then v else gI l k:=by
 rw[dh (by simpa using h),dh h,List.getElem_set]
theorem mT (s:Nat):jC s≤64:=by
 unfold jC;exact Nat.le_trans (List.length_filter_le _ _) (by simp)
theorem EC {b:Cel} {k:Nat} (h:k<(nbs b).length):okc (gC (nbs b) k).x (gC (nbs b) k).y=true:=by
 have:=Ay.1 (qi h)
 unfold nbr at this;simp only[Bool.and_eq_true]at this;exact this.1.2
theorem Am {s:Nat} {w:Cel} (h:okc w.x w.y=true):gB (gE s) (idx w)=bO s w:=by rw[kY (eV h)];unfold bO;rw[h];rfl
end Cl
end Go.Proofs.YtgmkkfdnmdohlaaGreatDoor
