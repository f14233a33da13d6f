/- Parts put together: C20, C21, C22, C23, C24. -/
import Derived.Test.YtonlghbbdcddoaaGreatC3
import Derived.Test.YtonlghbbdcddoaaGreatClB
import Derived.Test.YtonlghbbdcddoaaGreatC10
import Derived.Test.YtonlghbbdcddoaaGreatC1
set_option maxHeartbeats 4000000
set_option maxRecDepth 100000
namespace Go.Proofs.YtonlghbbdcddoaaGreat
namespace Cl
open Go.ChangeShapes Go.WideShapes Go.ChangeAt Go.RowKit
section
set_option linter.unusedSectionVars false
variable {α:Type} [DecidableEq α]
def gst (ok:α→α→Bool) (own:α) (L:List α) (w:α):List α:=if(ok own w&& !decide (w∈L))=true then L++[w]else L
def grnd (nb:α→List α) (ok:α→α→Bool) (L:List α) (own:α):List α:=(nb own).foldl (gst ok own) L
inductive GReach (nb:α→List α) (ok:α→α→Bool) (a:α):α→Prop
 | root:GReach nb ok a a
 | step (p q:α) (hp:GReach nb ok a p) (hq:q∈nb p) (h:ok p q=true):GReach nb ok a q
theorem GReach.trans {nb:α→List α} {ok:α→α→Bool} {a b c:α} (h1:GReach nb ok a b) (h2:GReach nb ok b c):GReach nb ok a c:=by
 induction h2 with
 | root=>exact h1
 | step p q _ hq hok ih=>exact .step p q ih hq hok
theorem uf {ok:α→α→Bool} {own w:α} {L:List α} (h:ok own w=true) (h2:w∉L):gst ok own L w=L++[w]:=by unfold gst;rw[if_pos (by simp [h,h2])]
theorem BO {ok:α→α→Bool} {own w:α} {L:List α} (h:ok own w=false∨w∈L):gst ok own L w=L:=by
 unfold gst;rw[if_neg];rcases h with h |h<;>simp [h]
theorem JR {ok:α→α→Bool} {own w:α} {L:List α} {x:α} (h:x∈L):x∈gst ok own L w:=by
 unfold gst;split
 ·simp [h]
 ·exact h
theorem JQ (ok:α→α→Bool) (own w:α) (L:List α):∃ e,gst ok own L w=L++e:=by
 unfold gst;split
 ·exact⟨_,rfl⟩
 ·exact⟨[],by simp⟩
theorem rX (ok:α→α→Bool) (own:α):∀ (ws L:List α),∃ e,ws.foldl (gst ok own) L=L++e:=by
  intro ws
  induction ws with
  | nil=>intro L;exact⟨[],by simp⟩
  | cons w ws ih=>
    intro L
    obtain⟨e1,h1⟩:=JQ ok own w L
    obtain⟨e2,h2⟩:=ih (gst ok own L w)
    exact⟨e1++e2,by rw[List.foldl_cons,h2,h1,List.append_assoc]⟩
theorem lV {ok:α→α→Bool} {own:α} {ws L:List α} {x:α} (h:x∈L):x∈ws.foldl (gst ok own) L:=by
 obtain⟨e,he⟩:=rX ok own ws L
 rw[he];simp [h]
theorem EU {ok:α→α→Bool} {own:α}:∀ (ws L:List α) (w:α),w∈ws→ok own w=true→w∈ws.foldl (gst ok own) L:=by
  intro ws
  induction ws with
  | nil=>intro L w h;cases h
  | cons v ws ih=>
    intro L w h hok
    rw[List.foldl_cons]
    rcases List.mem_cons.1 h with rfl |h
    · by_cases hm:w∈L
      · exact lV (JR hm)
      · rw[uf hok hm];exact lV (by simp)
    · exact ih _ w h hok
theorem GR {ok:α→α→Bool} {own:α}:∀ (ws L:List α) (x:α),x∈ws.foldl (gst ok own) L→x∈L∨(x∈ws∧ok own x=true):=by
  intro ws
  induction ws with
  | nil=>intro L x h;exact .inl h
  | cons v ws ih=>
    intro L x h
    rw[List.foldl_cons]at h
    rcases ih _ x h with h |h
    · unfold gst at h
      split at h
      · rename_i hc
        rw[Bool.and_eq_true]at hc
        rcases List.mem_append.1 h with h |h
        · exact .inl h
        · rw[List.mem_singleton]at h;subst h;exact .inr ⟨by simp,hc.1⟩
      · exact .inl h
    · exact .inr ⟨by simp [h.1],h.2⟩
theorem EX {ok:α→α→Bool} {own w:α} {L:List α} (h:L.Nodup):(gst ok own L w).Nodup:=by
 unfold gst;split
 ·rename_i hc
  simp only[Bool.and_eq_true,Bool.not_eq_true',decide_eq_false_iff_not]at hc
  rw[List.nodup_append]
  refine⟨h,by simp,fun a ha b hb=> ?_⟩
  rw[List.mem_singleton]at hb
  subst hb
  rintro rfl
  exact hc.2 ha
 ·exact h
theorem zU {ok:α→α→Bool} {own:α}:∀ (ws L:List α),L.Nodup→(ws.foldl (gst ok own) L).Nodup:=by
 intro ws
 induction ws with
 | nil=>intro L h;exact h
 | cons v ws ih=>intro L h;exact ih _ (EX h)
structure GInv (nb:α→List α) (ok:α→α→Bool) (a:α) (L:List α) (k:Nat):Prop where
 a0:a∈L
 nd:L.Nodup
 rc:∀ x,x∈L→GReach nb ok a x
 cl:∀ x,x∈L.take k→∀ w,w∈nb x→ok x w=true→w∈L
 le:k≤L.length
theorem GInv.init (nb:α→List α) (ok:α→α→Bool) (a:α):GInv nb ok a [a] 0:=
 ⟨by simp,by simp,fun x hx=>by rw[List.mem_singleton]at hx;subst hx;exact .root,fun x hx=>by simp at hx,by simp⟩
theorem GInv.next {nb:α→List α} {ok:α→α→Bool} {a:α} {L:List α} {k:Nat} (h:GInv nb ok a L k) (hk:k<L.length):GInv nb ok a (grnd nb ok L L[k]) (k+1):=by
 obtain⟨e,he⟩:=rX ok L[k] (nb L[k]) L
 have hown:L[k]∈L:=List.getElem_mem hk
 refine⟨lV h.a0,zU _ _ h.nd,fun x hx=> ?_,fun x hx w hw hok=> ?_,?_⟩
 ·rcases GR _ _ _ hx with hx |⟨hx,hok⟩
  ·exact h.rc x hx
  ·exact .step _ _ (h.rc _ hown) hx hok
 ·have ht:(grnd nb ok L L[k]).take (k+1)=L.take k++[L[k]]:=by
   unfold grnd
   rw[he,List.take_append_of_le_length (by omega),List.take_succ_eq_append_getElem hk]
  rw[ht,List.mem_append,List.mem_singleton]at hx
  rcases hx with hx |rfl
  ·exact lV (h.cl x hx w hw hok)
  ·exact EU _ _ w hw hok
 ·unfold grnd;rw[he,List.length_append];omega
theorem GInv.done {nb:α→List α} {ok:α→α→Bool} {a:α} {L:List α} {k:Nat} (h:GInv nb ok a L k) (hk:¬k<L.length) (x:α):x∈L↔GReach nb ok a x:=by
 refine⟨h.rc x,fun hx=> ?_⟩
 induction hx with
 | root=>exact h.a0
 | step p q _ hq hok ih=>exact h.cl p (by rw[List.take_of_length_le (by omega)];exact ih) q hq hok
theorem GReach.symm {nb:α→List α} {ok:α→α→Bool} (hs:∀ p q,q∈nb p→ok p q=true→p∈nb q∧ok q p=true) {a b:α} (h:GReach nb ok a b):GReach nb ok b a:=by
  induction h with
  | root=>exact .root
  | step p q _ hq hok ih=>
    obtain⟨h1,h2⟩:=hs p q hq hok
    exact GReach.trans (.step q p .root h1 h2) ih
end
theorem gy:∀ (N:Nat) (L:List Nat),L.Nodup→(∀ x,x∈L→x<N)→L.length≤N:=by
  intro N
  induction N with
  | zero=>
    intro L _ h
    cases L with
    | nil=>simp
    | cons a L=>exact absurd (h a (by simp)) (by omega)
  | succ N ih=>
    intro L hn h
    by_cases hm:N∈L
    · have h1:=ih (L.erase N) (hn.erase N) (fun x hx=>by
        have h2:=h x (List.mem_of_mem_erase hx)
        have h3:x≠N:=by rintro rfl;exact(List.Nodup.not_mem_erase hn) hx
        omega)
      rw[List.length_erase_of_mem hm]at h1
      omega
    · have h1:=ih L hn (fun x hx=>by
        have h2:=h x hx
        have h3:x≠N:=by rintro rfl;exact hm hx
        omega)
      omega
section
variable (nb:Nat→List Nat) (ok:Nat→Bool)
def rR (rec:List Nat→Nat→List Nat) (L:List Nat) (w:Nat):List Nat:=if(ok w&& !decide (w∈L))=true then rec L w else L
def dfs:Nat→List Nat→Nat→List Nat
 | 0,L,_=>L
 | n+1,L,a=>(nb a).foldl (rR ok (dfs n)) (L++[a])
end
def okE (ok:Nat→Bool) (_ w:Nat):Bool:=ok w
structure DInv (nb:Nat→List Nat) (ok:Nat→Bool) (N:Nat) (L:List Nat) (a:Nat) (M e:List Nat):Prop where
 eq:M=L++[a]++e
 nd:M.Nodup
 lt:∀ x,x∈M→x<N
 rc:∀ x,x∈e→GReach nb (okE ok) a x
 cl:∀ x,x∈e→∀ w,w∈nb x→ok w=true→w∈M
theorem yl {nb:Nat→List Nat} {ok:Nat→Bool} {N:Nat} (hnb:∀ a w,w∈nb a→w<N):∀ n L a,L.Nodup→(∀ x,x∈L→x<N)→a∉L→a<N→N<n+L.length→
    ∃ e,DInv nb ok N L a (dfs nb ok n L a) e∧∀ w,w∈nb a→ok w=true→w∈dfs nb ok n L a:=by
  intro n
  induction n with
  | zero=>
    intro L a hn hl ha _ hN
    have:=gy N L hn hl
    omega
  | succ n ih=>
    intro L a hn hl ha haN hN
    have fold:∀ (ws:List Nat),(∀ w,w∈ws→w<N)→∀ M e,DInv nb ok N L a M e→(∀ w,w∈ws→w∈nb a)→∃ e',DInv nb ok N L a (ws.foldl (rR ok (dfs nb ok n)) M) e'∧(∀ x,x∈M→x∈ws.foldl (rR ok (dfs nb ok n)) M)∧∀ w,w∈ws→ok w=true→w∈ws.foldl (rR ok (dfs nb ok n)) M:=by
      intro ws
      induction ws with
      | nil=>intro _ M e hM _;exact⟨e,hM,fun x h=>h,fun w h=>by cases h⟩
      | cons v ws ih2=>
        intro hws M e hM hsub
        rw[List.foldl_cons]
        by_cases hc:(ok v&& !decide (v∈M))=true
        · have e1:rR ok (dfs nb ok n) M v=dfs nb ok n M v:=by unfold rR;rw[if_pos hc]
          rw[e1]
          simp only[Bool.and_eq_true,Bool.not_eq_true',decide_eq_false_iff_not]at hc
          have hML:M.length=L.length+1+e.length:=by rw[hM.eq];simp;omega
          obtain⟨e2,d2,c2⟩:=ih M v hM.nd hM.lt hc.2 (hws v (by simp)) (by omega)
          have hsubM:∀ x,x∈M→x∈dfs nb ok n M v:=fun x hx=>by rw[d2.eq];simp [hx]
          have hav:GReach nb (okE ok) a v:= .step a v .root (hsub v (by simp)) hc.1
          obtain⟨e3,d3,s3,a3⟩:=ih2 (fun w hw=>hws w (by simp [hw])) (dfs nb ok n M v) (e++[v]++e2) ⟨by rw[d2.eq,hM.eq];simp,d2.nd,d2.lt,fun x hx=>by
              simp only[List.mem_append,List.mem_singleton]at hx
              rcases hx with(hx |rfl) |hx
              · exact hM.rc x hx
              · exact hav
              · exact hav.trans (d2.rc x hx),fun x hx w hw hok=>by
              simp only[List.mem_append,List.mem_singleton]at hx
              rcases hx with(hx |rfl) |hx
              · exact hsubM w (hM.cl x hx w hw hok)
              · exact c2 w hw hok
              · exact d2.cl x hx w hw hok⟩ (fun w hw=>hsub w (by simp [hw]))
          refine⟨e3,d3,fun x hx=>s3 x (hsubM x hx),fun w hw hok=> ?_⟩
          rcases List.mem_cons.1 hw with rfl |hw
          · refine s3 w ?_;rw[d2.eq];simp
          · exact a3 w hw hok
        · have e1:rR ok (dfs nb ok n) M v=M:=by unfold rR;rw[if_neg hc]
          rw[e1]
          obtain⟨e3,d3,s3,a3⟩:=ih2 (fun w hw=>hws w (by simp [hw])) M e hM (fun w hw=>hsub w (by simp [hw]))
          refine⟨e3,d3,s3,fun w hw hok=> ?_⟩
          rcases List.mem_cons.1 hw with rfl |hw
          · rw[hok]at hc
            simp only[Bool.true_and,Bool.not_eq_true',decide_eq_false_iff_not,Classical.not_not]at hc
            exact s3 w hc
          · exact a3 w hw hok
    obtain⟨e,d,_,c⟩:=fold (nb a) (hnb a) (L++[a]) [] ⟨by simp,by
        rw[List.nodup_append]
        refine⟨hn,by simp,fun x hx y hy=> ?_⟩
        rw[List.mem_singleton]at hy;subst hy
        rintro rfl;exact ha hx,fun x hx=>by
        simp only[List.mem_append,List.mem_singleton]at hx
        rcases hx with hx |rfl
        · exact hl x hx
        · exact haN,fun x hx=>(by cases hx),fun x hx=>(by cases hx)⟩ (fun w hw=>hw)
    exact⟨e,d,c⟩
def Closed (nb:Nat→List Nat) (ok:Nat→Bool) (S:Nat→Prop):Prop:=∀ x,S x→∀ w,w∈nb x→ok w=true→S w
theorem Closed.reach {nb:Nat→List Nat} {ok:Nat→Bool} {S:Nat→Prop} (h:Closed nb ok S) {a x:Nat} (ha:S a) (hx:GReach nb (okE ok) a x):S x:=by
 induction hx with
 | root=>exact ha
 | step p q _ hq hok ih=>exact h p ih q hq hok
theorem GC {nb:Nat→List Nat} {ok:Nat→Bool} {N:Nat} (hnb:∀ a w,w∈nb a→w<N) {L:List Nat} {a n:Nat} (hn:L.Nodup) (hl:∀ x,x∈L→x<N) (ha:a∉L) (haN:a<N) (hN:N<n+L.length) (hc:Closed nb ok (· ∈L)) (x:Nat):
    x∈dfs nb ok n L a↔(x∈L∨GReach nb (okE ok) a x):=by
  obtain⟨e,d,c⟩:=yl hnb n L a hn hl ha haN hN
  have hcl:Closed nb ok (· ∈dfs nb ok n L a):=by
    intro v hv w hw hok
    rw[d.eq]at hv
    simp only[List.mem_append,List.mem_singleton]at hv
    rcases hv with(hv |rfl) |hv
    · have:=hc v hv w hw hok
      rw[d.eq];simp [this]
    · exact c w hw hok
    · exact d.cl v hv w hw hok
  constructor
  · intro h
    rw[d.eq]at h
    simp only[List.mem_append,List.mem_singleton]at h
    rcases h with(h |rfl) |h
    · exact .inl h
    · exact .inr .root
    · exact .inr (d.rc x h)
  · rintro(h |h)
    · rw[d.eq];simp [h]
    · exact hcl.reach (by rw[d.eq];simp) h
def li (nb:Nat→List Nat) (ok:Nat→Bool) (j:Nat):Prop:=ok j=true∧∀ i,i<j→ok i=true→¬GReach nb (okE ok) i j
open Classical in
noncomputable def lD (nb:Nat→List Nat) (ok:Nat→Bool) (k:Nat):Nat:=((List.range k).filter (fun j=>decide (li nb ok j))).length
theorem sF {nb:Nat→List Nat} {ok:Nat→Bool} {k:Nat} (h:li nb ok k):lD nb ok (k+1)=lD nb ok k+1:=by
 unfold lD;rw[List.range_succ,List.filter_append,List.length_append];simp [h]
theorem vS {nb:Nat→List Nat} {ok:Nat→Bool} {k:Nat} (h:¬li nb ok k):lD nb ok (k+1)=lD nb ok k:=by
 unfold lD;rw[List.range_succ,List.filter_append,List.length_append];simp [h]
theorem Iq (nb:Nat→List Nat) (ok:Nat→Bool) (k:Nat):lD nb ok k≤k:=by
 unfold lD;exact Nat.le_trans (List.length_filter_le _ _) (by simp)
def oq (nb:Nat→List Nat) (ok:Nat→Bool) (k x:Nat):Prop:=∃ j,j<k∧ok j=true∧GReach nb (okE ok) j x
theorem nj (nb:Nat→List Nat) (ok:Nat→Bool) (k:Nat):Closed nb ok (oq nb ok k):=by
 rintro x ⟨j,h1,h2,h3⟩ w hw hok
 exact⟨j,h1,h2,.step x w h3 hw hok⟩
theorem ql {nb:Nat→List Nat} {ok:Nat→Bool} {k:Nat} (h:ok k=true):li nb ok k↔¬oq nb ok k k:=by
 unfold li oq
 constructor
 ·rintro⟨_,h2⟩ ⟨j,h3,h4,h5⟩;exact h2 j h3 h4 h5
 ·intro h2;exact⟨h,fun i hi hok hr=>h2 ⟨i,hi,hok,hr⟩⟩
theorem xS {nb:Nat→List Nat} {ok:Nat→Bool} {k:Nat} (h:ok k=true) (x:Nat):oq nb ok (k+1) x↔(oq nb ok k x∨GReach nb (okE ok) k x):=by
 unfold oq
 constructor
 ·rintro⟨j,h1,h2,h3⟩
  rcases Nat.lt_or_ge j k with h4 |h4
  ·exact .inl ⟨j,h4,h2,h3⟩
  ·have:j=k:=by omega
   subst this;exact .inr h3
 ·rintro(⟨j,h1,h2,h3⟩ |h3)
  ·exact⟨j,by omega,h2,h3⟩
  ·exact⟨k,by omega,h,h3⟩
theorem FO {nb:Nat→List Nat} {ok:Nat→Bool} {k:Nat} (h:ok k=false∨oq nb ok k k) (x:Nat):oq nb ok (k+1) x↔oq nb ok k x:=by
 constructor
 ·rintro⟨j,h1,h2,h3⟩
  rcases Nat.lt_or_ge j k with h4 |h4
  ·exact⟨j,h4,h2,h3⟩
  ·have:j=k:=by omega
   subst this
   rcases h with h |h
   ·rw[h]at h2;cases h2
   ·exact(nj nb ok j).reach h h3
 ·rintro⟨j,h1,h2,h3⟩;exact⟨j,by omega,h2,h3⟩
theorem vh {nb:Nat→List Nat} {ok:Nat→Bool} {N:Nat} (h0:ok 0=true) (h:lD nb ok N=1):∀ x,x<N→ok x=true→GReach nb (okE ok) 0 x:=by
  classical
  have h00:li nb ok 0:=⟨h0,fun i hi=>by omega⟩
  have hall:∀ x,x<N→li nb ok x→x=0:=by
    intro x hx hr
    unfold lD at h
    rcases Nat.eq_zero_or_pos x with h1 |h1
    · exact h1
    · exfalso
      have hs:[0,x].Sublist ((List.range N).filter (fun j=>decide (li nb ok j))):=by
        have h2:[0,x].Sublist (List.range N):=by
          have e:List.range N=List.range x++(x::(List.range' (x+1) (N-x-1))):=by
            rw[List.range_eq_range',List.range_eq_range']
            have e1:N=x+(N-x-1+1):=by omega
            conv=>lhs;rw[e1]
            rw[←List.range'_append_1,List.range'_succ]
            simp
          rw[e]
          exact List.Sublist.append (List.singleton_sublist.2 (List.mem_range.2 h1):[0].Sublist (List.range x)) (List.singleton_sublist.2 (List.mem_cons_self):[x].Sublist (x::List.range' (x+1) (N-x-1)))
        have h3:=h2.filter (fun j=>decide (li nb ok j))
        have e2:[0,x].filter (fun j=>decide (li nb ok j))=[0,x]:=by simp [h00,hr]
        rwa [e2]at h3
      have:=hs.length_le
      rw[h]at this
      simp at this
  intro x
  induction x using Nat.strongRecOn with
  | _ x ih=>
    intro hx hok
    by_cases hr:li nb ok x
    · rw[hall x hx hr];exact .root
    · unfold li at hr
      rw[not_and]at hr
      have:=hr hok
      simp only[Classical.not_forall,Classical.not_not]at this
      obtain⟨i,hi,hio,hir⟩:=this
      exact(ih i hi (by omega) hio).trans hir
structure Form where
 H:Nat→Nat→Int
 V:Nat→Nat→Int
def cG (f:Form) (c:Nat × Nat):Int:=f.H c.1 c.2+f.V (c.1+1) c.2-f.H c.1 (c.2+1)-f.V c.1 c.2
def Adj4 (c d:Nat × Nat):Prop:=(d.1=c.1+1∧d.2=c.2)∨(c.1=d.1+1∧d.2=c.2)∨(d.1=c.1∧d.2=c.2+1)∨(d.1=c.1∧c.2=d.2+1)
theorem Adj4.symm {c d:Nat × Nat} (h:Adj4 c d):Adj4 d c:=by unfold Adj4 at*;omega
structure KeepR (R:Nat × Nat→Prop) (f g:Form):Prop where
 h0:∀ x y,R (x,y)→g.H x y=f.H x y
 h1:∀ x y,R (x,y)→g.H x (y+1)=f.H x (y+1)
 v0:∀ x y,R (x,y)→g.V x y=f.V x y
 v1:∀ x y,R (x,y)→g.V (x+1) y=f.V (x+1) y
theorem KeepR.trans {R:Nat × Nat→Prop} {f g k:Form} (h:KeepR R f g) (h':KeepR R g k):KeepR R f k:=
 ⟨fun x y q=>(h'.h0 x y q).trans (h.h0 x y q),fun x y q=>(h'.h1 x y q).trans (h.h1 x y q),fun x y q=>(h'.v0 x y q).trans (h.v0 x y q),fun x y q=>(h'.v1 x y q).trans (h.v1 x y q)⟩
theorem Mf {R:Nat × Nat→Prop} (f:Form) {c d:Nat × Nat} (ha:Adj4 c d) (hc:¬R c) (hd:¬R d) (δ:Int):
  ∃ g,KeepR R f g∧cG g c=cG f c+δ∧∀ e,e≠c→e≠d→cG g e=cG f e:=by
 have key:∀ (x y:Nat) (δ:Int),¬R (x,y)→¬R (x+1,y)→∃ g,KeepR R f g∧cG g (x,y)=cG f (x,y)+δ∧cG g (x+1,y)=cG f (x+1,y)-δ∧∀ e,e≠(x,y)→e≠(x+1,y)→cG g e=cG f e:=by
  intro x y δ h1 h2
  refine⟨⟨f.H,fun a b=>if a=x+1∧b=y then f.V a b+δ else f.V a b⟩,⟨fun _ _ _=>rfl,fun _ _ _=>rfl,fun a b q=> ?_,fun a b q=> ?_⟩,?_,?_,fun e e1 e2=> ?_⟩
  ·show(if a=x+1∧b=y then f.V a b+δ else f.V a b)=f.V a b
   rw[if_neg]
   rintro⟨rfl,rfl⟩
   exact h2 q
  ·show(if a+1=x+1∧b=y then f.V (a+1) b+δ else f.V (a+1) b)=f.V (a+1) b
   rw[if_neg]
   rintro⟨h3,rfl⟩
   have:a=x:=by omega
   subst this
   exact h1 q
  ·unfold cG
   simp only[and_self,if_true]
   rw[if_neg (by omega)];omega
  ·unfold cG
   simp only[and_self,if_true]
   rw[if_neg (by omega)];omega
  ·unfold cG
   obtain⟨a,b⟩:=e
   simp only[ne_eq,Prod.mk.injEq]at e1 e2
   simp only
   rw[if_neg (by omega),if_neg (by omega)]
 have key2:∀ (x y:Nat) (δ:Int),¬R (x,y)→¬R (x,y+1)→∃ g,KeepR R f g∧cG g (x,y)=cG f (x,y)+δ∧cG g (x,y+1)=cG f (x,y+1)-δ∧∀ e,e≠(x,y)→e≠(x,y+1)→cG g e=cG f e:=by
  intro x y δ h1 h2
  refine⟨⟨fun a b=>if a=x∧b=y+1 then f.H a b-δ else f.H a b,f.V⟩,⟨fun a b q=> ?_,fun a b q=> ?_,fun _ _ _=>rfl,fun _ _ _=>rfl⟩,?_,?_,fun e e1 e2=> ?_⟩
  ·show(if a=x∧b=y+1 then f.H a b-δ else f.H a b)=f.H a b
   rw[if_neg]
   rintro⟨rfl,rfl⟩
   exact h2 q
  ·show(if a=x∧b+1=y+1 then f.H a (b+1)-δ else f.H a (b+1))=f.H a (b+1)
   rw[if_neg]
   rintro⟨rfl,h3⟩
   have:b=y:=by omega
   subst this
   exact h1 q
  ·unfold cG
   simp only[and_self,if_true]
   rw[if_neg (by omega)];omega
  ·unfold cG
   simp only[and_self,if_true]
   rw[if_neg (by omega)];omega
  ·unfold cG
   obtain⟨a,b⟩:=e
   simp only[ne_eq,Prod.mk.injEq]at e1 e2
   simp only
   rw[if_neg (by omega),if_neg (by omega)]
 obtain⟨cx,cy⟩:=c
 obtain⟨dx,dy⟩:=d
 unfold Adj4 at ha
 simp only at ha
 rcases ha with⟨rfl,rfl⟩ |⟨rfl,rfl⟩ |⟨rfl,rfl⟩ |⟨rfl,rfl⟩
 ·obtain⟨g,k,p,_,r⟩:=key cx dy δ hc hd;exact⟨g,k,p,r⟩
 ·obtain⟨g,k,_,q,r⟩:=key dx dy (-δ) hd hc;exact⟨g,k,by rw[q];omega,fun e e1 e2=>r e e2 e1⟩
 ·obtain⟨g,k,p,_,r⟩:=key2 dx cy δ hc hd;exact⟨g,k,p,r⟩
 ·obtain⟨g,k,_,q,r⟩:=key2 dx dy (-δ) hd hc;exact⟨g,k,by rw[q];omega,fun e e1 e2=>r e e2 e1⟩
inductive Laid:List (Nat × Nat)→Prop
 | one:Laid [(0,0)]
 | more (c p:Nat × Nat) (L:List (Nat × Nat)) (h:Laid L) (hp:p∈L) (ha:Adj4 p c) (hc:c∉L):Laid (c::L)
theorem ME {R:Nat × Nat→Prop} {L:List (Nat × Nat)} (h:Laid L):(∀ c∈L,¬R c)→∀ f:Form,∃ g,KeepR R f g∧(∀ c∈L,cG g c=0)∧∀ c,c∉L→cG g c=cG f c:=by
  induction h with
  | one=>
    intro hR f
    have h0:¬R (0,0):=hR _ (by simp)
    refine⟨⟨fun a b=>if a=0∧b=0 then f.H a b-cG f (0,0)else f.H a b,f.V⟩,⟨fun a b q=> ?_,fun a b q=> ?_,fun _ _ _=>rfl,fun _ _ _=>rfl⟩,fun c hc=> ?_,fun c hc=> ?_⟩
    · show(if a=0∧b=0 then f.H a b-cG f (0,0)else f.H a b)=f.H a b
      rw[if_neg]
      rintro⟨rfl,rfl⟩
      exact h0 q
    · show(if a=0∧b+1=0 then f.H a (b+1)-cG f (0,0)else f.H a (b+1))=f.H a (b+1)
      rw[if_neg (by omega)]
    · simp only[List.mem_singleton]at hc
      subst hc
      unfold cG
      simp only[and_self,if_true]
      rw[if_neg (by omega)];omega
    · obtain⟨a,b⟩:=c
      simp only[List.mem_singleton,Prod.mk.injEq]at hc
      unfold cG
      simp only
      rw[if_neg hc,if_neg (by omega)]
  | more c p L hL hp ha hc ih=>
    intro hR f
    obtain⟨g1,k1,z1,r1⟩:=Mf (R:=R) f ha.symm (hR c (by simp)) (hR p (by simp [hp])) (-cG f c)
    obtain⟨g2,k2,z2,r2⟩:=ih (fun d hd=>hR d (by simp [hd])) g1
    refine⟨g2,k1.trans k2,fun d hd=> ?_,fun d hd=> ?_⟩
    · rcases List.mem_cons.1 hd with rfl |hd
      · rw[r2 d hc,z1];omega
      · exact z2 d hd
    · rw[List.mem_cons]at hd
      rw[r2 d (fun h=>hd (.inr h)),r1 d (fun h=>hd (.inl h)) (fun h=>hd (.inr (h▸hp)))]
def ms (f:Nat→Int):Nat→Int
 | 0=>0
 | n+1=>ms f n+f n
theorem xA {f:Form} {n:Nat} (h:∀ x y,x<n→y<n→cG f (x,y)=0):∃ p:Nat→Nat→Int,(∀ x y,x<n→y≤n→p (x+1) y=p x y+f.H x y)∧∀ x y,p x (y+1)=p x y+f.V x y:=by
  refine⟨fun x y=>ms (fun j=>f.H j 0) x+ms (f.V x) y,fun x y hx hy=> ?_,fun x y=> ?_⟩
  · induction y with
    | zero=>simp only[ms];omega
    | succ y ih=>
      have h1:=ih (by omega)
      have h2:=h x y hx (by omega)
      unfold cG at h2
      simp only[ms]at h1 h2⊢
      omega
  · simp only[ms];omega
inductive Reach4 (X:Nat × Nat→Prop):Nat × Nat→Prop
 | root:Reach4 X (0,0)
 | step (p q:Nat × Nat) (hp:Reach4 X p) (ha:Adj4 p q) (hq:X q):Reach4 X q
theorem leave {X:Nat × Nat→Prop} {L:List (Nat × Nat)} (h0:(0,0)∈L) {c:Nat × Nat} (h:Reach4 X c):c∉L→∃ p q,p∈L∧q∉L∧X q∧Adj4 p q:=by
  induction h with
  | root=>intro h;exact absurd h0 h
  | step p q hp ha hq ih=>
    intro h
    by_cases h1:p∈L
    · exact⟨p,q,h1,h,hq,ha⟩
    · exact ih h1
theorem Laid.root {L:List (Nat × Nat)} (h:Laid L):(0,0)∈L:=by
 induction h with
 | one=>simp
 | more c p L _ _ _ _ ih=>simp [ih]
theorem Hr {X:Nat × Nat→Prop} {U:List (Nat × Nat)} (hU:∀ c,X c→c∈U) (h0:X (0,0)) (hr:∀ c,X c→Reach4 X c):∃ L,Laid L∧∀ c,c∈L↔X c:=by
  classical
  have key:∀ n (L:List (Nat × Nat)),Laid L→(∀ c∈L,X c)→(U.filter (fun c=>decide (c∉L))).length≤n→∃ L,Laid L∧∀ c,c∈L↔X c:=by
    intro n
    induction n with
    | zero=>
      intro L hL hX hn
      refine⟨L,hL,fun c=>⟨hX c,fun hc=> ?_⟩⟩
      have:U.filter (fun c=>decide (c∉L))=[]:=List.eq_nil_of_length_eq_zero (by omega)
      rw[List.filter_eq_nil_iff]at this
      have:=this c (hU c hc)
      simpa using this
    | succ n ih=>
      intro L hL hX hn
      by_cases h:∀ c,X c→c∈L
      · exact⟨L,hL,fun c=>⟨hX c,h c⟩⟩
      · simp only[Classical.not_forall]at h
        obtain⟨c,hc,hcL⟩:=h
        obtain⟨p,q,hp,hq,hxq,ha⟩:=leave hL.root (hr c hc) hcL
        refine ih (q::L) (.more q p L hL hp ha hq) (fun d hd=> ?_) ?_
        · rcases List.mem_cons.1 hd with rfl |hd
          · exact hxq
          · exact hX d hd
        · have hlt:(U.filter (fun c=>decide (c∉q::L))).length<(U.filter (fun c=>decide (c∉L))).length:=by
            have e:U.filter (fun c=>decide (c∉q::L))=(U.filter (fun c=>decide (c∉L))).filter (fun c=>decide (c≠q)):=by
              rw[List.filter_filter]
              refine List.filter_congr fun c _=> ?_
              rw[Bool.eq_iff_iff];simp
            rw[e]
            refine List.length_filter_lt_length_iff_exists.2 ⟨q,?_,by simp⟩
            simp [hU q hxq,hq]
          omega
  exact key _ [(0,0)] .one (fun c hc=>by simp only[List.mem_singleton]at hc;subst hc;exact h0) (Nat.le_refl _)
theorem wD {R:Nat × Nat→Prop} {n:Nat} (f:Form) (h0:¬R (0,0)) (hn:0<n) (hc:∀ c,R c→cG f c=0) (hr:∀ c,c.1<n→c.2<n→¬R c→Reach4 (fun c=>(c.1<n∧c.2<n)∧¬R c) c):
  ∃ p:Nat→Nat→Int,∀ x y,x<n→y<n→R (x,y)→p (x+1) y=p x y+f.H x y∧p (x+1) (y+1)=p x (y+1)+f.H x (y+1)∧p x (y+1)=p x y+f.V x y∧p (x+1) (y+1)=p (x+1) y+f.V (x+1) y:=by
 obtain⟨L,hL,hX⟩:=Hr (X:=fun c=>(c.1<n∧c.2<n)∧¬R c) (U:=(List.range n).flatMap fun x=>(List.range n).map fun y=>(x,y)) (fun c hc=>by
  rw[List.mem_flatMap]
  exact⟨c.1,by simpa using hc.1.1,by rw[List.mem_map];exact⟨c.2,by simpa using hc.1.2,rfl⟩⟩) ⟨⟨hn,hn⟩,h0⟩ (fun c hc=>hr c hc.1.1 hc.1.2 hc.2)
 obtain⟨g,k,z,r⟩:=ME hL (R:=R) (fun c hcL=>((hX c).1 hcL).2) f
 obtain⟨p,p1,p2⟩:=xA (f:=g) (n:=n) (fun x y hx hy=>by
  by_cases hm:(x,y)∈L
  ·exact z _ hm
  ·rw[r _ hm]
   refine hc _ ?_
   rcases Classical.em (R (x,y))with h |h
   ·exact h
   ·exact absurd ((hX _).2 ⟨⟨hx,hy⟩,h⟩) hm)
 refine⟨p,fun x y hx hy hR=>⟨?_,?_,?_,?_⟩⟩
 ·rw[p1 x y hx (by omega),k.h0 x y hR]
 ·rw[p1 x (y+1) hx (by omega),k.h1 x y hR]
 ·rw[p2 x y,k.v0 x y hR]
 ·rw[p2 (x+1) y,k.v1 x y hR]
def c10 (k:Nat):Cel:=⟨((k%10:Nat):Int)-1,((k/10:Nat):Int)-1⟩
def bk (s k:Nat):Bool:=decide (k<100)&& !aP s (c10 k)
def mb (k t:Nat):Bool:=decide (1≤k%10+t%3)&&decide (k%10+t%3≤10)&&(decide (1≤k/10+t/3)&&decide (k/10+t/3≤10))
def uz (k t:Nat):Nat:=(k/10+t/3-1)*10+(k%10+t%3-1)
def eV (k:Nat):List Nat:=((List.range 9).filter (mb k)).map (uz k)
theorem ma {k w:Nat} (_hk:k<100):w∈eV k↔w<100∧(w%10≤k%10+1∧k%10≤w%10+1)∧(w/10≤k/10+1∧k/10≤w/10+1):=by
 unfold eV
 rw[List.mem_map]
 constructor
 ·rintro⟨t,ht,rfl⟩
  rw[List.mem_filter,List.mem_range]at ht
  obtain⟨h9,ho⟩:=ht
  unfold mb at ho
  simp only[Bool.and_eq_true,decide_eq_true_eq]at ho
  have h3:t/3<3:=by omega
  unfold uz
  generalize ha:t/3=a at*
  generalize hb:t%3=b at*
  generalize hc:k/10=c at*
  generalize hd:k%10=d at*
  have:b<3:=by omega
  omega
 ·rintro⟨h1,h2,h3⟩
  refine⟨(w/10+1-k/10)*3+(w%10+1-k%10),?_,?_⟩
  ·rw[List.mem_filter,List.mem_range]
   have e1:((w/10+1-k/10)*3+(w%10+1-k%10))/3=w/10+1-k/10:=by omega
   have e2:((w/10+1-k/10)*3+(w%10+1-k%10))%3=w%10+1-k%10:=by omega
   refine⟨by omega,?_⟩
   unfold mb
   rw[e1,e2]
   simp only[Bool.and_eq_true,decide_eq_true_eq]
   omega
  ·have e1:((w/10+1-k/10)*3+(w%10+1-k%10))/3=w/10+1-k/10:=by omega
   have e2:((w/10+1-k/10)*3+(w%10+1-k%10))%3=w%10+1-k%10:=by omega
   unfold uz
   rw[e1,e2];omega
theorem yH (a w:Nat) (h:w∈eV a):w<100:=by
 unfold eV at h
 rw[List.mem_map]at h
 obtain⟨t,ht,rfl⟩:=h
 rw[List.mem_filter,List.mem_range]at ht
 obtain⟨h9,ho⟩:=ht
 unfold mb at ho
 simp only[Bool.and_eq_true,decide_eq_true_eq]at ho
 unfold uz;omega
theorem dT {s k:Nat} (h:bk s k=true):k<100:=by
 unfold bk at h;simp only[Bool.and_eq_true,decide_eq_true_eq]at h;exact h.1
theorem zV {s:Nat} (p q:Nat) (hp:bk s p=true) (hq:q∈eV p) (h:okE (bk s) p q=true):p∈eV q∧okE (bk s) q p=true:=by
 have h1:=dT hp
 have h2:bk s q=true:=h
 refine⟨?_,hp⟩
 rw[ma (dT h2)]
 rw[ma h1]at hq
 omega
noncomputable def ii (s:Nat):Nat:=lD eV (bk s) 100
def tq (s x y:Nat):Bool:=let a:=aP s ⟨x,y⟩;let b:=aP s ⟨x+1,y⟩;let c:=aP s ⟨x,y+1⟩;let d:=aP s ⟨x+1,y+1⟩;(decide (a=d)&&decide (b=c))&& !decide (a=b)
def rz (s:Nat):Bool:=(List.range 7).any fun y=>(List.range 7).any fun x=>tq s x y
theorem Ln {s:Nat} (h:rz s=false) {x y:Nat} (hx:x<7) (hy:y<7):tq s x y=false:=by
 unfold rz at h
 rw[List.any_eq_false]at h
 have h1:=h y (by simpa using hy)
 simp only[Bool.not_eq_true]at h1
 rw[List.any_eq_false]at h1
 have h2:=h1 x (by simpa using hx)
 simpa using h2
def eL (s:Nat) (c:Nat × Nat):Prop:=aP s ⟨(c.1:Int)-1,(c.2:Int)-1⟩=true
theorem jg {s:Nat} {c:Nat × Nat} (h1:c.1<10) (h2:c.2<10):bk s (c.2*10+c.1)=true↔¬eL s c:=by
 unfold bk eL c10
 have e1:(c.2*10+c.1)%10=c.1:=by omega
 have e2:(c.2*10+c.1)/10=c.2:=by omega
 rw[e1,e2]
 simp only[Bool.and_eq_true,decide_eq_true_eq,Bool.not_eq_true',Bool.not_eq_true]
 constructor
 ·exact fun h=>h.2
 ·exact fun h=>⟨by omega,h⟩
theorem kT {s:Nat} {x y:Int} (h:aP s ⟨x,y⟩=true):(0≤x∧x≤7)∧(0≤y∧y≤7):=bz.1 (bN h)
theorem FH {s:Nat} (hh:ii s=1) (ht:rz s=false):∀ c:Nat × Nat,c.1<10→c.2<10→¬eL s c→Reach4 (fun c=>(c.1<10∧c.2<10)∧¬eL s c) c:=by
  have f0:bk s 0=true:=by
    rw[show(0:Nat)=(0,0).2*10+((0,0):Nat × Nat).1 from rfl,jg (by decide) (by decide)]
    intro h
    have:=kT h
    simp at this
  have hall:=vh f0 hh
  have key:∀ k,GReach eV (okE (bk s)) 0 k→bk s k=true∧Reach4 (fun c=>(c.1<10∧c.2<10)∧¬eL s c) (k%10,k/10):=by
    intro k hk
    induction hk with
    | root=>exact⟨f0,.root⟩
    | step p q hp hq hok ih=>
      obtain⟨hpf,hpr⟩:=ih
      have hqf:bk s q=true:=hok
      have hp100:=dT hpf
      have hq100:=dT hqf
      refine⟨hqf,?_⟩
      rw[ma hp100]at hq
      obtain⟨_,hx,hy⟩:=hq
      have Xf:∀ a b,a<10→b<10→bk s (b*10+a)=true→(((a,b):Nat × Nat).1<10∧((a,b):Nat × Nat).2<10)∧¬eL s (a,b):=fun a b h1 h2 h3=>⟨⟨h1,h2⟩,(jg (c:=(a,b)) h1 h2).1 h3⟩
      have Xq:=Xf (q%10) (q/10) (by omega) (by omega) (by rw[show q/10*10+q%10=q by omega];exact hqf)
      have Xp:=Xf (p%10) (p/10) (by omega) (by omega) (by rw[show p/10*10+p%10=p by omega];exact hpf)
      by_cases e1:p%10=q%10
      · by_cases e2:p/10=q/10
        · rw[←e1,←e2];exact hpr
        · exact .step _ _ hpr (by unfold Adj4;simp only;omega) Xq
      · by_cases e2:p/10=q/10
        · exact .step _ _ hpr (by unfold Adj4;simp only;omega) Xq
        ·
          by_cases r1:eL s (q%10,p/10)
          · by_cases r2:eL s (p%10,q/10)
            · exfalso
              have b1:=kT r1
              have b2:=kT r2
              simp only at b1 b2
              have n1:=Xp.2
              have n2:=Xq.2
              unfold eL at r1 r2 n1 n2
              simp only[Bool.not_eq_true]at r1 r2 n1 n2
              have hx0:min (p%10) (q%10)-1<7:=by omega
              have hy0:min (p/10) (q/10)-1<7:=by omega
              have hno:=Ln ht hx0 hy0
              unfold tq at hno
              simp only at hno
              rcases Nat.lt_or_ge (p%10) (q%10)with h1 |h1<;>rcases Nat.lt_or_ge (p/10) (q/10)with h2 |h2
              · have g1:(((min (p%10) (q%10)-1:Nat)):Int)=((p%10:Nat):Int)-1:=by omega
                have g2:(((min (p/10) (q/10)-1:Nat)):Int)=((p/10:Nat):Int)-1:=by omega
                have g3:((p%10:Nat):Int)-1+1=((q%10:Nat):Int)-1:=by omega
                have g4:((p/10:Nat):Int)-1+1=((q/10:Nat):Int)-1:=by omega
                rw[g1,g2,g3,g4,n1,n2,r1,r2]at hno
                simp at hno
              · have g1:(((min (p%10) (q%10)-1:Nat)):Int)=((p%10:Nat):Int)-1:=by omega
                have g2:(((min (p/10) (q/10)-1:Nat)):Int)=((q/10:Nat):Int)-1:=by omega
                have g3:((p%10:Nat):Int)-1+1=((q%10:Nat):Int)-1:=by omega
                have g4:((q/10:Nat):Int)-1+1=((p/10:Nat):Int)-1:=by omega
                rw[g1,g2,g3,g4,n1,n2,r1,r2]at hno
                simp at hno
              · have g1:(((min (p%10) (q%10)-1:Nat)):Int)=((q%10:Nat):Int)-1:=by omega
                have g2:(((min (p/10) (q/10)-1:Nat)):Int)=((p/10:Nat):Int)-1:=by omega
                have g3:((q%10:Nat):Int)-1+1=((p%10:Nat):Int)-1:=by omega
                have g4:((p/10:Nat):Int)-1+1=((q/10:Nat):Int)-1:=by omega
                rw[g1,g2,g3,g4,n1,n2,r1,r2]at hno
                simp at hno
              · have g1:(((min (p%10) (q%10)-1:Nat)):Int)=((q%10:Nat):Int)-1:=by omega
                have g2:(((min (p/10) (q/10)-1:Nat)):Int)=((q/10:Nat):Int)-1:=by omega
                have g3:((q%10:Nat):Int)-1+1=((p%10:Nat):Int)-1:=by omega
                have g4:((q/10:Nat):Int)-1+1=((p/10:Nat):Int)-1:=by omega
                rw[g1,g2,g3,g4,n1,n2,r1,r2]at hno
                simp at hno
            · have Xr:(((p%10,q/10):Nat × Nat).1<10∧((p%10,q/10):Nat × Nat).2<10)∧¬eL s (p%10,q/10):=⟨⟨by simp only;omega,by simp only;omega⟩,r2⟩
              have a1:Adj4 (p%10,p/10) (p%10,q/10):=by unfold Adj4;dsimp only;omega
              have a2:Adj4 (p%10,q/10) (q%10,q/10):=by unfold Adj4;dsimp only;omega
              exact .step _ _ (.step _ _ hpr a1 Xr) a2 Xq
          · have Xr:(((q%10,p/10):Nat × Nat).1<10∧((q%10,p/10):Nat × Nat).2<10)∧¬eL s (q%10,p/10):=⟨⟨by simp only;omega,by simp only;omega⟩,r1⟩
            have a1:Adj4 (p%10,p/10) (q%10,p/10):=by unfold Adj4;dsimp only;omega
            have a2:Adj4 (q%10,p/10) (q%10,q/10):=by unfold Adj4;dsimp only;omega
            exact .step _ _ (.step _ _ hpr a1 Xr) a2 Xq
  intro c h1 h2 h3
  have hf:=(jg h1 h2).2 h3
  have:=(key _ (hall _ (by omega) hf)).2
  rw[show(c.2*10+c.1)%10=c.1 by omega,show(c.2*10+c.1)/10=c.2 by omega]at this
  exact this
def mkB (L:List Nat):List Bool:=(List.range 100).map (fun i=>decide (i∈L))
theorem yF (L:List Nat):(mkB L).length=100:=by unfold mkB;simp
theorem MJ {L:List Nat} {i:Nat} (h:i<100):gB (mkB L) i=decide (i∈L):=by
 rw[GS (by rw[yF];exact h)];unfold mkB;simp
theorem Kt (L:List Nat) (k:Nat):(mkB L).set k true=mkB (L++[k]):=by
 apply List.ext_getElem
 ·simp [mkB]
 ·intro i h1 h2
  rw[List.getElem_set]
  unfold mkB
  simp only[List.getElem_map,List.getElem_range,List.mem_append,List.mem_singleton]
  by_cases e:k=i
  ·subst e;simp
  ·rw[if_neg e]
   have:¬i=k:=fun h=>e h.symm
   simp [this]
def mkI (L:List Nat):List Int:=(List.range 100).map (fun i=>if i∈L then 1 else 0)
theorem qW (L:List Nat):(mkI L).length=100:=by unfold mkI;simp
theorem MO {L:List Nat} {i:Nat} (h:i<100):gI (mkI L) i=if i∈L then 1 else 0:=by
 rw[cQ (by rw[qW];exact h)];unfold mkI;simp
theorem jT {L:List Nat} {i:Nat} (h:i<100):gI (mkI L) i=0↔i∉L:=by
 rw[MO h];by_cases hm:i∈L<;>simp [hm]
theorem yG (L:List Nat) (k:Nat):(mkI L).set k 1=mkI (L++[k]):=by
 apply List.ext_getElem
 ·simp [mkI]
 ·intro i h1 h2
  rw[List.getElem_set]
  unfold mkI
  simp only[List.getElem_map,List.getElem_range,List.mem_append,List.mem_singleton]
  by_cases e:k=i
  ·subst e;simp
  ·rw[if_neg e]
   have:¬i=k:=fun h=>e h.symm
   simp [this]
structure ScanI (s k:Nat) (L:List Nat):Prop where
 nd:L.Nodup
 lt:∀ x,x∈L→x<100
 se:∀ x,x∈L↔oq eV (bk s) k x
theorem ScanI.zero (s:Nat):ScanI s 0 []:=⟨by simp,by simp,fun x=>⟨fun h=>by simp at h,fun⟨j,h,_⟩=>by omega⟩⟩
theorem ScanI.closed {s k:Nat} {L:List Nat} (h:ScanI s k L):Closed eV (bk s) (· ∈L):=by
  intro x hx w hw hok
  exact(h.se w).2 (nj eV (bk s) k x ((h.se x).1 hx) w hw hok)
theorem ScanI.skip {s k:Nat} {L:List Nat} (h:ScanI s k L) (hk:bk s k=false∨k∈L):ScanI s (k+1) L∧¬li eV (bk s) k:=by
 have h1:bk s k=false∨oq eV (bk s) k k:=hk.imp id (h.se k).1
 refine⟨⟨h.nd,h.lt,fun x=>by rw[h.se x,FO h1]⟩,fun hr=> ?_⟩
 rcases h1 with h2 |h2
 ·rw[hr.1]at h2;cases h2
 ·exact(ql hr.1).1 hr h2
theorem ScanI.deep {s k n:Nat} {L:List Nat} (h:ScanI s k L) (hk:bk s k=true) (hn:k∉L) (hf:100<n+L.length):ScanI s (k+1) (dfs eV (bk s) n L k)∧li eV (bk s) k:=by
 have hd:=GC yH h.nd h.lt hn (dT hk) hf h.closed
 obtain⟨e,d,_⟩:=yl yH n L k h.nd h.lt hn (dT hk) hf
 refine⟨⟨d.nd,d.lt,fun x=>by rw[hd x,h.se x,xS hk]⟩,(ql hk).2 fun hs=>hn ((h.se k).2 hs)⟩
theorem Ix {s k:Nat} {L lst:List Nat} {i:Nat} (h:ScanI s k L) (hk:bk s k=true) (hn:k∉L) (hg:GInv eV (okE (bk s)) k lst i) {x w:Nat} (hx:x∈lst) (hw:w∈eV x) (hok:bk s w=true):w∉L:=by
  intro hwL
  have h1:GReach eV (okE (bk s)) k x:=hg.rc x hx
  have hf:∀ y,GReach eV (okE (bk s)) k y→bk s y=true:=fun y hy=>by
    cases hy with
    | root=>exact hk
    | step p q _ _ hok=>exact hok
  have h2:GReach eV (okE (bk s)) k w:= .step x w h1 hw hok
  have hsym:∀ y,GReach eV (okE (bk s)) k y→GReach eV (okE (bk s)) y k:=by
    intro y hy
    induction hy with
    | root=>exact .root
    | step p q hp hq hok ih=>
      obtain⟨g1,g2⟩:=zV p q (hf p hp) hq hok
      exact GReach.trans (.step q p .root g1 g2) ih
  exact hn ((h.se k).2 ((nj eV (bk s) k).reach ((h.se w).1 hwL) (hsym w h2)))
theorem ScanI.wide {s k:Nat} {L lst:List Nat} {i:Nat} (h:ScanI s k L) (hk:bk s k=true) (hn:k∉L) (hg:GInv eV (okE (bk s)) k lst i) (hi:¬i<lst.length) (hd:∀ x,x∈lst→x∉L):ScanI s (k+1) (L++lst)∧li eV (bk s) k:=by
 have hlt:∀ x,x∈lst→x<100:=fun x hx=>by
  have h1:=hg.rc x hx
  cases h1 with
  | root=>exact dT hk
  | step p q _ _ hok=>exact dT hok
 refine⟨⟨?_,fun x hx=> ?_,fun x=> ?_⟩,(ql hk).2 fun hs=>hn ((h.se k).2 hs)⟩
 ·rw[List.nodup_append]
  exact⟨h.nd,hg.nd,fun a ha b hb e=>hd b hb (e▸ha)⟩
 ·rcases List.mem_append.1 hx with hx |hx
  ·exact h.lt x hx
  ·exact hlt x hx
 ·rw[List.mem_append,h.se x,xS hk,hg.done hi x]
def Di (c:Cel):List Dom:=[⟨c.x,c.y,false⟩,⟨c.x,c.y,true⟩,⟨c.x-1,c.y,false⟩,⟨c.x,c.y-1,true⟩]
theorem zG {c:Cel} {d:Dom} (h:cvr c d=true):d∈Di c:=by
 unfold cvr ca cb at h
 simp only[Bool.and_eq_true,Bool.or_eq_true,decide_eq_true_eq]at h
 obtain⟨_,h⟩:=h
 obtain⟨x,y,b⟩:=d
 obtain⟨cx,cy⟩:=c
 unfold Di
 cases b<;>simp only[Cel.mk.injEq,Bool.false_eq_true,if_false,if_true]at h<;>simp<;>omega
theorem xZ {l:List Int} {ds:List Dom} (h:ct l ds=true) {c:Cel} (hc:aP (ag l) c=true):∃ d,d∈ds∧cvr c d=true:=by
 unfold ct at h
 simp only[Bool.and_eq_true,decide_eq_true_eq]at h
 have ho:=bN hc
 have h1:=qC ds ho
 rw[h.2]at h1
 unfold aP at hc
 rw[Bool.and_eq_true]at hc
 rw[hc.2]at h1
 exact List.any_eq_true.1 h1.symm
theorem gW {l:List Int} {ds:List Dom} (h:fg l ds=true) {c:Cel} {d e:Dom} (hd:d∈ds) (he:e∈ds) (h1:cvr c d=true) (h2:cvr c e=true):d=e:=by
 obtain⟨i,hi,rfl⟩:=List.getElem_of_mem hd
 obtain⟨j,hj,rfl⟩:=List.getElem_of_mem he
 have key:∀ i j (hi:i<ds.length) (hj:j<ds.length),i<j→cvr c ds[i]=true→cvr c ds[j]=true→False:=by
  intro i j hi hj hij h1 h2
  have hs:=(mL h).2 j hj
  unfold stepOk at hs
  simp only[Bool.and_eq_true]at hs
  have hf:=hs.2.1
  rw[nP,jP hj]at hf
  simp only[Bool.and_eq_true,Bool.not_eq_true']at hf
  have hok:okD ds[j]=true:=by rw[←jP hj];exact hs.1
  unfold cvr at h2
  simp only[Bool.and_eq_true,Bool.or_eq_true,decide_eq_true_eq]at h2
  have hcb:(dl (ds.take j)).testBit (idx c)=true:=by
   have hco:okc c.x c.y=true:=by
    rcases h2.2 with e |e
    ·rw[←e];exact eX hok
    ·rw[←e];exact fU hok
   rw[qC _ hco,List.any_eq_true]
   exact⟨ds[i],List.mem_take_iff_getElem.2 ⟨i,by omega,rfl⟩,h1⟩
  rcases h2.2 with e |e
  ·rw[←e,hf.1.2]at hcb;cases hcb
  ·rw[←e,hf.2.2]at hcb;cases hcb
 rcases Nat.lt_trichotomy i j with hij |rfl |hij
 ·exact(key i j hi hj hij h1 h2).elim
 ·rfl
 ·exact(key j i hj hi hij h2 h1).elim
theorem nN {c:Cel} {d:Dom} (h:okD d=true) (h2:ca d=c∨cb d=c):cvr c d=true:=by
 unfold cvr;rw[h,Bool.true_and,Bool.or_eq_true,decide_eq_true_eq,decide_eq_true_eq];exact h2
theorem ks {l:List Int} {ds:List Dom} (h:fg l ds=true) {d:Dom} (hd:d∈ds):okD d=true:=by
 obtain⟨j,hj,rfl⟩:=List.getElem_of_mem hd
 rw[←jP hj];exact Hl h hj
def sg (n:Int):Int:=if n%2=1 then 1 else -1
theorem rn (n:Int):sg (n+1)= -(sg n):=by unfold sg;split<;>split<;>omega
def hE (ds:List Dom) (x y:Int):Int:=if(⟨x,y-1,true⟩:Dom)∈ds then -3*sg (x+y)else sg (x+y)
def vE (ds:List Dom) (x y:Int):Int:=if(⟨x-1,y,false⟩:Dom)∈ds then 3*sg (x+y)else -(sg (x+y))
def fF (ds:List Dom):Form:=⟨fun X Y=>hE ds ((X:Int)-1) ((Y:Int)-1),fun X Y=>vE ds ((X:Int)-1) ((Y:Int)-1)⟩
theorem oH {l:List Int} {ds:List Dom} (h:ct l ds=true) (c:Nat × Nat) (hc:eL (ag l) c):cG (fF ds) c=0:=by
 obtain⟨X,Y⟩:=c
 have hp:fg l ds=true:=by unfold ct at h;simp only[Bool.and_eq_true]at h;exact h.1
 unfold eL at hc
 simp only at hc
 generalize hx:((X:Int)-1)=x at hc
 generalize hy:((Y:Int)-1)=y at hc
 obtain⟨d,hd,hcv⟩:=xZ h hc
 have h4:=zG hcv
 have e1:(⟨x,y-1,true⟩:Dom)∈ds↔d=⟨x,y-1,true⟩:=
  ⟨fun h5=>gW hp hd h5 hcv (nN (ks hp h5) (.inr (by unfold cb;simp))),fun h5=>h5▸hd⟩
 have e2:(⟨x,y,false⟩:Dom)∈ds↔d=⟨x,y,false⟩:=
  ⟨fun h5=>gW hp hd h5 hcv (nN (ks hp h5) (.inl rfl)),fun h5=>h5▸hd⟩
 have e3:(⟨x,y,true⟩:Dom)∈ds↔d=⟨x,y,true⟩:=
  ⟨fun h5=>gW hp hd h5 hcv (nN (ks hp h5) (.inl rfl)),fun h5=>h5▸hd⟩
 have e4:(⟨x-1,y,false⟩:Dom)∈ds↔d=⟨x-1,y,false⟩:=
  ⟨fun h5=>gW hp hd h5 hcv (nN (ks hp h5) (.inr (by unfold cb;simp))),fun h5=>h5▸hd⟩
 unfold cG fF
 simp only
 have hx1:(((X+1:Nat):Int)-1)=x+1:=by omega
 have hy1:(((Y+1:Nat):Int)-1)=y+1:=by omega
 rw[hx,hy,hx1,hy1]
 unfold hE vE
 rw[show y+1-1=y by omega,show x+1-1=x by omega]
 simp only[e1,e2,e3,e4]
 rw[show x+1+y=x+y+1 by omega,show x+(y+1)=x+y+1 by omega,rn]
 unfold Di at h4
 simp only[List.mem_cons,List.not_mem_nil,or_false]at h4
 rcases h4 with rfl |rfl |rfl |rfl<;>simp<;>omega
theorem vl {l:List Int} {ds:List Dom} (h:ct l ds=true) (hh:ii (ag l)=1) (ht:rz (ag l)=false):
  ∃ p:Nat→Nat→Int,∀ x y,x<10→y<10→eL (ag l) (x,y)→p (x+1) y=p x y+(fF ds).H x y∧p (x+1) (y+1)=p x (y+1)+(fF ds).H x (y+1)∧p x (y+1)=p x y+(fF ds).V x y∧p (x+1) (y+1)=p (x+1) y+(fF ds).V (x+1) y:=
 wD (fF ds) (by intro h0;have:=kT h0;simp at this) (by decide) (oH h) (FH hh ht)
def cX (u:Nat):Int:=((u%9:Nat):Int)
def cY (u:Nat):Int:=((u/9:Nat):Int)
def opH (s:Nat) (ds:List Dom) (x y:Int):Bool:=(aP s ⟨x,y-1⟩||aP s ⟨x,y⟩)&& !decide ((⟨x,y-1,true⟩:Dom)∈ds)
def opV (s:Nat) (ds:List Dom) (x y:Int):Bool:=(aP s ⟨x-1,y⟩||aP s ⟨x,y⟩)&& !decide ((⟨x-1,y,false⟩:Dom)∈ds)
def opE (s:Nat) (ds:List Dom) (u v:Nat):Bool:=
 if cY u=cY v∧cX v=cX u+1 then opH s ds (cX u) (cY u)
 else if cY u=cY v∧cX u=cX v+1 then opH s ds (cX v) (cY v)
 else if cX u=cX v∧cY v=cY u+1 then opV s ds (cX u) (cY u)
 else if cX u=cX v∧cY u=cY v+1 then opV s ds (cX v) (cY v)
 else false
def stE (u v:Nat):Int:=if cY u=cY v then sg (cX u+cY u)else -(sg (cX u+cY u))
theorem yO {l:List Int} {ds:List Dom} {p:Nat→Nat→Int}
  (hp:∀ x y,x<10→y<10→eL (ag l) (x,y)→p (x+1) y=p x y+(fF ds).H x y∧p (x+1) (y+1)=p x (y+1)+(fF ds).H x (y+1)∧p x (y+1)=p x y+(fF ds).V x y∧p (x+1) (y+1)=p (x+1) y+(fF ds).V (x+1) y)
  {u v:Nat} (hu:u<81) (hv:v<81) (h:opE (ag l) ds u v=true):p (v%9+1) (v/9+1)=p (u%9+1) (u/9+1)+stE u v:=by
 have hH:∀ x y:Nat,x<8→y<9→opH (ag l) ds (x:Int) (y:Int)=true→p (x+1+1) (y+1)=p (x+1) (y+1)+sg ((x:Int)+(y:Int)):=by
  intro x y hx hy ho
  unfold opH at ho
  simp only[Bool.and_eq_true,Bool.or_eq_true,Bool.not_eq_true',decide_eq_false_iff_not]at ho
  obtain⟨ho,hn⟩:=ho
  have hE1:(fF ds).H (x+1) (y+1)=sg ((x:Int)+(y:Int)):=by
   show hE ds (((x+1:Nat):Int)-1) (((y+1:Nat):Int)-1)=_
   rw[show(((x+1:Nat):Int)-1)=x by omega,show(((y+1:Nat):Int)-1)=y by omega]
   unfold hE;rw[if_neg hn]
  rcases ho with ho |ho
  ·have hr:=kT ho
   have:=(hp (x+1) y (by omega) (by omega) (by unfold eL;simp only;rw[show(((x+1:Nat):Int)-1)=x by omega];exact ho)).2.1
   rw[this,hE1]
  ·have:=(hp (x+1) (y+1) (by omega) (by omega) (by unfold eL;simp only;rw[show(((x+1:Nat):Int)-1)=x by omega,show(((y+1:Nat):Int)-1)=y by omega];exact ho)).1
   rw[this,hE1]
 have hV:∀ x y:Nat,x<9→y<8→opV (ag l) ds (x:Int) (y:Int)=true→p (x+1) (y+1+1)=p (x+1) (y+1)-sg ((x:Int)+(y:Int)):=by
  intro x y hx hy ho
  unfold opV at ho
  simp only[Bool.and_eq_true,Bool.or_eq_true,Bool.not_eq_true',decide_eq_false_iff_not]at ho
  obtain⟨ho,hn⟩:=ho
  have hE1:(fF ds).V (x+1) (y+1)= -(sg ((x:Int)+(y:Int))):=by
   show vE ds (((x+1:Nat):Int)-1) (((y+1:Nat):Int)-1)=_
   rw[show(((x+1:Nat):Int)-1)=x by omega,show(((y+1:Nat):Int)-1)=y by omega]
   unfold vE;rw[if_neg hn]
  rcases ho with ho |ho
  ·have:=(hp x (y+1) (by omega) (by omega) (by unfold eL;simp only;rw[show(((y+1:Nat):Int)-1)=y by omega];exact ho)).2.2.2
   rw[this,hE1];omega
  ·have:=(hp (x+1) (y+1) (by omega) (by omega) (by unfold eL;simp only;rw[show(((x+1:Nat):Int)-1)=x by omega,show(((y+1:Nat):Int)-1)=y by omega];exact ho)).2.2.1
   rw[this,hE1];omega
 unfold opE at h
 unfold stE
 unfold cX cY at*
 split at h
 ·rename_i hc
  rw[if_pos hc.1]
  have e1:v%9=u%9+1:=by omega
  have e2:v/9=u/9:=by omega
  rw[e1,e2]
  exact hH (u%9) (u/9) (by omega) (by omega) h
 ·split at h
  ·rename_i hc
   rw[if_pos hc.1]
   have e1:u%9=v%9+1:=by omega
   have e2:u/9=v/9:=by omega
   have h3:=hH (v%9) (v/9) (by omega) (by omega) h
   rw[e1,e2,h3]
   rw[show((v%9+1:Nat):Int)+((v/9:Nat):Int)=((v%9:Nat):Int)+((v/9:Nat):Int)+1 by omega,rn];omega
  ·split at h
   ·rename_i _ _ hc
    rw[if_neg (by omega)]
    have e1:v/9=u/9+1:=by omega
    have e2:v%9=u%9:=by omega
    have h3:=hV (u%9) (u/9) (by omega) (by omega) h
    rw[e1,e2,h3];omega
   ·split at h
    ·rename_i _ _ _ hc
     rw[if_neg (by omega)]
     have e1:u/9=v/9+1:=by omega
     have e2:u%9=v%9:=by omega
     have h3:=hV (v%9) (v/9) (by omega) (by omega) h
     rw[e1,e2,h3]
     rw[show((v%9:Nat):Int)+((v/9+1:Nat):Int)=((v%9:Nat):Int)+((v/9:Nat):Int)+1 by omega,rn];omega
    ·cases h
def okS (s:Nat) (_ w:Cel):Bool:=aP s w
abbrev PR (s:Nat) (a b:Cel):Prop:=GReach nbs (okS s) a b
theorem PR.has {s:Nat} {a b:Cel} (ha:aP s a=true) (h:PR s a b):aP s b=true:=by
 induction h with
 | root=>exact ha
 | step p q _ _ hok _=>exact hok
theorem HG {p q:Cel} (h:q∈nbs p):p∈nbs q:=by rw[uk]at*;rw[vf];exact h
theorem PR.symm {s:Nat} {a b:Cel} (ha:aP s a=true) (h:PR s a b):PR s b a:=by
 induction h with
 | root=>exact .root
 | step p q hp hq hok ih=>exact GReach.trans (.step q p .root (HG hq) (PR.has ha hp)) ih
open Classical in
noncomputable def nB (s:Nat) (c:Cel):Nat:=fI ((aj s).filter (fun w=>decide (PR s c w)))
theorem DK (s:Nat) (c:Cel):nB s c<18446744073709551616:=uq (fun w hw=>bN (dh.1 (List.mem_filter.1 hw).1))
theorem rm {L:List Cel} (hL:∀ c∈L,okc c.x c.y=true) {w:Cel} (hw:okc w.x w.y=true):aP (fI L) w=true↔w∈L:=by
 unfold aP
 rw[hw,Bool.true_and,Iz,decide_eq_true_eq]
 constructor
 ·rintro⟨c,hc,he⟩;rw[←gx (hL c hc) hw he];exact hc
 ·intro h;exact⟨w,h,rfl⟩
theorem ol {s:Nat} {c w:Cel} (hc:aP s c=true):aP (nB s c) w=true↔PR s c w:=by
 have hL:∀ d∈(aj s).filter (fun w=>@decide (PR s c w) (Classical.propDecidable _)),okc d.x d.y=true:=fun d hd=>bN (dh.1 (List.mem_filter.1 hd).1)
 constructor
 ·intro h
  have hw:=bN h
  have:=(rm hL hw).1 h
  simpa using(List.mem_filter.1 this).2
 ·intro h
  have hs:=PR.has hc h
  refine(rm hL (bN hs)).2 (List.mem_filter.2 ⟨dh.2 hs,by simpa using h⟩)
theorem KZ {a b:Nat} (ha:a<18446744073709551616) (hb:b<18446744073709551616) (h:∀ c:Cel,okc c.x c.y=true→(aP a c=true↔aP b c=true)):a=b:=by
 apply Nat.eq_of_testBit_eq;intro i
 rcases Nat.lt_or_ge i 64 with hi |hi
 ·have:=h (cN i) (fk hi)
  rw[Hb hi,Hb hi]at this
  rw[Bool.eq_iff_iff];exact this
 ·rw[Nat.testBit_lt_two_pow (Nat.lt_of_lt_of_le ha (Nat.pow_le_pow_right (n:=2) (i:=64) (by decide) hi)),Nat.testBit_lt_two_pow (Nat.lt_of_lt_of_le hb (Nat.pow_le_pow_right (n:=2) (i:=64) (by decide) hi))]
theorem DL {s:Nat} {c:Cel} {L:List Cel} {k:Nat} (hc:aP s c=true) (h:GInv nbs (okS s) c L k) (hk:¬k<L.length):fI L=nB s c:=by
 have hL:∀ d∈L,okc d.x d.y=true:=fun d hd=>bN (PR.has hc (h.rc d hd))
 refine KZ (uq hL) (DK s c) fun w hw=> ?_
 rw[rm hL hw,ol hc]
 exact h.done hk w
theorem zZ {s:Nat} {c:Cel} {L:List Cel} {k:Nat} (hc:aP s c=true) (h:GInv nbs (okS s) c L k):L.length≤64:=by
 have h1:(L.map idx).Nodup:=by
  rw[List.Nodup,List.pairwise_map]
  refine List.Pairwise.imp_of_mem (fun {a b} ha hb hab e=>hab ?_) h.nd
  exact gx (bN (PR.has hc (h.rc a ha))) (bN (PR.has hc (h.rc b hb))) e
 have:=gy 64 (L.map idx) h1 (fun x hx=>by
  obtain⟨d,hd,rfl⟩:=List.mem_map.1 hx
  exact cn (bN (PR.has hc (h.rc d hd))))
 simpa using this
theorem Bj (L:List Cel) (w:Cel):fI (L++[w])=pu (fI L) w:=by unfold fI;rw[List.foldl_append];rfl
def ja (s:Nat) (c:Cel):Prop:=∀ d,aP s d=true→idx d<idx c→¬PR s d c
open Classical in
noncomputable def gP (s m:Nat):Nat:=((aj s).filter (fun c=>decide (idx c<m∧ja s c))).length
noncomputable def fV (s:Nat):Nat:=gP s 64
def tB (s m:Nat) (w:Cel):Prop:=∃ d,aP s d=true∧idx d<m∧PR s d w
theorem FI (s m:Nat):gP s m≤64:=Nat.le_trans (List.length_filter_le _ _) (kx s)
theorem Bh (s:Nat):gP s 0=0:=by unfold gP;simp
theorem BI {L:List Cel} (hn:L.Nodup) {c:Cel} (hc:c∈L) (p q:Cel→Bool) (h1:p c=false) (h2:q c=true) (h3:∀ d,d∈L→d≠c→p d=q d):(L.filter q).length=(L.filter p).length+1:=by
  induction L with
  | nil=>cases hc
  | cons a L ih=>
    rw[List.nodup_cons]at hn
    rcases List.mem_cons.1 hc with rfl |hc'
    · rw[List.filter_cons_of_pos h2,List.filter_cons_of_neg (by simp [h1]),List.length_cons]
      congr 1
      congr 1
      exact List.filter_congr fun d hd=>(h3 d (by simp [hd]) (by rintro rfl;exact hn.1 hd)).symm
    · have hne:a≠c:=by rintro rfl;exact hn.1 hc'
      have ih':=ih hn.2 hc' (fun d hd=>h3 d (by simp [hd]))
      have e:=h3 a (by simp) hne
      cases hq:q a
      · rw[hq]at e;rw[List.filter_cons_of_neg (by simp [hq]),List.filter_cons_of_neg (by simp [e]),ih']
      · rw[hq]at e;rw[List.filter_cons_of_pos hq,List.filter_cons_of_pos e,List.length_cons,List.length_cons,ih']
theorem ot (s:Nat):(aj s).Nodup:=by
 unfold aj
 rw[List.Nodup,List.pairwise_map]
 have h:=(List.nodup_range (n:=64)).filter s.testBit
 refine List.Pairwise.imp_of_mem (fun {a b} ha hb hab e=>hab ?_) h
 rw[List.mem_filter,List.mem_range]at ha hb
 rw[←dF ha.1,←dF hb.1,e]
theorem wJ {s t m:Nat} (ht:∀ w,aP t w=true↔aP s w=true∧¬tB s m w) {c:Cel} (hc:aP t c=true) (hmin:∀ d,aP t d=true→idx c≤idx d):
    m≤idx c∧ja s c∧gP s (idx c+1)=gP s m+1∧(∀ w,tB s (idx c+1) w↔tB s m w∨PR s c w)∧∀ w,PR t c w↔PR s c w:=by
  have hcs:=(ht c).1 hc
  have hm:m≤idx c:=by
    rcases Nat.lt_or_ge (idx c) m with h |h
    · exact absurd ⟨c,hcs.1,h,.root⟩ hcs.2
    · exact h
  have hbel:∀ d,aP s d=true→idx d<idx c→tB s m d:=by
    intro d hd hlt
    rcases Classical.em (tB s m d)with h |h
    · exact h
    · have:=hmin d ((ht d).2 ⟨hd,h⟩);omega
  have hroot:ja s c:=by
    intro d hd hlt hr
    obtain⟨e,he,hem,her⟩:=hbel d hd hlt
    exact hcs.2 ⟨e,he,hem,her.trans hr⟩
  refine⟨hm,hroot,?_,fun w=> ?_,fun w=> ?_⟩
  · unfold gP
    refine BI (ot s) (dh.2 hcs.1) _ _ (by simp;omega) (by simp [hroot]) fun d hd hne=> ?_
    rw[decide_eq_decide]
    have hds:=dh.1 hd
    constructor
    · rintro⟨h1,h2⟩;exact⟨by omega,h2⟩
    · rintro⟨h1,h2⟩
      refine⟨?_,h2⟩
      rcases Nat.lt_or_ge (idx d) m with h3 |h3
      · exact h3
      · have hlt:idx d<idx c:=by
          rcases Nat.lt_or_ge (idx d) (idx c)with h4 |h4
          · exact h4
          · exact absurd (gx (bN hds) (bN hcs.1) (by omega)) hne
        obtain⟨e,he,hem,her⟩:=hbel d hds hlt
        exact absurd her (h2 e he (by omega))
  · constructor
    · rintro⟨d,hd,hlt,hr⟩
      rcases Nat.lt_or_ge (idx d) (idx c)with h4 |h4
      · obtain⟨e,he,hem,her⟩:=hbel d hd h4
        exact .inl ⟨e,he,hem,her.trans hr⟩
      · rw[gx (bN hd) (bN hcs.1) (by omega)]at hr;exact .inr hr
    · rintro(⟨d,hd,hlt,hr⟩ |hr)
      · exact⟨d,hd,by omega,hr⟩
      · exact⟨c,hcs.1,by omega,hr⟩
  · constructor
    · intro h
      induction h with
      | root=>exact .root
      | step p q _ hq hok ih=>exact .step p q ih hq ((ht q).1 hok).1
    · intro h
      induction h with
      | root=>exact .root
      | step p q hp hq hok ih=>
        refine .step p q ih hq ((ht q).2 ⟨hok,?_⟩)
        rintro⟨d,hd,hlt,hr⟩
        have h1:PR s q c:=PR.symm hcs.1 (.step p q hp hq hok)
        exact hcs.2 ⟨d,hd,hlt,hr.trans h1⟩
theorem Cd {s t m:Nat} (ht:∀ w,aP t w=true↔aP s w=true∧¬tB s m w) (h0:t=0):gP s m=fV s:=by
 unfold fV gP
 congr 1
 refine List.filter_congr fun d hd=> ?_
 have hds:=dh.1 hd
 rw[decide_eq_decide]
 constructor
 ·rintro⟨_,h2⟩;exact⟨cn (bN hds),h2⟩
 ·rintro⟨_,h2⟩
  refine⟨?_,h2⟩
  have hnt:¬aP t d=true:=by rw[h0];unfold aP;simp
  rw[ht]at hnt
  have:tB s m d:=Classical.not_not.1 fun h=>hnt ⟨hds,h⟩
  obtain⟨e,he,hem,her⟩:=this
  rcases Nat.lt_or_ge (idx d) m with h3 |h3
  ·exact h3
  ·exact absurd her (h2 e he (by omega))
theorem zS {s:Nat} {c:Cel} (hc:aP s c=true):(gC (aj (nB s c)) 0=c↔ja s c)∧0<(aj (nB s c)).length:=by
 have hcc:c∈aj (nB s c):=dh.2 ((ol hc).2 .root)
 have hpos:0<(aj (nB s c)).length:=List.length_pos_of_mem hcc
 refine⟨⟨fun h d hd hlt hr=> ?_,fun h=> ?_⟩,hpos⟩
 ·have hdc:d∈aj (nB s c):=dh.2 ((ol hc).2 (PR.symm hd hr))
  obtain⟨j,hj,e⟩:=List.getElem_of_mem hdc
  rw[←jO hj]at e
  rcases Nat.eq_zero_or_pos j with rfl |hp
  ·rw[h]at e;subst e;omega
  ·have:=jX (s:=nB s c) hp hj
   rw[h,e]at this;omega
 ·have h0:PR s c (gC (aj (nB s c)) 0):=(ol hc).1 (dh.1 (kR hpos))
  have hs0:=PR.has hc h0
  obtain⟨j,hj,e⟩:=List.getElem_of_mem hcc
  rw[←jO hj]at e
  rcases Nat.eq_zero_or_pos j with rfl |hp
  ·exact e
  ·have:=jX (s:=nB s c) hp hj
   rw[e]at this
   exact absurd (PR.symm hc h0) (h _ hs0 this)
open Classical in
noncomputable def cu (l:List Int):Bool:=aU l&&(decide (fV (ag l)=1)&&(decide (ii (ag l)=1)&& !rz (ag l)))
theorem dD {l:List Int} (h:cu l=true):aU l=true∧fV (ag l)=1∧ii (ag l)=1∧rz (ag l)=false:=by
 unfold cu at h;simp only[Bool.and_eq_true,decide_eq_true_eq,Bool.not_eq_true']at h;exact h
theorem qm {l:List Int} (h:cu l=true):ag l≠0:=by
  intro h0
  have:=(dD h).2.1
  rw[h0]at this
  unfold fV gP at this
  have e:aj 0=[]:=by
    cases h1:aj 0 with
    | nil=>rfl
    | cons c r=>
      have h2:c∈aj 0:=by rw[h1];simp
      have:=dh.1 h2
      unfold aP at this;simp at this
  rw[e]at this;simp at this
def aL (t:Nat):Int × Int:=if t=0 then(1,0)else if t=1 then(-1,0)else if t=2 then(0,1)else(0, -1)
def uF (t:Nat):Int × Int:=if t=0 then(1,0)else if t=1 then(0,1)else if t=2 then(-1,0)else(0, -1)
def inD (u:Nat) (d:Int × Int):Bool:=inB (cX u+d.1) 0 8&&inB (cY u+d.2) 0 8
def atU (u:Nat) (d:Int × Int):Nat:=((cY u+d.2)*9+(cX u+d.1)).toNat
def wG (dir:Nat→Int × Int) (u t:Nat):List Nat:=((List.range t).filter (fun j=>inD u (dir j))).map (fun j=>atU u (dir j))
def hnb (dir:Nat→Int × Int) (u:Nat):List Nat:=wG dir u 4
theorem Ad {dir:Nat→Int × Int} {u t:Nat} (h:inD u (dir t)=true):wG dir u (t+1)=wG dir u t++[atU u (dir t)]:=by
 unfold wG;rw[List.range_succ,List.filter_append,List.map_append];simp [h]
theorem JT {dir:Nat→Int × Int} {u t:Nat} (h:inD u (dir t)=false):wG dir u (t+1)=wG dir u t:=by
 unfold wG;rw[List.range_succ,List.filter_append,List.map_append];simp [h]
theorem uj {dir:Nat→Int × Int} {u w:Nat}:w∈hnb dir u↔∃ t,t<4∧inD u (dir t)=true∧w=atU u (dir t):=by
 unfold hnb wG
 rw[List.mem_map]
 constructor
 ·rintro⟨t,ht,rfl⟩;rw[List.mem_filter,List.mem_range]at ht;exact⟨t,ht.1,ht.2,rfl⟩
 ·rintro⟨t,h1,h2,rfl⟩;exact⟨t,List.mem_filter.2 ⟨by simpa using h1,h2⟩,rfl⟩
theorem zJ:(∀ t,t<4→∃ t',t'<4∧uF t'=aL t)∧(∀ t,t<4→∃ t',t'<4∧aL t'=uF t):=by
 constructor<;>(intro t ht;have:t=0∨t=1∨t=2∨t=3:=by omega)
 ·rcases this with rfl |rfl |rfl |rfl
  ·exact⟨0,by decide,rfl⟩
  ·exact⟨2,by decide,rfl⟩
  ·exact⟨1,by decide,rfl⟩
  ·exact⟨3,by decide,rfl⟩
 ·rcases this with rfl |rfl |rfl |rfl
  ·exact⟨0,by decide,rfl⟩
  ·exact⟨2,by decide,rfl⟩
  ·exact⟨1,by decide,rfl⟩
  ·exact⟨3,by decide,rfl⟩
theorem Ae (u w:Nat):w∈hnb uF u↔w∈hnb aL u:=by
 rw[uj,uj]
 constructor
 ·rintro⟨t,h1,h2,h3⟩
  obtain⟨t',h4,h5⟩:=zJ.2 t h1
  exact⟨t',h4,by rw[h5];exact h2,by rw[h5];exact h3⟩
 ·rintro⟨t,h1,h2,h3⟩
  obtain⟨t',h4,h5⟩:=zJ.1 t h1
  exact⟨t',h4,by rw[h5];exact h2,by rw[h5];exact h3⟩
theorem tf {α:Type} {nb nb':α→List α} {ok:α→α→Bool} (h:∀ u w,w∈nb u→w∈nb' u) {a x:α} (hx:GReach nb ok a x):GReach nb' ok a x:=by
 induction hx with
 | root=>exact .root
 | step p q _ hq hok ih=>exact .step p q ih (h p q hq) hok
theorem Jz (t:Nat):(aL t=(1,0)∨aL t=(-1,0)∨aL t=(0,1)∨aL t=(0, -1))∧(uF t=(1,0)∨uF t=(-1,0)∨uF t=(0,1)∨uF t=(0, -1)):=by
 constructor
 ·unfold aL
  split
  ·simp
  ·split
   ·simp
   ·split<;>simp
 ·unfold uF
  split
  ·simp
  ·split
   ·simp
   ·split<;>simp
theorem pP {u:Nat} {d:Int × Int} (h:inD u d=true):atU u d<81∧cX (atU u d)=cX u+d.1∧cY (atU u d)=cY u+d.2:=by
 unfold inD at h
 rw[Bool.and_eq_true,bw,bw]at h
 unfold atU cX cY at*
 omega
theorem MR {dir:Nat→Int × Int} {u w:Nat} (h:w∈hnb dir u):w<81:=by
 obtain⟨t,_,h2,rfl⟩:=uj.1 h
 exact(pP h2).1
def Gf (l:List Int) (ds:List Dom) (P:Nat→Int):Prop:=∀ u v,u<81→v<81→opE (ag l) ds u v=true→P v=P u+stE u v
theorem Nk {l:List Int} {ds:List Dom} (h:ct l ds=true) (hs:cu l=true):∃ P,Gf l ds P:=by
 obtain⟨_,_,hh,ht⟩:=dD hs
 obtain⟨p,hp⟩:=vl h hh ht
 exact⟨fun u=>p (u%9+1) (u/9+1),fun u v hu hv ho=>yO hp hu hv ho⟩
open Classical in
noncomputable def potF (l:List Int) (ds:List Dom):Nat→Int:=Classical.epsilon (Gf l ds)
theorem KF {l:List Int} {ds:List Dom} (h:ct l ds=true) (hs:cu l=true):Gf l ds (potF l ds):=Classical.epsilon_spec (Nk h hs)
def stU (s:Nat):Nat:=au s/8*9+au s%8
noncomputable def dC (l:List Int) (ds:List Dom) (v:Nat):Int:=potF l ds v-potF l ds (stU (ag l))
theorem pt {l:List Int} {ds:List Dom} (h:ct l ds=true) (hs:cu l=true) {u v:Nat} (hu:u<81) (hv:v<81) (ho:opE (ag l) ds u v=true):dC l ds v=dC l ds u+stE u v:=by
 unfold dC;rw[KF h hs u v hu hv ho];omega
theorem ll (l:List Int) (ds:List Dom):dC l ds (stU (ag l))=0:=by unfold dC;omega
theorem ur (u v:Nat):stE u v=1∨stE u v= -1:=by unfold stE sg;split<;>split<;>simp
noncomputable def hsL (l:List Int) (ds:List Dom) (L:List Nat):List Int:=(List.range 81).map (fun v=>if v∈L then dC l ds v else -1000)
theorem ug (l:List Int) (ds:List Dom) (L:List Nat):(hsL l ds L).length=81:=by unfold hsL;simp
theorem uP {l:List Int} {ds:List Dom} {L:List Nat} {v:Nat} (hv:v<81):gI (hsL l ds L) v=if v∈L then dC l ds v else -1000:=by
 rw[cQ (by rw[ug];exact hv)];unfold hsL;simp
theorem Dp {l:List Int} {ds:List Dom} {L:List Nat} {v:Nat} (hv:v<81):hsL l ds (L++[v])=(hsL l ds L).set v (dC l ds v):=by
 apply List.ext_getElem
 ·simp [hsL]
 ·intro i h1 h2
  have hi:i<81:=by simpa [hsL] using h1
  rw[List.getElem_set]
  unfold hsL
  simp only[List.getElem_map,List.getElem_range,List.mem_append,List.mem_singleton]
  by_cases e:v=i
  ·subst e;simp
  ·rw[if_neg e]
   have:¬i=v:=fun h=>e h.symm
   simp [this]
theorem Ag (l:List Int) (ds:List Dom) (h:stU (ag l)<81):(List.replicate 81 (-1000)).set (stU (ag l)) 0=hsL l ds [stU (ag l)]:=by
 have e:hsL l ds []=List.replicate 81 (-1000):=by
  apply List.ext_getElem
  ·simp [hsL]
  ·intro i h1 h2;rw[List.getElem_replicate];unfold hsL;simp only[List.getElem_map,List.not_mem_nil,if_false]
 rw[show [stU (ag l)]=[]++[stU (ag l)] from rfl,Dp h,e,ll]
structure HInv (dir:Nat→Int × Int) (l:List Int) (ds:List Dom) (L:List Nat) (k:Nat):Prop where
 g:GInv (hnb dir) (opE (ag l) ds) (stU (ag l)) L k
 lt:∀ u,u∈L→u<81
 bd:∀ u,u∈L→ -((L.length:Int)-1)≤dC l ds u∧dC l ds u≤(L.length:Int)-1
theorem HInv.len {dir:Nat→Int × Int} {l:List Int} {ds:List Dom} {L:List Nat} {k:Nat} (h:HInv dir l ds L k):L.length≤81:=gy 81 L h.g.nd h.lt
theorem HInv.init (dir:Nat→Int × Int) (l:List Int) (ds:List Dom) (h:stU (ag l)<81):HInv dir l ds [stU (ag l)] 0:=
 ⟨GInv.init _ _ _,fun u hu=>by rw[List.mem_singleton]at hu;subst hu;exact h,fun u hu=>by rw[List.mem_singleton]at hu;subst hu;rw[ll];simp⟩
theorem HInv.val {dir:Nat→Int × Int} {l:List Int} {ds:List Dom} {L:List Nat} {k:Nat} (h:HInv dir l ds L k) {v:Nat} (hv:v<81):gI (hsL l ds L) v= -1000↔v∉L:=by
 rw[uP hv]
 by_cases hm:v∈L
 ·rw[if_pos hm]
  have h1:=h.bd v hm
  have h2:=h.len
  constructor
  ·intro e;omega
  ·intro h;exact absurd hm h
 ·rw[if_neg hm];simp [hm]
structure HIn (dir:Nat→Int × Int) (l:List Int) (ds:List Dom) (L:List Nat) (u t:Nat) (M:List Nat):Prop where
 eq:M=(wG dir u t).foldl (gst (opE (ag l) ds) u) L
 lt:∀ v,v∈M→v<81
 nd:M.Nodup
 le:L.length≤M.length
 bd:∀ v,v∈M→ -((M.length:Int)-1)≤dC l ds v∧dC l ds v≤(M.length:Int)-1
theorem HInv.into {dir:Nat→Int × Int} {l:List Int} {ds:List Dom} {L:List Nat} {k:Nat} (h:HInv dir l ds L k) (u:Nat):HIn dir l ds L u 0 L:=⟨rfl,h.lt,h.g.nd,Nat.le_refl _,h.bd⟩
theorem HIn.len {dir:Nat→Int × Int} {l:List Int} {ds:List Dom} {L M:List Nat} {u t:Nat} (h:HIn dir l ds L u t M):M.length≤81:=gy 81 M h.nd h.lt
theorem HIn.val {dir:Nat→Int × Int} {l:List Int} {ds:List Dom} {L M:List Nat} {u t:Nat} (h:HIn dir l ds L u t M) {v:Nat} (hv:v<81):gI (hsL l ds M) v= -1000↔v∉M:=by
 rw[uP hv]
 by_cases hm:v∈M
 ·rw[if_pos hm]
  have h1:=h.bd v hm
  have h2:=h.len
  constructor
  ·intro e;omega
  ·intro h;exact absurd hm h
 ·rw[if_neg hm];simp [hm]
theorem HIn.sub {dir:Nat→Int × Int} {l:List Int} {ds:List Dom} {L M:List Nat} {u t:Nat} (h:HIn dir l ds L u t M) {v:Nat} (hv:v∈L):v∈M:=by rw[h.eq];exact lV hv
theorem HIn.skip {dir:Nat→Int × Int} {l:List Int} {ds:List Dom} {L M:List Nat} {u t:Nat} (h:HIn dir l ds L u t M) (hn:inD u (dir t)=false∨atU u (dir t)∈M∨opE (ag l) ds u (atU u (dir t))=false):HIn dir l ds L u (t+1) M:=by
 refine⟨?_,h.lt,h.nd,h.le,h.bd⟩
 rcases Bool.eq_false_or_eq_true (inD u (dir t))with hi |hi
 ·rw[Ad hi,List.foldl_append,←h.eq]
  show M=gst _ u M _
  rw[BO]
  rcases hn with hn |hn |hn
  ·rw[hi]at hn;cases hn
  ·exact .inr hn
  ·exact .inl hn
 ·rw[JT hi];exact h.eq
theorem HIn.go {dir:Nat→Int × Int} {l:List Int} {ds:List Dom} {L M:List Nat} {u t:Nat} (h:HIn dir l ds L u t M) (ht:ct l ds=true) (hs:cu l=true) (hu:u∈L) (hi:inD u (dir t)=true) (hn:atU u (dir t)∉M) (ho:opE (ag l) ds u (atU u (dir t))=true):
  HIn dir l ds L u (t+1) (M++[atU u (dir t)])∧hsL l ds (M++[atU u (dir t)])=(hsL l ds M).set (atU u (dir t)) (gI (hsL l ds M) u+stE u (atU u (dir t))):=by
 have hu81:=h.lt u (h.sub hu)
 have hw:=(pP hi).1
 have hval:=pt ht hs hu81 hw ho
 refine⟨⟨?_,fun v hv=> ?_,?_,?_,fun v hv=> ?_⟩,?_⟩
 ·rw[Ad hi,List.foldl_append,←h.eq]
  show _=gst _ u M _
  rw[uf ho hn]
 ·rw[List.mem_append,List.mem_singleton]at hv
  rcases hv with hv |rfl
  ·exact h.lt v hv
  ·exact hw
 ·rw[List.nodup_append]
  refine⟨h.nd,by simp,fun a ha b hb=> ?_⟩
  rw[List.mem_singleton]at hb
  subst hb
  rintro rfl
  exact hn ha
 ·rw[List.length_append];have:=h.le;omega
 ·rw[List.length_append,List.length_singleton]
  rw[List.mem_append,List.mem_singleton]at hv
  rcases hv with hv |rfl
  ·have:=h.bd v hv;omega
  ·have h1:=h.bd u (h.sub hu)
   have h2:=ur u (atU u (dir t))
   omega
 ·rw[Dp hw,uP hu81,if_pos (h.sub hu),hval]
theorem HIn.out {dir:Nat→Int × Int} {l:List Int} {ds:List Dom} {L M:List Nat} {k:Nat} (h:HInv dir l ds L k) (hk:k<L.length) (hM:HIn dir l ds L L[k] 4 M):HInv dir l ds M (k+1):=by
 have e:M=grnd (hnb dir) (opE (ag l) ds) L L[k]:=hM.eq
 exact⟨by rw[e];exact h.g.next hk,hM.lt,hM.bd⟩
open Classical in
noncomputable def cj (l:List Int) (ds:List Dom):List Int:=(List.range 81).map (fun v=>if GReach (hnb aL) (opE (ag l) ds) (stU (ag l)) v then dC l ds v else -1000)
noncomputable def hts (l:List Int) (ds:List Dom):List Int:=if(cu l&&ct l ds)=true then cj l ds else []
theorem yw {dir:Nat→Int × Int} {l:List Int} {ds:List Dom} {L:List Nat} {k:Nat} (hd:dir=aL∨dir=uF) (h:HInv dir l ds L k) (hk:¬k<L.length):hsL l ds L=cj l ds:=by
 unfold hsL cj
 refine List.map_congr_left fun v _=> ?_
 have h1:=h.g.done hk v
 have h2:v∈L↔GReach (hnb aL) (opE (ag l) ds) (stU (ag l)) v:=by
  rw[h1]
  rcases hd with rfl |rfl
  ·exact Iff.rfl
  ·exact⟨tf fun u w hw=>(Ae u w).1 hw,tf fun u w hw=>(Ae u w).2 hw⟩
 by_cases hv:v∈L
 ·rw[if_pos hv,if_pos (h2.1 hv)]
 ·rw[if_neg hv,if_neg (fun h=>hv (h2.2 h))]
theorem MT {dir:Nat→Int × Int} {l:List Int} {ds:List Dom} {L:List Nat} {k:Nat} (hd:dir=aL∨dir=uF) (h:HInv dir l ds L k) (hk:¬k<L.length) {v:Nat} (hv:v<81): -1000≤gI (cj l ds) v∧gI (cj l ds) v≤80:=by
 rw[←yw hd h hk,uP hv]
 split
 ·rename_i hm
  have h1:=h.bd v hm
  have h2:=h.len
  omega
 ·omega
theorem Ac {l:List Int} {ds:List Dom} (ht:ct l ds=true) (hs:cu l=true) (h0:stU (ag l)<81):∃ L k,HInv aL l ds L k∧¬k<L.length:=by
  have round:∀ (L:List Nat) k (h:HInv aL l ds L k) (hk:k<L.length),∃ M,HInv aL l ds M (k+1):=by
    intro L k h hk
    have key:∀ t,∃ M,HIn aL l ds L L[k] t M:=by
      intro t
      induction t with
      | zero=>exact⟨L,h.into _⟩
      | succ t ih=>
        obtain⟨M,hM⟩:=ih
        by_cases hn:inD L[k] (aL t)=false∨atU L[k] (aL t)∈M∨opE (ag l) ds L[k] (atU L[k] (aL t))=false
        · exact⟨M,hM.skip hn⟩
        · simp only[not_or,Bool.not_eq_false]at hn
          exact⟨_,(hM.go ht hs (List.getElem_mem hk) hn.1 hn.2.1 hn.2.2).1⟩
    obtain⟨M,hM⟩:=key 4
    exact⟨M,hM.out h hk⟩
  have all:∀ n (L:List Nat) k,HInv aL l ds L k→81≤k+n→∃ L k,HInv aL l ds L k∧¬k<L.length:=by
    intro n
    induction n with
    | zero=>intro L k h hn;exact⟨L,k,h,by have:=h.len;omega⟩
    | succ n ih=>
      intro L k h hn
      by_cases hk:k<L.length
      · obtain⟨M,hM⟩:=round L k h hk
        exact ih M (k+1) hM (by omega)
      · exact⟨L,k,h,hk⟩
  exact all 81 _ 0 (HInv.init aL l ds h0) (by omega)
theorem zj {s:Nat} (hs:s<18446744073709551616) (h0:s≠0):stU s<81:=by
 have:=(dr hs h0).1
 unfold stU;omega
theorem cO (l:List Int) (ds:List Dom):(cj l ds).length=81:=by unfold cj;simp
theorem oK {l:List Int} {ds:List Dom} (v:Nat): -1000≤gI (hts l ds) v∧gI (hts l ds) v≤80:=by
 unfold hts
 split
 ·rename_i h
  rw[Bool.and_eq_true]at h
  rcases Nat.lt_or_ge v 81 with hv |hv
  ·obtain⟨L,k,h1,h2⟩:=Ac h.2 h.1 (zj (bb (dD h.1).1) (qm h.1))
   exact MT (.inl rfl) h1 h2 hv
  ·have:gI (cj l ds) v=0:=by unfold gI;rw[List.getD_eq_getElem?_getD,List.getElem?_eq_none (by rw[cO];exact hv)];rfl
   omega
 ·have:gI ([]:List Int) v=0:=by simp [gI]
  omega
end Cl
end Go.Proofs.YtonlghbbdcddoaaGreat
namespace Go.Proofs.YtonlghbbdcddoaaGreat
namespace Cl
open Go.ChangeShapes Go.WideShapes Go.ChangeAt Go.RowKit
theorem EZ (a b:Nat) (w:Cel):aP (andn a b) w=(aP a w&& !(aP b w)):=by
 unfold aP;rw[du];cases okc w.x w.y<;>simp
structure RIn (s:Nat) (c:Cel) (L:List Cel) (k:Nat) (M:List Cel) (j:Nat):Prop where
 eq:M=((nbs (gC L k)).take j).foldl (gst (okS s) (gC L k)) L
 nd:M.Nodup
 ok:∀ x,x∈M→aP s x=true
 kl:k+1≤M.length
theorem uR {s:Nat} {c:Cel} {L:List Cel} {k:Nat} (hc:aP s c=true) (h:GInv nbs (okS s) c L k) {x:Cel} (hx:x∈L):aP s x=true:=PR.has hc (h.rc x hx)
theorem RIn.zero {s:Nat} {c:Cel} {L:List Cel} {k:Nat} (hc:aP s c=true) (h:GInv nbs (okS s) c L k) (hk:k<L.length):RIn s c L k L 0:=
 ⟨rfl,h.nd,fun x hx=>uR hc h hx,hk⟩
theorem RIn.len {s:Nat} {c:Cel} {L M:List Cel} {k j:Nat} (h:RIn s c L k M j):M.length≤64:=by
 have h1:(M.map idx).Nodup:=by
  rw[List.Nodup,List.pairwise_map]
  refine List.Pairwise.imp_of_mem (fun {a b} ha hb hab e=>hab ?_) h.nd
  exact gx (bN (h.ok a ha)) (bN (h.ok b hb)) e
 have:=gy 64 (M.map idx) h1 (fun x hx=>by
  obtain⟨d,hd,rfl⟩:=List.mem_map.1 hx
  exact cn (bN (h.ok d hd)))
 simpa using this
theorem RIn.lt {s:Nat} {c:Cel} {L M:List Cel} {k j:Nat} (h:RIn s c L k M j):fI M<18446744073709551616:=uq fun x hx=>bN (h.ok x hx)
theorem RIn.mem {s:Nat} {c:Cel} {L M:List Cel} {k j:Nat} (h:RIn s c L k M j) {w:Cel} (hw:okc w.x w.y=true):aP (fI M) w=true↔w∈M:=rm (fun x hx=>bN (h.ok x hx)) hw
theorem Ay (s:Nat) (own:Cel) (L:List Cel) {j:Nat} (hj:j<(nbs own).length):((nbs own).take (j+1)).foldl (gst (okS s) own) L=gst (okS s) own (((nbs own).take j).foldl (gst (okS s) own) L) (gC (nbs own) j):=by
 rw[List.take_succ_eq_append_getElem hj,List.foldl_append,jO hj];rfl
theorem RIn.yes {s:Nat} {c:Cel} {L M:List Cel} {k j:Nat} (h:RIn s c L k M j) (hj:j<(nbs (gC L k)).length) (h1:aP s (gC (nbs (gC L k)) j)=true) (h2:aP (fI M) (gC (nbs (gC L k)) j)=false):RIn s c L k (M++[gC (nbs (gC L k)) j]) (j+1):=by
 have hn:gC (nbs (gC L k)) j∉M:=fun hm=>by
  rw[(h.mem (bN h1)).2 hm]at h2;cases h2
 refine⟨?_,?_,fun x hx=> ?_,by rw[List.length_append];have:=h.kl;omega⟩
 ·rw[Ay s _ L hj,←h.eq,uf (ok:=okS s) (show okS s _ _=true from h1) hn]
 ·rw[List.nodup_append]
  refine⟨h.nd,by simp,fun a ha b hb e=> ?_⟩
  rw[List.mem_singleton]at hb
  subst hb;subst e;exact hn ha
 ·rw[List.mem_append,List.mem_singleton]at hx
  rcases hx with hx |rfl
  ·exact h.ok x hx
  ·exact h1
theorem RIn.no {s:Nat} {c:Cel} {L M:List Cel} {k j:Nat} (h:RIn s c L k M j) (hj:j<(nbs (gC L k)).length) (h1:aP s (gC (nbs (gC L k)) j)=false∨aP (fI M) (gC (nbs (gC L k)) j)=true):RIn s c L k M (j+1):=by
 refine⟨?_,h.nd,h.ok,h.kl⟩
 rw[Ay s _ L hj,←h.eq,BO]
 exact h1.imp id fun h2=>(h.mem (BZ hj)).1 h2
theorem RIn.out {s:Nat} {c:Cel} {L M:List Cel} {k j:Nat} (hg:GInv nbs (okS s) c L k) (hk:k<L.length) (h:RIn s c L k M j) (hj:¬j<(nbs (gC L k)).length):GInv nbs (okS s) c M (k+1):=by
 have e:=h.eq
 rw[List.take_of_length_le (by omega)]at e
 rw[e,jO hk]
 exact hg.next hk
theorem LR {s:Nat} {c:Cel}:GInv nbs (okS s) c [c] 0:=GInv.init _ _ _
noncomputable def pcs (l:List Int) (c:Cel):List Cel:=if eJ l c=true then aj (nB (ag l) c)else []
theorem MP {l:List Int} {c:Cel} (h:eJ l c=true):aU l=true∧aP (ag l) c=true:=by
 unfold eJ at h;unfold aP;simp only[Bool.and_eq_true]at*;exact⟨h.1,h.2⟩
structure PInv (S t m:Nat):Prop where
 lt:t<18446744073709551616
 mem:∀ w,aP t w=true↔aP S w=true∧¬tB S m w
theorem PInv.zero {S:Nat} (hS:S<18446744073709551616):PInv S S 0:=⟨hS,fun w=>⟨fun h=>⟨h,fun⟨d,_,h,_⟩=>by omega⟩,fun h=>h.1⟩⟩
theorem xa {t:Nat} (ht:t<18446744073709551616) (h0:t≠0):0<(aj t).length:=by
 have hf:=dr ht h0
 have hm:cN (au t)∈aj t:=dh.2 (by unfold aP;rw[fk hf.1,dF hf.1,hf.2];rfl)
 exact List.length_pos_of_mem hm
theorem EJ {t:Nat} {d:Cel} (hd:aP t d=true):idx (gC (aj t) 0)≤idx d:=by
 obtain⟨j,hj,e⟩:=List.getElem_of_mem (dh.2 hd)
 rw[←jO hj]at e
 rcases Nat.eq_zero_or_pos j with rfl |hp
 ·rw[e];exact Nat.le_refl _
 ·have:=jX (s:=t) hp hj
  rw[e]at this;omega
theorem PInv.next {S t m:Nat} (h:PInv S t m) (h0:t≠0):m≤idx (gC (aj t) 0)∧idx (gC (aj t) 0)<64∧gP S (idx (gC (aj t) 0)+1)=gP S m+1∧PInv S (andn t (nB t (gC (aj t) 0))) (idx (gC (aj t) 0)+1):=by
 have hp:=xa h.lt h0
 have hc:aP t (gC (aj t) 0)=true:=dh.1 (kR hp)
 obtain⟨h1,_,h3,h4,h5⟩:=wJ h.mem hc fun d hd=>EJ hd
 refine⟨h1,cn (bN hc),h3,dQ h.lt,fun w=> ?_⟩
 rw[EZ,Bool.and_eq_true,Bool.not_eq_true',h.mem w,h4 w]
 have h6:aP (nB t (gC (aj t) 0)) w=false↔¬PR S (gC (aj t) 0) w:=by
  rw[←h5 w,←ol hc];simp
 rw[h6]
 constructor
 ·rintro⟨⟨a,b⟩,c⟩;exact⟨a,fun q=>q.elim b c⟩
 ·rintro⟨a,b⟩;exact⟨⟨a,fun q=>b (.inl q)⟩,fun q=>b (.inr q)⟩
open Classical in
noncomputable def vR (S:Nat) (c:Cel):Bool:=decide (ja S c)
theorem Fl (S:Nat):fV S=((aj S).filter (vR S)).length:=by
 unfold fV gP
 congr 1
 refine List.filter_congr fun c hc=> ?_
 unfold vR
 rw[decide_eq_decide]
 exact⟨fun h=>h.2,fun h=>⟨cn (bN (dh.1 hc)),h⟩⟩
noncomputable def pcN (l:List Int):Nat:=if aU l=true then fV (ag l)else 0
theorem Nj {l:List Int} (h:aU l=false):pcN l=0:=by unfold pcN;rw[h];rfl
theorem yX {l:List Int} (h:aU l=true):pcN l=fV (ag l):=by unfold pcN;rw[if_pos h]
theorem Ni (l:List Int):pcN l=((cellsOf l).filter (vR (ag l))).length:=by
 unfold pcN cellsOf;split
 ·exact Fl _
 ·rfl
theorem Gs {l:List Int} {k:Nat} (h:k<(cellsOf l).length):eJ l (gC (cellsOf l) k)=true∧aP (ag l) (gC (cellsOf l) k)=true:=by
 have h1:=kR h
 have hr:aU l=true:=by
  rcases Bool.eq_false_or_eq_true (aU l)with hr |hr
  ·exact hr
  ·unfold cellsOf at h;rw[if_neg (by rw[hr];simp)]at h;simp at h
 have h2:aP (ag l) (gC (cellsOf l) k)=true:=by
  unfold cellsOf at h1⊢
  rw[if_pos hr]at h1⊢
  exact dh.1 h1
 refine⟨?_,h2⟩
 unfold eJ;unfold aP at h2;rw[hr,h2];rfl
theorem Fj {l:List Int} {k:Nat} (h:k<(cellsOf l).length):0<(pcs l (gC (cellsOf l) k)).length∧∀ b:Bool,(decide (gC (pcs l (gC (cellsOf l) k)) 0=gC (cellsOf l) k)=b)→vR (ag l) (gC (cellsOf l) k)=b:=by
 obtain⟨h1,h2⟩:=Gs h
 obtain⟨h3,h4⟩:=zS h2
 unfold pcs;rw[if_pos h1]
 refine⟨h4,fun b hb=> ?_⟩
 unfold vR;rw[←hb,decide_eq_decide];exact h3.symm
theorem qd:(Tryz.prog.info? 67).map (·.size)=some 2:=by kernel_rfl
theorem es:TI Tryz.prog 67 true 2:=⟨⟨_,Tryz.underlying67,rfl⟩,by kernel_rfl⟩
theorem gh:Tryz.prog.underlying 63=some (.slice 67):=Tryz.underlying63
theorem ld:ZI Tryz.prog 67 (.agg #[.int .i64 0,.int .i64 0]) 2 16:=by unfold ZI;kernel_rfl
theorem pZ (s:Nat) (c:Cel) (hs:s<18446744073709551616) (hc:aP s c=true):Fn Tryz.prog 92 [.a (.val (.int .u64 ((s:Nat):Int))),.agg ([vI c.x,vI c.y].map A.val)] [.val (.int .u64 (((nB s c):Nat):Int))]:=by
 have hcx:=bN hc
 refine aN (N:=47) Tryz.func92 rfl (by kernel_rfl) rfl (Nat.le_of_ble_eq_true rfl) [3,7,9,11,13,15,23,24,31,35,40,43,44] (dB rfl) (fun W=> ?_)
 show Wp _ _ _ [kU 0 ((s:Nat):Int),kV 1 (V.av [vI c.x,vI c.y]),kF 3,kF 7,kF 9,kF 11,kF 13,kF 15,kF 23,kF 24,kF 31,kF 35,kF 40,kF 43,kF 44]
 refine sq (rg ?_)
 refine z ?_ (h:=fun Z=>aM (h:=3) Z xt (by exact ob1 rfl))
 refine zk (nl (sq (cg ?_)))
 refine zd ?_ (h:=fun Z=>aa (xs:=[vI c.x,vI c.y].map A.val) Z es rfl (by decide) rfl)
 refine zd ?_ (h:=fun Z=>ah Z (fT 0 c (by omega) (by omega)) (ac (ArgV.v vc) (ac (ArgV.va va) an)) rv)
 refine zd ?_ (h:=fun Z=>aa (xs:=[vI c.x,vI c.y].map A.val) Z es rfl (by decide) rfl)
 refine zd ?_ (h:=fun Z=>aR (h:=13) (xs:=csl ([c]:List Cel)) Z gh ld (.cons va OpVs.nil) (by decide) (by decide) (by kernel_rfl) rfl)
 refine zd ?_ (h:=fun Z=>gt Z)
 refine zd ?_ (h:=fun Z=>gt Z)
 refine bJ (sq (bkk ?_))
 refine bf (fun((k,off,L,Lw):Nat × Nat × (List Cel) × (List Cel))=>off≤Lw.length∧Lw.drop off=L.drop k∧GInv nbs (okS s) c L k) (fun((k,off,L,Lw):Nat × Nat × (List Cel) × (List Cel))=>[kU 0 ((s:Nat):Int),kU 5 (((fI L):Nat):Int),kS 6 13 off (Lw.length-off),kO 13 67 2 false (pl (csl Lw)),kF 3,kF 7,kF 9,kF 11,kF 15,kF 23,kF 24,kF 31,kF 35,kF 40,kF 43,kF 44]) (fun((k,off,L,Lw):Nat × Nat × (List Cel) × (List Cel))=>64-k) ((0:Nat),(0:Nat),([c]:List Cel),([c]:List Cel)) (by exact⟨Nat.zero_le _,rfl,LR⟩) (wkf id (wS<|wE (e:=(aO (by rfl)))<|wE (e:=(vsl (by rfl) rfl))<|wO (e:=vN (fun h=>by cases h))<|by(iterate 12 refine wF ?_);exact wN)) ?_
 rintro⟨k,off,L,Lw⟩ inv1
 replace inv1:off≤Lw.length∧Lw.drop off=L.drop k∧GInv nbs (okS s) c L k:=inv1
 obtain⟨inv1_0,inv1_1,inv1_2⟩:=inv1
 have hg:GInv nbs (okS s) c L k:=by assumption
 have hgl:=zZ hc hg
 have hlt:fI L<18446744073709551616:=uq fun x hx=>bN (uR hc hg hx)
 refine sq (sq (rg (zm ?_)))
 refine z ?_ (h:=fun Z=>lnS Z gh)
 refine z ?_ (h:=fun Z=>ab Z vt vc (oi rfl))
 refine nl ?_
 refine wi (fun c2=> ?_) (fun c2=> ?_)
 ·skip
  have c2P:=of_decide_eq_true c2
  have hdg:=GH (L:=Lw) (M:=L) (i:=off) (j:=k) (by assumption) (by omega)
  obtain⟨hk2,hown⟩:=hdg
  have hR0:=RIn.zero hc hg hk2
  refine sk (bkk (sq (rg (zm ?_))))
  refine z ?_ (h:=fun Z=>ixz Z gh qd vc (by omega))
  refine z ?_ (h:=fun Z=>lC Z es (by omega))
  refine z ?_ (h:=fun Z=>aF (h:=7) (cap:=1) (s:=2) (cells:=[aI 0,aI 0]) Z ld rfl rfl (by decide))
  refine z ?_ (h:=fun _=>aw (cells:=[aI ((gC Lw off).x),aI ((gC Lw off).y)]) es xt (by exact rfl) (by decide) (by exact ob1 rfl) (by exact Nat.le_of_ble_eq_true rfl) (by exact rfl))
  refine nl (sq (rg (zm ?_)))
  refine z ?_ (h:=fun Z=>slS (m:=((Lw.length-off)-1)) (off':=(off+1)) Z gh qd (OpB.so _ 1 vc rfl) (OpB.no _) (by omega) (by omega) (by exact rfl) (by omega))
  refine za (nl (sq (rg ?_)))
  refine z ?_ (h:=fun Z=>aa (xs:=[vI ((gC Lw off).x),vI ((gC Lw off).y)].map A.val) Z es rfl (by decide) rfl)
  refine z ?_ (h:=fun Z=>ah Z (pv (gC Lw off) ) (ac (ArgV.va va) an) (ResV.row _ _ _ _ 23))
  refine z ?_ (h:=fun Z=>lnS Z gh)
  refine z ?_ (h:=fun Z=>mc Z)
  refine nl (bkk ?_)
  refine bf (fun((j,off2,M,Lw2):Nat × Nat × (List Cel) × (List Cel))=>off2≤Lw2.length∧Lw2.drop off2=M.drop (k+1)∧j≤(nbs (gC L k)).length∧RIn s c L k M j) (fun((j,off2,M,Lw2):Nat × Nat × (List Cel) × (List Cel))=>[kU 0 ((s:Nat):Int),kU 5 (((fI M):Nat):Int),kS 6 13 off2 (Lw2.length-off2),kS 23 23 0 ((nbs (gC Lw off)).length),kI 24 (((nbs (gC Lw off)).length:Nat):Int),kI 25 ((j:Nat):Int),kO 13 67 2 false (pl (csl Lw2)),kO 23 67 2 true (pl (csl (nbs (gC Lw off)))),kF 3,kF 7,kF 9,kF 11,kF 15,kF 24,kF 31,kF 35,kF 40,kF 43,kF 44]) (fun((j,off2,M,Lw2):Nat × Nat × (List Cel) × (List Cel))=>(nbs (gC L k)).length-j) ((0:Nat),((off+1):Nat),(L:List Cel),(Lw:List Cel)) (by exact⟨by omega,xe (by assumption),Nat.zero_le _,hR0⟩) (wkf id (wS<|wS<|wE (e:=(vsl (by rfl) rfl))<|wS<|wS<|wE (e:=(aO (by rfl)))<|wP<|wP<|by(iterate 11 refine wF ?_);exact wN)) ?_
  rintro⟨j,off2,M,Lw2⟩ inv3
  replace inv3:off2≤Lw2.length∧Lw2.drop off2=M.drop (k+1)∧j≤(nbs (gC L k)).length∧RIn s c L k M j:=inv3
  obtain⟨inv3_0,inv3_1,inv3_2,inv3_3⟩:=inv3
  have hR:RIn s c L k M j:=by assumption
  have hml:=hR.len
  have hmlt:=hR.lt
  have hkl:=hR.kl
  have hdr3:Lw2.drop off2=M.drop (k+1):=by assumption
  have hdl3:=congrArg List.length hdr3
  simp only[List.length_drop]at hdl3
  have hn4:=Dz (gC Lw off)
  have hje:(nbs (gC Lw off)).length=(nbs (gC L k)).length:=by rw[hown]
  refine sq (rg ?_)
  refine z ?_ (h:=fun Z=>ab Z vt vt (bP rfl))
  refine nl (sq ?_)
  refine wi (fun c4=> ?_) (fun c4=> ?_)
  ·skip
   have c4P:=of_decide_eq_true c4
   have hO:=BZ (b:=gC Lw off) (k:=j) (by omega)
   refine sk (sq (bkk (sq (rg ?_))))
   refine z ?_ (h:=fun Z=>ix0 Z gh qd vt (hlt:=(by omega)))
   refine z ?_ (h:=fun Z=>lC Z es (by omega))
   refine z ?_ (h:=fun Z=>aF (h:=9) (cap:=1) (s:=2) (cells:=[aI 0,aI 0]) Z ld rfl rfl (by decide))
   refine z ?_ (h:=fun _=>aw (cells:=[aI ((gC (nbs (gC Lw off)) j).x),aI ((gC (nbs (gC Lw off)) j).y)]) es xt (by exact rfl) (by decide) (by exact ob1 rfl) (by exact Nat.le_of_ble_eq_true rfl) (by exact rfl))
   refine nl (sq ?_)
   rcases Bool.eq_false_or_eq_true ((aP s (gC (nbs (gC Lw off)) j)))with c5 |c5
   ·skip
    refine rg (zm ?_)
    refine z ?_ (h:=fun Z=>aa (xs:=[vI ((gC (nbs (gC Lw off)) j).x),vI ((gC (nbs (gC Lw off)) j).y)].map A.val) Z es rfl (by decide) rfl)
    refine z ?_ (h:=fun Z=>ah Z (bc s (gC (nbs (gC Lw off)) j) (by omega)) (ac (ArgV.v vt) (ac (ArgV.va va) an)) (aH (congrArg Value.bool c5)))
    refine zm ?_
    refine zg ?_ (h:=fun Z=>ae rfl rfl (mt Z))
    refine zg ?_ (h:=fun Z=>ae rfl rfl (aa (xs:=[vI ((gC (nbs (gC Lw off)) j).x),vI ((gC (nbs (gC Lw off)) j).y)].map A.val) Z es rfl (by decide) rfl))
    refine zg ?_ (h:=fun Z=>ae rfl rfl (ah Z (bc (fI M) (gC (nbs (gC Lw off)) j) (by omega)) (ac (ArgV.v vt) (ac (ArgV.va va) an)) rv))
    refine zg ?_ (h:=fun Z=>ae rfl rfl (aK Z vt (bE rfl)))
    refine z ?_ (h:=fun Z=>al Z vt xt)
    refine nl ?_
    refine wi (b:=(!(aP (fI M) (gC (nbs (gC Lw off)) j)))) (fun c6=> ?_) (fun c6=> ?_)
    ·skip
     have c7:(aP (fI M) (gC (nbs (gC Lw off)) j))=false:=by first |(rw[←Bool.not_eq_true'];exact c6) |simpa using c6
     refine sq (rg (zm ?_))
     refine z ?_ (h:=fun Z=>aa (xs:=[vI ((gC (nbs (gC Lw off)) j).x),vI ((gC (nbs (gC Lw off)) j).y)].map A.val) Z es rfl (by decide) rfl)
     refine z ?_ (h:=fun Z=>ah Z (fT (fI M) (gC (nbs (gC Lw off)) j) (by omega) (by omega)) (ac (ArgV.v vt) (ac (ArgV.va va) an)) rv)
     refine za (nl (rg (zm ?_)))
     refine z ?_ (h:=fun Z=>aa (xs:=[vI ((gC (nbs (gC Lw off)) j).x),vI ((gC (nbs (gC Lw off)) j).y)].map A.val) Z es rfl (by decide) rfl)
     refine z ?_ (h:=fun Z=>aR (h:=43) (xs:=csl ([(gC (nbs (gC Lw off)) j)]:List Cel)) Z gh ld (.cons va OpVs.nil) (by decide) (by decide) (by kernel_rfl) rfl)
     refine z ?_ (h:=fun Z=>wu (h2:=44) (m:=1) (nm:=((Lw2.drop off2++[(gC (nbs (gC Lw off)) j)]).length)) (X:= .sl 43 0 1) (L:=Lw2) (L2:=[(gC (nbs (gC Lw off)) j)]) Z gh ld (by omega) xt (ry (h:=43) (T:=67) (s:=2) (ex:=true) (n:=1) (by exact qE _)) (by omega) (by(simp;done)))
     refine za (nl (rg ?_))
     refine z ?_ (h:=fun Z=>ab Z vt vc (rA (by omega) (by omega)))
     refine zm (nl ?_)
     exact ar ((j+1),0,(M++[(gC (nbs (gC Lw off)) j)]),(Lw2.drop off2++[(gC (nbs (gC Lw off)) j)])) (by(refine⟨Nat.zero_le _,zN (by assumption) (by assumption) _,by omega,?_⟩;rw[hown]at*;exact hR.yes (by omega) (by assumption) (by assumption))) (by show(nbs (gC L k)).length-(j+1)<(nbs (gC L k)).length-j;omega) (wkf (bn [(13,44)]) (wS<|wE (e:=(aO (by(rw[Bj];done))))<|wE (e:=(vsl (by rfl) rfl))<|wS<|wS<|wE (e:=(aO (by rfl)))<|wP<|wP<|by(iterate 11 refine wF ?_);exact wN))
    ·skip
     have c8:(aP (fI M) (gC (nbs (gC Lw off)) j))=true:=by first |(rw[←Bool.not_eq_false'];exact c6) |simpa using c6
     refine sk (rg ?_)
     refine z ?_ (h:=fun Z=>ab Z vt vc (rA (by omega) (by omega)))
     refine zm (nl ?_)
     exact ar ((j+1),off2,M,Lw2) (by(refine⟨by assumption,by assumption,by omega,?_⟩;rw[hown]at*;first |exact hR.no (by omega) (.inl (by assumption)) |exact hR.no (by omega) (.inr (by assumption)))) (by show(nbs (gC L k)).length-(j+1)<(nbs (gC L k)).length-j;omega) (wkf id (wS<|wS<|wS<|wS<|wS<|wE (e:=(aO (by rfl)))<|wP<|wP<|by(iterate 11 refine wF ?_);exact wN))
   ·skip
    refine rg (zm ?_)
    refine z ?_ (h:=fun Z=>aa (xs:=[vI ((gC (nbs (gC Lw off)) j).x),vI ((gC (nbs (gC Lw off)) j).y)].map A.val) Z es rfl (by decide) rfl)
    refine z ?_ (h:=fun Z=>ah Z (bc s (gC (nbs (gC Lw off)) j) (by omega)) (ac (ArgV.v vt) (ac (ArgV.va va) an)) (aH (congrArg Value.bool c5)))
    refine zm (zo (zo (zo (zo ?_))))
    refine z ?_ (h:=fun Z=>ao Z vt xc)
    refine nl (wf (sk (rg ?_)))
    refine z ?_ (h:=fun Z=>ab Z vt vc (rA (by omega) (by omega)))
    refine zm (nl ?_)
    exact ar ((j+1),off2,M,Lw2) (by(refine⟨by assumption,by assumption,by omega,?_⟩;rw[hown]at*;first |exact hR.no (by omega) (.inl (by assumption)) |exact hR.no (by omega) (.inr (by assumption)))) (by show(nbs (gC L k)).length-(j+1)<(nbs (gC L k)).length-j;omega) (wkf id (wS<|wS<|wS<|wS<|wS<|wE (e:=(aO (by rfl)))<|wP<|wP<|by(iterate 11 refine wF ?_);exact wN))
  ·skip
   have c4P:=of_decide_eq_false c4
   refine aJ ?_
   exact Exists.intro ((k+1),off2,M,Lw2) (And.intro (by exact⟨by assumption,by assumption,RIn.out hg hk2 hR (by omega)⟩) (And.intro (by show 64-(k+1)<64-k;omega) (wkf id (wS<|wS<|wS<|wP<|by(iterate 12 refine wF ?_);exact wN))))
 ·skip
  have c2P:=of_decide_eq_false c2
  have hend:=xf (L:=Lw) (M:=L) (i:=off) (j:=k) (by assumption) (by assumption)
  refine aJ (sq (rg (zm (za (nl (aq ?_))))))
  exact VRes.tmp _ _ _ (by exact rfl) (cc (congrArg (Value.int .u64) (by rw[DL hc hg hend])))
end Cl
end Go.Proofs.YtonlghbbdcddoaaGreat
namespace Go.Proofs.YtonlghbbdcddoaaGreat
namespace Cl
open Go.ChangeShapes Go.WideShapes Go.ChangeAt Go.RowKit
theorem Ck:Tryz.prog.eqGuardType Tryz.prog.depth 67=false:=by kernel_rfl
theorem oX:(Tryz.prog.info? 4).map (·.size)=some 1:=by kernel_rfl
theorem fe:(Tryz.prog.info? 67).map (·.size)=some 2:=by kernel_rfl
theorem il:TI Tryz.prog 26 true 1:=⟨⟨_,Tryz.underlying26,rfl⟩,by kernel_rfl⟩
theorem oY:TI Tryz.prog 4 false 1:=⟨⟨_,Tryz.underlying4,rfl⟩,by kernel_rfl⟩
theorem dA:TI Tryz.prog 67 true 2:=⟨⟨_,Tryz.underlying67,rfl⟩,by kernel_rfl⟩
theorem cJ:Tryz.prog.underlying 63=some (.slice 67):=Tryz.underlying63
theorem jl:Tryz.prog.underlying 70=some (.slice 4):=Tryz.underlying70
theorem Fp:ZI Tryz.prog 4 (.bool false) 1 1:=by unfold ZI;kernel_rfl
theorem io:ZI Tryz.prog 67 (.agg #[.int .i64 0,.int .i64 0]) 2 16:=by unfold ZI;kernel_rfl
theorem tV (l:List Int) (c:Cel) (hl:l.length≤4194304):Fn Tryz.prog 100 [.agg [(.slv l.length 1 (isl l):A)],.agg ([vI c.x,vI c.y].map A.val)] [.row 67 2 (pcs l c).length (csl (pcs l c))]:=by
 refine aN (N:=95) Tryz.func100 rfl (by kernel_rfl) rfl (Nat.le_of_ble_eq_true rfl) [2,3,12,14,17,20,23,26,29,37,40,49,56,66,73,74,77,87,92,93] (dB rfl) (fun W=> ?_)
 show Wp _ _ _ [kV 0 (V.b (.agg [(.slv l.length 1 (isl l):A)])),kV 1 (V.av [vI c.x,vI c.y]),kF 2,kF 3,kF 12,kF 14,kF 17,kF 20,kF 23,kF 26,kF 29,kF 37,kF 40,kF 49,kF 56,kF 66,kF 73,kF 74,kF 77,kF 87,kF 92,kF 93]
 refine sq (rg ?_)
 refine z ?_ (h:=fun Z=>aM (h:=2) Z xt (by exact ob1 rfl))
 refine z ?_ (h:=fun Z=>aM (h:=3) Z xt (by exact ob1 rfl))
 refine zk (nl (sq (rg ?_)))
 refine z ?_ (h:=fun Z=>b0C (h:=14) Z cJ io)
 refine za (nl (sq (sq (rg ?_))))
 refine z ?_ (h:=fun Z=>aa (xs:=[(.slv l.length 1 (isl l):A)]) Z il rfl (by decide) rfl)
 refine z ?_ (h:=fun Z=>aa (xs:=[vI c.x,vI c.y].map A.val) Z dA rfl (by decide) rfl)
 refine z ?_ (h:=fun Z=>ah Z (cB l c (by omega)) (ac (ArgV.regv _ _ 1 _) (ac (ArgV.va va) an)) rv)
 refine z ?_ (h:=fun Z=>aK Z vt (bE rfl))
 refine nl ?_
 refine wi (b:=(!(eJ l c))) (fun c1=> ?_) (fun c1=> ?_)
 ·skip
  have c2:(eJ l c)=false:=by first |(rw[←Bool.not_eq_true'];exact c1) |simpa using c1
  refine sq (rg (zm (za (nl (aq ?_)))))
  exact VRes.tmp _ _ _ (by exact rfl) (it (h:=14) (L:=[]) (by kernel_rfl) (by unfold pcs;rw[if_neg (by simp_all)]) (by rfl))
 ·skip
  have c3:(eJ l c)=true:=by first |(rw[←Bool.not_eq_false'];exact c1) |simpa using c1
  obtain⟨hro,hc⟩:=MP c3
  have hcx:=bN hc
  have hidx:=cn hcx
  refine sk (sq (rg ?_))
  refine z ?_ (h:=fun Z=>fW (h:=20) (n:=64) (xs:=bsl (List.replicate 64 false)) Z jl Fp vc vc rfl rfl (by decide) (by omega) (vd 64))
  refine za (nl (sq (rg (zm ?_))))
  refine z ?_ (h:=fun Z=>aa (xs:=[vI c.x,vI c.y].map A.val) Z dA rfl (by decide) rfl)
  refine z ?_ (h:=fun Z=>ah Z (dp c (by omega)) (ac (ArgV.va va) an) rv)
  refine z ?_ (h:=fun Z=>ix0 Z jl oX vt (hlt:=(by omega)))
  refine z ?_ (h:=fun _=>sB oY xc (by assumption))
  refine nl (sq (rg ?_))
  refine z ?_ (h:=fun Z=>aa (xs:=[vI c.x,vI c.y].map A.val) Z dA rfl (by decide) rfl)
  refine z ?_ (h:=fun Z=>aR (h:=26) (xs:=csl ([c]:List Cel)) Z cJ io (.cons va OpVs.nil) (by decide) (by decide) (by kernel_rfl) rfl)
  refine za (nl (sq (sq (rg (zk (nl (bkk ?_)))))))
  refine bf (fun((k,L):Nat × (List Cel))=>GInv nbs (okS (ag l)) c L k) (fun((k,L):Nat × (List Cel))=>[kP 2 2 0,kS 5 14 0 0,kS 6 20 0 64,kS 7 26 0 L.length,kI 8 ((k:Nat):Int),kO 2 26 1 true [(.slv l.length 1 (isl l):A)],kO 14 67 2 true (pl (csl [])),kO 20 4 1 true (pl (bsl (dP (fI L)))),kO 26 67 2 true (pl (csl L)),kF 3,kF 12,kF 17,kF 23,kF 29,kF 37,kF 40,kF 49,kF 56,kF 66,kF 73,kF 74,kF 77,kF 87,kF 92,kF 93]) (fun((k,L):Nat × (List Cel))=>64-k) ((0:Nat),([c]:List Cel)) (by exact LR) (wkf id (wS<|wS<|wS<|wE (e:=(vsl (by rfl) rfl))<|wE (e:=(aO (by rfl)))<|wX<|wP<|wO (e:=aG (fun h=>h) (congrArg bsl (by(rw[uC,oF];rfl))))<|wP<|by(iterate 16 refine wF ?_);exact wN)) ?_
  rintro⟨k,L⟩ inv4
  replace inv4:GInv nbs (okS (ag l)) c L k:=inv4
  have hg:=inv4
  have hgl:=zZ hc hg
  have hbl:=eD (fI L)
  refine sq (sq (rg (zm (zm ?_))))
  refine z ?_ (h:=fun Z=>lnS Z cJ)
  refine z ?_ (h:=fun Z=>ab Z vt vt (bP rfl))
  refine nl ?_
  refine wi (fun c5=> ?_) (fun c5=> ?_)
  ·skip
   have c5P:=of_decide_eq_true c5
   have hR0:=RIn.zero hc hg (by omega)
   have hOk:=bN (uR hc hg (kR (l:=L) (k:=k) (by omega)))
   refine sk (sq (bkk (sq (rg (zm (zm ?_))))))
   refine z ?_ (h:=fun Z=>ix0 Z cJ fe vt (hlt:=(by omega)))
   refine z ?_ (h:=fun Z=>lC Z dA (by omega))
   refine z ?_ (h:=fun Z=>ah Z (pF (gC L k) ) (ac (ArgV.va va) an) (ResV.row _ _ _ _ 37))
   refine za (nl (sq (rg (zk (nl (bkk ?_))))))
   refine bf (fun((j,M):Nat × (List Cel))=>j≤(nbs (gC L k)).length∧RIn (ag l) c L k M j) (fun((j,M):Nat × (List Cel))=>[kP 2 2 0,kS 5 14 0 0,kS 6 20 0 64,kS 7 26 0 M.length,kI 8 ((k:Nat):Int),kS 9 37 0 ((nbs (gC L k)).length),kI 10 ((j:Nat):Int),kO 2 26 1 true [(.slv l.length 1 (isl l):A)],kO 14 67 2 true (pl (csl [])),kO 20 4 1 true (pl (bsl (dP (fI M)))),kO 26 67 2 true (pl (csl M)),kO 37 67 2 true (pl (csl (nbs (gC L k)))),kF 3,kF 12,kF 17,kF 23,kF 29,kF 40,kF 49,kF 56,kF 66,kF 73,kF 74,kF 77,kF 87,kF 92,kF 93]) (fun((j,M):Nat × (List Cel))=>(nbs (gC L k)).length-j) ((0:Nat),(L:List Cel)) (by exact⟨Nat.zero_le _,hR0⟩) (wkf id (wS<|wS<|wS<|wS<|wS<|wS<|wE (e:=(aO (by rfl)))<|wX<|wP<|wP<|wP<|wP<|by(iterate 15 refine wF ?_);exact wN)) ?_
   rintro⟨j,M⟩ inv6
   replace inv6:j≤(nbs (gC L k)).length∧RIn (ag l) c L k M j:=inv6
   obtain⟨inv6_0,inv6_1⟩:=inv6
   have hR:RIn (ag l) c L k M j:=by assumption
   have hml:=hR.len
   have hkl:=hR.kl
   have hn4:=Dz (gC L k)
   have hbl2:=eD (fI M)
   refine sq (sq (rg (zm (zm ?_))))
   refine z ?_ (h:=fun Z=>lnS Z cJ)
   refine z ?_ (h:=fun Z=>ab Z vt vt (bP rfl))
   refine nl ?_
   refine wi (fun c7=> ?_) (fun c7=> ?_)
   ·skip
    have c7P:=of_decide_eq_true c7
    have hO:=BZ (b:=gC L k) (k:=j) (by omega)
    have hI:=cn hO
    refine sk (sq (bkk (sq ?_)))
    refine fj [kB 60 ((dm l (gC (nbs (gC L k)) j))&&(!(gB (dP (fI M)) (idx (gC (nbs (gC L k)) j))))),kP 2 2 0,kS 5 14 0 0,kS 6 20 0 64,kS 7 26 0 M.length,kI 8 ((k:Nat):Int),kS 9 37 0 ((nbs (gC L k)).length),kI 10 ((j:Nat):Int),kO 2 26 1 true [(.slv l.length 1 (isl l):A)],kO 14 67 2 true (pl (csl [])),kO 20 4 1 true (pl (bsl (dP (fI M)))),kO 26 67 2 true (pl (csl M)),kO 37 67 2 true (pl (csl (nbs (gC L k)))),kF 3,kF 12,kF 17,kF 23,kF 29,kF 40,kF 49,kF 56,kF 66,kF 73,kF 74,kF 77,kF 87,kF 92,kF 93] ?_ ?_
    ·skip
     rcases Bool.eq_false_or_eq_true ((dm l (gC (nbs (gC L k)) j)))with c8 |c8
     ·skip
      have hS1:aP (ag l) (gC (nbs (gC L k)) j)=true:=(nR hro hO).symm.trans c8
      refine cg ?_
      refine zd ?_ (h:=fun Z=>aa (xs:=[(.slv l.length 1 (isl l):A)]) Z il rfl (by decide) rfl)
      refine zdm (zdm ?_)
      refine zd ?_ (h:=fun Z=>ix0 Z cJ fe vt (hlt:=(by omega)))
      refine zd ?_ (h:=fun Z=>lC Z dA (by omega))
      refine zd ?_ (h:=fun Z=>ah Z (bZ l (gC (nbs (gC L k)) j) (by omega) (by omega)) (ac (ArgV.regv _ _ 1 _) (ac (ArgV.va va) an)) (aH (congrArg Value.bool c8)))
      refine zdm ?_
      refine zdg ?_ (h:=fun Z=>ae rfl rfl (mt Z))
      refine zdg ?_ (h:=fun Z=>ae rfl rfl (mt Z))
      refine zdg ?_ (h:=fun Z=>ae rfl rfl (mt Z))
      refine zdg ?_ (h:=fun Z=>ae rfl rfl (ix0 Z cJ fe vt (hlt:=(by omega))))
      refine zdg ?_ (h:=fun Z=>ae rfl rfl (lC Z dA (by omega)))
      refine zdg ?_ (h:=fun Z=>ae rfl rfl (ah Z (dp (gC (nbs (gC L k)) j) (by omega)) (ac (ArgV.va va) an) rv))
      refine zdg ?_ (h:=fun Z=>ae rfl rfl (ix0 Z jl oX vt (hlt:=(by omega))))
      refine zdg ?_ (h:=fun Z=>ae rfl rfl (lB Z oY (by omega)))
      refine zdg ?_ (h:=fun Z=>ae rfl rfl (aK Z vt (bE rfl)))
      refine zd ?_ (h:=fun Z=>al Z vt xt)
      refine bJ ?_
      exact⟨rfl,bm ⟨(by simp only[c8];first |done |kernel_rfl),(by repeat(first |exact trivial |refine⟨by kernel_rfl,?_⟩))⟩⟩
     ·skip
      have hS1:aP (ag l) (gC (nbs (gC L k)) j)=false:=(nR hro hO).symm.trans c8
      refine cg ?_
      refine zd ?_ (h:=fun Z=>aa (xs:=[(.slv l.length 1 (isl l):A)]) Z il rfl (by decide) rfl)
      refine zdm (zdm ?_)
      refine zd ?_ (h:=fun Z=>ix0 Z cJ fe vt (hlt:=(by omega)))
      refine zd ?_ (h:=fun Z=>lC Z dA (by omega))
      refine zd ?_ (h:=fun Z=>ah Z (bZ l (gC (nbs (gC L k)) j) (by omega) (by omega)) (ac (ArgV.regv _ _ 1 _) (ac (ArgV.va va) an)) (aH (congrArg Value.bool c8)))
      refine zdm ?_
      refine zdg ?_ (h:=fun Z=>am rfl rfl (by decide) rfl Z)
      refine zdg ?_ (h:=fun Z=>am rfl rfl (by decide) rfl Z)
      refine zdg ?_ (h:=fun Z=>am rfl rfl (by decide) rfl Z)
      refine zdg ?_ (h:=fun Z=>am rfl rfl (by decide) rfl Z)
      refine zdg ?_ (h:=fun Z=>am rfl rfl (by decide) rfl Z)
      refine zdg ?_ (h:=fun Z=>am rfl rfl (by decide) rfl Z)
      refine zdg ?_ (h:=fun Z=>am rfl rfl (by decide) rfl Z)
      refine zdg ?_ (h:=fun Z=>am rfl rfl (by decide) rfl Z)
      refine zdg ?_ (h:=fun Z=>am rfl rfl (by decide) rfl Z)
      refine zd ?_ (h:=fun Z=>ao Z vt xc)
      refine bJ ?_
      exact⟨rfl,bm ⟨(by simp only[c8];first |done |kernel_rfl),(by repeat(first |exact trivial |refine⟨by kernel_rfl,?_⟩))⟩⟩
    refine wi (b:=((dm l (gC (nbs (gC L k)) j))&&(!(gB (dP (fI M)) (idx (gC (nbs (gC L k)) j)))))) (fun c9=> ?_) (fun c9=> ?_)
    ·skip
     obtain⟨c10,c11⟩:=fw c9
     have hS1:aP (ag l) (gC (nbs (gC L k)) j)=true:=(nR hro hO).symm.trans c10
     have c12:(gB (dP (fI M)) (idx (gC (nbs (gC L k)) j)))=false:=by first |(rw[←Bool.not_eq_true'];exact c11) |simpa using c11
     have hS2:aP (fI M) (gC (nbs (gC L k)) j)=false:=(Dk hO).symm.trans c12
     refine sq (rg (zm (zm (zm ?_))))
     refine z ?_ (h:=fun Z=>ix0 Z cJ fe vt (hlt:=(by omega)))
     refine z ?_ (h:=fun Z=>lC Z dA (by omega))
     refine z ?_ (h:=fun Z=>ah Z (dp (gC (nbs (gC L k)) j) (by omega)) (ac (ArgV.va va) an) rv)
     refine z ?_ (h:=fun Z=>ix0 Z jl oX vt (hlt:=(by omega)))
     refine z ?_ (h:=fun _=>sB oY xc (by omega))
     refine nl (rg (zm (zm (zm ?_))))
     refine z ?_ (h:=fun Z=>ix0 Z cJ fe vt (hlt:=(by omega)))
     refine z ?_ (h:=fun Z=>lC Z dA (by omega))
     refine z ?_ (h:=fun Z=>aR (h:=73) (xs:=csl ([(gC (nbs (gC L k)) j)]:List Cel)) Z cJ io (.cons va OpVs.nil) (by decide) (by decide) (by kernel_rfl) rfl)
     refine z ?_ (h:=fun Z=>aC_ (h2:=74) (L3:=(M++[(gC (nbs (gC L k)) j)])) Z cJ io (by exact rfl) rfl (by exact rfl) (by(simp;omega)))
     refine za (nl (rg (zm ?_)))
     refine z ?_ (h:=fun Z=>ab Z vt vc (rA (by omega) (by omega)))
     refine za (nl ?_)
     exact ar ((j+1),(M++[(gC (nbs (gC L k)) j)])) (by refine⟨by omega,?_⟩;first |exact hR.yes (by omega) (by assumption) (by assumption) |exact hR.no (by omega) hor) (by show(nbs (gC L k)).length-(j+1)<(nbs (gC L k)).length-j;omega) (wkf (bn [(26,74)]) (wS<|wS<|wS<|wS<|wS<|wS<|wE (e:=(aO (by rfl)))<|wX<|wP<|wO (e:=aG (fun h=>h) (congrArg bsl (by(rw[Bj,oF];done))))<|wP<|wP<|by(iterate 15 refine wF ?_);exact wN))
    ·skip
     have c13:=lM c9
     have hor:aP (ag l) (gC (nbs (gC L k)) j)=false∨aP (fI M) (gC (nbs (gC L k)) j)=true:=by
      rcases c13 with q |q
      · exact .inl ((nR hro hO).symm.trans q)
      · rw[Bool.not_eq_false']at q;exact .inr ((Dk hO).symm.trans q)
     refine sk (rg (zm ?_))
     refine z ?_ (h:=fun Z=>ab Z vt vc (rA (by omega) (by omega)))
     refine za (nl ?_)
     exact ar ((j+1),M) (by refine⟨by omega,?_⟩;first |exact hR.yes (by omega) (by assumption) (by assumption) |exact hR.no (by omega) hor) (by show(nbs (gC L k)).length-(j+1)<(nbs (gC L k)).length-j;omega) (wkf id (wS<|wS<|wS<|wS<|wS<|wS<|wE (e:=(aO (by rfl)))<|wX<|wP<|wP<|wP<|wP<|by(iterate 15 refine wF ?_);exact wN))
   ·skip
    have c7P:=of_decide_eq_false c7
    refine aJ (rg (zm ?_))
    refine z ?_ (h:=fun Z=>ab Z vt vc (rA (by omega) (by omega)))
    refine za (nl ?_)
    exact ar ((k+1),M) (by exact RIn.out hg (by omega) hR (by omega)) (by show 64-(k+1)<64-k;omega) (wkf id (wS<|wS<|wS<|wS<|wE (e:=(aO (by rfl)))<|wX<|wP<|wP<|wP<|by(iterate 16 refine wF ?_);exact wN))
  ·skip
   have c5P:=of_decide_eq_false c5
   refine aJ (sq (sq (rg (zk (nl (bkk ?_))))))
   refine bf (fun(m:Nat)=>m≤64) (fun(m:Nat)=>[kS 5 14 0 ((((List.range m).filter (fI L).testBit).map cN).length),kS 6 20 0 64,kI 11 ((m:Nat):Int),kO 14 67 2 true (pl (csl (((List.range m).filter (fI L).testBit).map cN))),kO 20 4 1 true (pl (bsl (dP (fI L)))),kF 2,kF 3,kF 12,kF 17,kF 23,kF 26,kF 29,kF 37,kF 40,kF 49,kF 56,kF 66,kF 73,kF 74,kF 77,kF 87,kF 92,kF 93]) (fun(m:Nat)=>64-m) ((0:Nat)) (by exact(Nat.zero_le _:0≤_)) (wkf id (wE (e:=(vsl (by rfl) rfl))<|wS<|wE (e:=(aO (by rfl)))<|wO (e:=aG (fun h=>h) (congrArg csl (by rfl)))<|wP<|by(iterate 18 refine wF ?_);exact wN)) ?_
   rintro m inv14
   replace inv14:m≤64:=inv14
   have invm:=inv14
   have hfl:=ml (fI L).testBit m
   refine sq (sq (rg (zm (zm ?_))))
   refine z ?_ (h:=fun Z=>lnS (iv:=64) Z jl)
   refine z ?_ (h:=fun Z=>ab Z vt vt (bP rfl))
   refine nl ?_
   refine wi (fun c15=> ?_) (fun c15=> ?_)
   ·skip
    have c15P:=of_decide_eq_true c15
    refine sk (sq (bkk (sq (rg (zm (zm ?_))))))
    refine z ?_ (h:=fun Z=>ix0 Z jl oX vt (hlt:=(by omega)))
    refine z ?_ (h:=fun Z=>lB Z oY (by omega))
    refine nl ?_
    refine wi (b:=(gB (dP (fI L)) m)) (fun c16=> ?_) (fun c16=> ?_)
    ·skip
     refine sq (rg (zm ?_))
     refine z ?_ (h:=fun Z=>cS Z (iW m (by omega)) (ac (ArgV.v vt) an) (ResV.agg [vI ((cN m).x),vI ((cN m).y)]) rv)
     refine zm ?_
     refine z ?_ (h:=fun Z=>az Z (by exact rfl))
     refine z ?_ (h:=fun Z=>az Z (by exact rfl))
     refine z ?_ (h:=fun Z=>aF (h:=12) (cap:=1) (s:=2) (cells:=[aI 0,aI 0]) Z io rfl rfl (by decide))
     refine z ?_ (h:=fun _=>aw (cells:=[aI ((cN m).x),aI ((cN m).y)]) dA xt (by exact rfl) (by decide) (by exact ob1 rfl) (by exact Nat.le_of_ble_eq_true rfl) (by exact rfl))
     refine za (nl (rg (zm ?_)))
     refine z ?_ (h:=fun Z=>aa (xs:=[vI ((cN m).x),vI ((cN m).y)].map A.val) Z dA rfl (by decide) rfl)
     refine z ?_ (h:=fun Z=>aR (h:=92) (xs:=csl ([(cN m)]:List Cel)) Z cJ io (.cons va OpVs.nil) (by decide) (by decide) (by kernel_rfl) rfl)
     refine z ?_ (h:=fun Z=>aC_ (h2:=93) (L3:=((((List.range m).filter (fI L).testBit).map cN)++[(cN m)])) Z cJ io (by exact rfl) rfl (by exact rfl) (by(simp at*;omega)))
     refine za (nl (rg (zm ?_)))
     refine z ?_ (h:=fun Z=>ab Z vt vc (rA (by omega) (by omega)))
     refine za (nl ?_)
     exact ar ((m+1)) (by show _≤_;omega) (by show 64-(m+1)<64-m;omega) (wkf (bn [(14,93)]) (wE (e:=(vsl (by(exact congrArg List.length (by first |rfl |exact eN ((km (by omega)).symm.trans (by assumption)) |exact fH ((km (by omega)).symm.trans (by assumption)) |omega))) rfl))<|wS<|wE (e:=(aO (by rfl)))<|wO (e:=aG (fun h=>h) (congrArg csl (by exact eN ((km (by omega)).symm.trans (by assumption)))))<|wP<|by(iterate 18 refine wF ?_);exact wN))
    ·skip
     refine sk (rg (zm ?_))
     refine z ?_ (h:=fun Z=>ab Z vt vc (rA (by omega) (by omega)))
     refine za (nl ?_)
     exact ar ((m+1)) (by show _≤_;omega) (by show 64-(m+1)<64-m;omega) (wkf id (wE (e:=(vsl (by(exact congrArg List.length (by first |rfl |exact eN ((km (by omega)).symm.trans (by assumption)) |exact fH ((km (by omega)).symm.trans (by assumption)) |omega))) rfl))<|wS<|wE (e:=(aO (by rfl)))<|wO (e:=aG (fun h=>h) (congrArg csl (by exact fH ((km (by omega)).symm.trans (by assumption)))))<|wP<|by(iterate 18 refine wF ?_);exact wN))
   ·skip
    have c15P:=of_decide_eq_false c15
    refine aJ (sq (rg (zm (za (nl (aq ?_))))))
    exact VRes.tmp _ _ _ (by exact rfl) (it (h:=14) (L:=(((List.range m).filter (fI L).testBit).map cN)) (by kernel_rfl) (by(have e:m=64:=by omega);subst e;unfold pcs;rw[if_pos (by assumption),←DL hc hg (by omega)];rfl) (by rfl))
theorem kh (l:List Int) (hl:l.length≤4194304):Fn Tryz.prog 63 [.agg [(.slv l.length 1 (isl l):A)]] [.val (.int .i64 (((pcN l):Nat):Int))]:=by
 refine aN (N:=23) Tryz.func63 rfl (by kernel_rfl) rfl (Nat.le_of_ble_eq_true rfl) [1,6,9,17,20] (dB rfl) (fun W=> ?_)
 show Wp _ _ _ [kV 0 (V.b (.agg [(.slv l.length 1 (isl l):A)])),kF 1,kF 6,kF 9,kF 17,kF 20]
 refine sq (rg ?_)
 refine z ?_ (h:=fun Z=>aM (h:=1) Z xt (by exact ob1 rfl))
 refine zk (nl (sq (sq (rg ?_))))
 refine z ?_ (h:=fun Z=>aa (xs:=[(.slv l.length 1 (isl l):A)]) Z il rfl (by decide) rfl)
 refine z ?_ (h:=fun Z=>ah Z (df l (by omega)) (ac (ArgV.regv _ _ 1 _) an) rv)
 refine z ?_ (h:=fun Z=>aK Z vt (bE rfl))
 refine nl ?_
 refine wi (b:=(!(aU l))) (fun c1=> ?_) (fun c1=> ?_)
 ·skip
  have c2:(aU l)=false:=by first |(rw[←Bool.not_eq_true'];exact c1) |simpa using c1
  refine sq (rg (zk (nl (aq ?_))))
  exact VRes.tmp _ _ _ (by exact rfl) (cc (congrArg (Value.int .i64) (by(rw[Nj (by assumption)];rfl))))
 ·skip
  have c3:(aU l)=true:=by first |(rw[←Bool.not_eq_false'];exact c1) |simpa using c1
  refine sk (sq (rg (zk (nl (sq (sq (rg ?_)))))))
  refine z ?_ (h:=fun Z=>aa (xs:=[(.slv l.length 1 (isl l):A)]) Z il rfl (by decide) rfl)
  refine z ?_ (h:=fun Z=>ah Z (cA l (by omega)) (ac (ArgV.regv _ _ 1 _) an) rv)
  refine za (nl (bkk ?_))
  refine bf (fun((t,m):Nat × Nat)=>PInv (ag l) t m) (fun((t,m):Nat × Nat)=>[kI 3 (((gP (ag l) m):Nat):Int),kU 4 ((t:Nat):Int),kF 1,kF 6,kF 9,kF 17,kF 20]) (fun((t,m):Nat × Nat)=>64-m) (((ag l):Nat),(0:Nat)) (by exact PInv.zero (bb (by assumption))) (wkf id (wE (e:=(aO (by(rw[Bh];rfl))))<|wS<|wF<|wF<|wF<|wF<|wF<|wN)) ?_
  rintro⟨t,m⟩ inv4
  replace inv4:PInv (ag l) t m:=inv4
  have hP:=inv4
  have htl:=hP.lt
  have hrl:=FI (ag l) m
  refine sq (sq (rg (zm ?_)))
  refine z ?_ (h:=fun Z=>ab Z vt vc (iZ rfl))
  refine nl ?_
  refine wi (fun c5=> ?_) (fun c5=> ?_)
  ·skip
   have c5P:=of_decide_eq_true c5
   have ht0:t≠0:=by have:=of_decide_eq_true c5;omega
   have hcp:=xa hP.lt ht0
   obtain⟨hn1,hn2,hn3,hn4⟩:=hP.next ht0
   refine sk (sq (bkk (rg (zm (zm (zm ?_))))))
   refine z ?_ (h:=fun Z=>ah Z (kY t (by omega)) (ac (ArgV.v vt) an) (ResV.row _ _ _ _ 17))
   refine z ?_ (h:=fun Z=>ix0 (k:=0) Z cJ fe vc (hlt:=(by omega)))
   refine z ?_ (h:=fun Z=>lC (k:=0) Z dA (by omega))
   refine z ?_ (h:=fun Z=>ah Z (pZ t (gC (aj t) 0) (by omega) (by exact dh.1 (kR (by assumption)))) (ac (ArgV.v vt) (ac (ArgV.va va) an)) rv)
   refine z ?_ (h:=fun Z=>ab Z vt vt (rf (c:=(((andn t (nB t (gC (aj t) 0))):Nat):Int)) (Gj (m:=t) (n:=(nB t (gC (aj t) 0))) rfl rfl (by omega) (by(first |omega |assumption |exact bb (by assumption) |exact DK _ _ |exact dh.1 (kR (by assumption)))))))
   refine za (nl (rg (zm ?_)))
   refine z ?_ (h:=fun Z=>ab Z vt vc (rA (by omega) (by omega)))
   refine za (nl ?_)
   exact ar ((andn t (nB t (gC (aj t) 0))),(idx (gC (aj t) 0)+1)) (by exact hn4) (by show 64-(idx (gC (aj t) 0)+1)<64-m;omega) (wkf id (wE (e:=(aO (by omega)))<|wS<|wF<|wF<|wF<|wF<|wF<|wN))
  ·skip
   have c5P:=of_decide_eq_false c5
   have ht0:t=0:=by have:=of_decide_eq_false c5;omega
   refine aJ (sq (rg (zm (za (nl (aq ?_))))))
   exact VRes.tmp _ _ _ (by exact rfl) (cc (congrArg (Value.int .i64) (by rw[yX (by assumption),←Cd hP.mem ht0])))
theorem gQ (l:List Int) (hl:l.length≤4194304):Fn Tryz.prog 82 [.agg [(.slv l.length 1 (isl l):A)]] [.val (.int .i64 (((pcN l):Nat):Int))]:=by
 have h64:=lq l
 refine aN (N:=30) Tryz.func82 rfl (by kernel_rfl) rfl (Nat.le_of_ble_eq_true rfl) [1,7,10,19] (dB rfl) (fun W=> ?_)
 show Wp _ _ _ [kV 0 (V.b (.agg [(.slv l.length 1 (isl l):A)])),kF 1,kF 7,kF 10,kF 19]
 refine sq (rg ?_)
 refine z ?_ (h:=fun Z=>aM (h:=1) Z xt (by exact ob1 rfl))
 refine zk (nl (sq (rg (zk (nl (sq (rg ?_)))))))
 refine z ?_ (h:=fun Z=>aa (xs:=[(.slv l.length 1 (isl l):A)]) Z il rfl (by decide) rfl)
 refine z ?_ (h:=fun Z=>ah Z (kg l (by omega)) (ac (ArgV.regv _ _ 1 _) an) (ResV.row _ _ _ _ 7))
 refine za (nl (sq (sq (rg (zk (nl (bkk ?_)))))))
 refine bf (fun(k:Nat)=>k≤(cellsOf l).length) (fun(k:Nat)=>[kP 1 1 0,kI 3 (((((cellsOf l).take k).filter (vR (ag l))).length:Nat):Int),kS 4 7 0 ((cellsOf l).length),kI 5 ((k:Nat):Int),kO 1 26 1 true [(.slv l.length 1 (isl l):A)],kO 7 67 2 true (pl (csl (cellsOf l))),kF 10,kF 19]) (fun(k:Nat)=>(cellsOf l).length-k) ((0:Nat)) (by exact(Nat.zero_le _:0≤_)) (wkf id (wS<|wE (e:=(aO (by rfl)))<|wS<|wE (e:=(aO (by rfl)))<|wX<|wP<|wF<|wF<|wN)) ?_
 rintro k inv1
 replace inv1:k≤(cellsOf l).length:=inv1
 have inv:=inv1
 have hck:=rO (vR (ag l)) (cellsOf l) k
 refine sq (sq (rg (zm (zm ?_))))
 refine z ?_ (h:=fun Z=>lnS Z cJ)
 refine z ?_ (h:=fun Z=>ab Z vt vt (bP rfl))
 refine nl ?_
 refine wi (fun c2=> ?_) (fun c2=> ?_)
 ·skip
  have c2P:=of_decide_eq_true c2
  obtain⟨hpf,hpb⟩:=Fj (l:=l) (k:=k) (by omega)
  refine sk (sq (bkk (sq (cg ?_))))
  refine zd ?_ (h:=fun Z=>aa (xs:=[(.slv l.length 1 (isl l):A)]) Z il rfl (by decide) rfl)
  refine zdm (zdm ?_)
  refine zd ?_ (h:=fun Z=>ix0 Z cJ fe vt (hlt:=(by omega)))
  refine zd ?_ (h:=fun Z=>lC Z dA (by omega))
  refine zd ?_ (h:=fun Z=>ah Z (tV l (gC (cellsOf l) k) (by omega)) (ac (ArgV.regv _ _ 1 _) (ac (ArgV.va va) an)) (ResV.row _ _ _ _ 19))
  refine zd ?_ (h:=fun Z=>ix0 (k:=0) Z cJ fe vc (hlt:=(by omega)))
  refine zd ?_ (h:=fun Z=>lC (k:=0) Z dA (by omega))
  refine zdm (zdm ?_)
  refine zd ?_ (h:=fun Z=>ix0 Z cJ fe vt (hlt:=(by omega)))
  refine zd ?_ (h:=fun Z=>lC Z dA (by omega))
  refine zd ?_ (h:=fun Z=>ab Z va va (re Ck (fun w=>(lF ((gC (pcs l (gC (cellsOf l) k)) 0).x) ((gC (pcs l (gC (cellsOf l) k)) 0).y) ((gC (cellsOf l) k).x) ((gC (cellsOf l) k).y) w).trans (congrArg (fun z=>Result.ok (Value.bool z) w) (rfl:(cEq ((gC (pcs l (gC (cellsOf l) k)) 0).x) ((gC (pcs l (gC (cellsOf l) k)) 0).y) ((gC (cellsOf l) k).x) ((gC (cellsOf l) k).y))=(cEq ((gC (pcs l (gC (cellsOf l) k)) 0).x) ((gC (pcs l (gC (cellsOf l) k)) 0).y) ((gC (cellsOf l) k).x) ((gC (cellsOf l) k).y)))))))
  refine bJ ?_
  refine wi (b:=(cEq ((gC (pcs l (gC (cellsOf l) k)) 0).x) ((gC (pcs l (gC (cellsOf l) k)) 0).y) ((gC (cellsOf l) k).x) ((gC (cellsOf l) k).y))) (fun c3=> ?_) (fun c3=> ?_)
  ·skip
   refine rg (zm ?_)
   refine z ?_ (h:=fun Z=>ab Z vt vc (rA (by omega) (by omega)))
   refine za (nl (rg (zm ?_)))
   refine z ?_ (h:=fun Z=>ab Z vt vc (rA (by omega) (by omega)))
   refine za (nl ?_)
   exact ar ((k+1)) (by show _≤_;omega) (by show(cellsOf l).length-(k+1)<(cellsOf l).length-k;omega) (wkf id (wS<|wE (e:=(aO (by(rw[je (by omega) (hpb true (by simp_all [oG]))];simp;done))))<|wS<|wE (e:=(aO (by rfl)))<|wX<|wP<|wF<|wF<|wN))
  ·skip
   refine sk (rg (zm ?_))
   refine z ?_ (h:=fun Z=>ab Z vt vc (rA (by omega) (by omega)))
   refine za (nl ?_)
   exact ar ((k+1)) (by show _≤_;omega) (by show(cellsOf l).length-(k+1)<(cellsOf l).length-k;omega) (wkf id (wS<|wE (e:=(aO (by(rw[kL (by omega) (hpb false (by simp_all [oG]))];done))))<|wS<|wE (e:=(aO (by rfl)))<|wX<|wP<|wF<|wF<|wN))
 ·skip
  have c2P:=of_decide_eq_false c2
  refine aJ (sq (rg (zm (za (nl (aq ?_))))))
  exact VRes.tmp _ _ _ (by exact rfl) (cc (congrArg (Value.int .i64) (by rw[Ni,List.take_of_length_le (by omega)])))
end Cl
end Go.Proofs.YtonlghbbdcddoaaGreat
namespace Go.Proofs.YtonlghbbdcddoaaGreat
namespace Cl
open Go.ChangeShapes Go.WideShapes Go.ChangeAt Go.RowKit
def kxy (x y:Int):Nat:=(y*10+x).toNat
def frB (s:Nat) (L:List Nat) (x y:Int):Bool:=(inB x 0 9&&inB y 0 9)&&(!(gB (mkB L) (kxy x y))&& !(aP s ⟨x-1,y-1⟩))
theorem jh {x y:Int} (hx:0≤x∧x≤9) (hy:0≤y∧y≤9):kxy x y%10=x.toNat∧kxy x y/10=y.toNat∧kxy x y<100:=by unfold kxy;omega
theorem Ju {x y:Int} (hx:0≤x∧x≤9) (hy:0≤y∧y≤9):c10 (kxy x y)=⟨x-1,y-1⟩:=by
 obtain⟨h1,h2,_⟩:=jh hx hy
 unfold c10;rw[h1,h2]
 simp only[Cel.mk.injEq];omega
theorem zW {s:Nat} {x y:Int} (hx:0≤x∧x≤9) (hy:0≤y∧y≤9):bk s (kxy x y)= !(aP s ⟨x-1,y-1⟩):=by
 unfold bk;rw[Ju hx hy,decide_eq_true (jh hx hy).2.2,Bool.true_and]
theorem yq {s:Nat} {L:List Nat} {x y:Int} (hx:0≤x∧x≤9) (hy:0≤y∧y≤9):frB s L x y=(bk s (kxy x y)&& !decide (kxy x y∈L)):=by
 unfold frB
 rw[bw.2 hx,bw.2 hy,MJ (jh hx hy).2.2,zW hx hy,Bool.and_comm (!(decide _))];rfl
theorem yL {x y:Int} (hx:0≤x∧x≤9) (hy:0≤y∧y≤9) {p q:Nat} (hq:q<3):mb (kxy x y) (3*p+q)=(inB (x+((q:Int)-1)) 0 9&&inB (y+((p:Int)-1)) 0 9):=by
 obtain⟨h1,h2,_⟩:=jh hx hy
 have e1:(3*p+q)%3=q:=by omega
 have e2:(3*p+q)/3=p:=by omega
 unfold mb
 rw[h1,h2,e1,e2,Bool.eq_iff_iff]
 simp only[Bool.and_eq_true,decide_eq_true_eq,bw]
 omega
theorem Bw {x y:Int} (hx:0≤x∧x≤9) (hy:0≤y∧y≤9) {p q:Nat} (hq:q<3) (hx2:0≤x+((q:Int)-1)) (hy2:0≤y+((p:Int)-1)):uz (kxy x y) (3*p+q)=kxy (x+((q:Int)-1)) (y+((p:Int)-1)):=by
 obtain⟨h1,h2,_⟩:=jh hx hy
 have e1:(3*p+q)%3=q:=by omega
 have e2:(3*p+q)/3=p:=by omega
 unfold uz
 rw[h1,h2,e1,e2]
 unfold kxy;omega
theorem JK {s:Nat} {L:List Nat} {x y:Int} (h:frB s L x y=true):(0≤x∧x≤9)∧(0≤y∧y≤9):=by
 unfold frB at h;simp only[Bool.and_eq_true,bw]at h;exact h.1
def nbT (k t:Nat):List Nat:=((List.range t).filter (mb k)).map (uz k)
theorem yI {k t:Nat} (h:mb k t=true):nbT k (t+1)=nbT k t++[uz k t]:=by
 unfold nbT;rw[List.range_succ,List.filter_append,List.map_append];simp [h]
theorem HE {k t:Nat} (h:mb k t=false):nbT k (t+1)=nbT k t:=by
 unfold nbT;rw[List.range_succ,List.filter_append,List.map_append];simp [h]
structure DT (s n:Nat) (x y:Int) (L:List Nat) (t:Nat) (M:List Nat):Prop where
 eq:M=(nbT (kxy x y) t).foldl (rR (bk s) (dfs eV (bk s) n)) (L++[kxy x y])
 nd:M.Nodup
 lt:∀ z,z∈M→z<100
 le:L.length+1≤M.length
theorem DT.zero {s n:Nat} {x y:Int} {L:List Nat} (hx:0≤x∧x≤9) (hy:0≤y∧y≤9) (hn:L.Nodup) (hl:∀ z,z∈L→z<100) (hk:kxy x y∉L):DT s n x y L 0 (L++[kxy x y]):=by
 refine⟨rfl,?_,fun z hz=> ?_,by simp⟩
 ·rw[List.nodup_append]
  refine⟨hn,by simp,fun a ha b hb e=> ?_⟩
  rw[List.mem_singleton]at hb;subst hb;subst e;exact hk ha
 ·rw[List.mem_append,List.mem_singleton]at hz
  rcases hz with hz |rfl
  ·exact hl z hz
  ·exact(jh hx hy).2.2
theorem DT.no {s n:Nat} {x y:Int} {L M:List Nat} {p q:Nat} (h:DT s n x y L (3*p+q) M) (hx:0≤x∧x≤9) (hy:0≤y∧y≤9) (hq:q<3) (hf:frB s M (x+((q:Int)-1)) (y+((p:Int)-1))=false):DT s n x y L (3*p+(q+1)) M:=by
 refine⟨?_,h.nd,h.lt,h.le⟩
 rw[show 3*p+(q+1)=3*p+q+1 from rfl]
 rcases Bool.eq_false_or_eq_true (mb (kxy x y) (3*p+q))with ho |ho
 ·rw[yI ho,List.foldl_append,←h.eq]
  rw[yL hx hy hq,Bool.and_eq_true,bw,bw]at ho
  rw[yq ho.1 ho.2]at hf
  show M=rR (bk s) (dfs eV (bk s) n) M (uz (kxy x y) (3*p+q))
  unfold rR
  rw[Bw hx hy hq ho.1.1 ho.2.1,hf];rfl
 ·rw[HE ho];exact h.eq
theorem DT.more {s n:Nat} {x y:Int} {L M:List Nat} {p q:Nat} (h:DT s n x y L (3*p+q) M) (hf:frB s M (x+((q:Int)-1)) (y+((p:Int)-1))=true) (hN:100<n+1+L.length):(0≤x+((q:Int)-1)∧x+((q:Int)-1)≤9)∧(0≤y+((p:Int)-1)∧y+((p:Int)-1)≤9)∧bk s (kxy (x+((q:Int)-1)) (y+((p:Int)-1)))=true∧kxy (x+((q:Int)-1)) (y+((p:Int)-1))∉M∧100<n+M.length:=by
 obtain⟨h1,h2⟩:=JK hf
 rw[yq h1 h2]at hf
 simp only[Bool.and_eq_true,Bool.not_eq_true',decide_eq_false_iff_not]at hf
 have:=h.le
 exact⟨h1,h2,hf.1,hf.2,by omega⟩
theorem DT.yes {s n:Nat} {x y:Int} {L M:List Nat} {p q:Nat} (h:DT s n x y L (3*p+q) M) (hx:0≤x∧x≤9) (hy:0≤y∧y≤9) (hq:q<3) (hf:frB s M (x+((q:Int)-1)) (y+((p:Int)-1))=true) (hN:100<n+1+L.length):DT s n x y L (3*p+(q+1)) (dfs eV (bk s) n M (kxy (x+((q:Int)-1)) (y+((p:Int)-1)))):=by
 obtain⟨h1,h2,h3,h4,h5⟩:=h.more hf hN
 obtain⟨e,d,_⟩:=yl (ok:=bk s) yH n M _ h.nd h.lt h4 (jh h1 h2).2.2 h5
 refine⟨?_,d.nd,d.lt,?_⟩
 ·have ho:mb (kxy x y) (3*p+q)=true:=by rw[yL hx hy hq,bw.2 h1,bw.2 h2];rfl
  rw[show 3*p+(q+1)=3*p+q+1 from rfl,yI ho,List.foldl_append,←h.eq]
  show _=rR (bk s) (dfs eV (bk s) n) M (uz (kxy x y) (3*p+q))
  unfold rR
  rw[Bw hx hy hq h1.1 h2.1,if_pos (by simp [h3,h4])]
 ·rw[d.eq];have:=h.le;simp only[List.length_append];omega
theorem DT.end {s n:Nat} {x y:Int} {L M:List Nat} {p:Nat} (h:DT s n x y L (3*p) M) (hp:p=3):M=dfs eV (bk s) (n+1) L (kxy x y):=by
 subst hp;exact h.eq
noncomputable def rt (s k:Nat):Nat:=lD eV (bk s) k
theorem Iv (s k:Nat):rt s k≤k:=Iq _ _ _
theorem KY {s:Nat} {L:List Nat} {a b:Nat} (h:ScanI s (10*a+b) L) (ha:a<10) (hb:b<10) (hf:frB s L (b:Int) (a:Int)=false):ScanI s (10*a+(b+1)) L∧rt s (10*a+(b+1))=rt s (10*a+b):=by
 have e:kxy (b:Int) (a:Int)=10*a+b:=by unfold kxy;omega
 rw[yq (by omega) (by omega),e]at hf
 have:=h.skip (by
  rcases Bool.eq_false_or_eq_true (bk s (10*a+b))with h1 |h1
  ·rw[h1]at hf;simp at hf;exact .inr hf
  ·exact .inl h1)
 exact⟨this.1,vS this.2⟩
theorem Iy {s:Nat} {L:List Nat} {a b:Nat} (h:ScanI s (10*a+b) L) (ha:a<10) (hb:b<10) (hf:frB s L (b:Int) (a:Int)=true):kxy (b:Int) (a:Int)∉L∧ScanI s (10*a+(b+1)) (dfs eV (bk s) 101 L (kxy (b:Int) (a:Int)))∧rt s (10*a+(b+1))=rt s (10*a+b)+1:=by
 have e:kxy (b:Int) (a:Int)=10*a+b:=by unfold kxy;omega
 rw[yq (by omega) (by omega),e]at hf
 simp only[Bool.and_eq_true,Bool.not_eq_true',decide_eq_false_iff_not]at hf
 have:=h.deep (n:=101) hf.1 hf.2 (by omega)
 rw[e]
 exact⟨hf.2,this.1,sF this.2⟩
noncomputable def hol (l:List Int):Int:=if aU l=true then(ii (ag l):Int)-1 else 0
theorem Hc {l:List Int} (h:aU l=false):hol l=0:=by unfold hol;rw[h];rfl
theorem Dn {l:List Int} (h:aU l=true):hol l=(rt (ag l) 100:Int)-1:=by unfold hol;rw[if_pos h];rfl
theorem Cm:∀ (a b:Int),Tryz.prog.built 67 [(0,.int .i64 a),(1,.int .i64 b)]=some ([.int .i64 a,.int .i64 b]:List Value).toArray:=fun _ _=>rfl
theorem sn:(Tryz.prog.info? 4).map (·.size)=some 1:=by kernel_rfl
theorem AI:TI Tryz.prog 110 false 1:=⟨⟨_,Tryz.underlying110,rfl⟩,by kernel_rfl⟩
theorem AJ:TI Tryz.prog 111 false 1:=⟨⟨_,Tryz.underlying111,rfl⟩,by kernel_rfl⟩
theorem sp:TI Tryz.prog 4 false 1:=⟨⟨_,Tryz.underlying4,rfl⟩,by kernel_rfl⟩
theorem Cn:TI Tryz.prog 81 false 1:=⟨⟨_,Tryz.underlying81,rfl⟩,by kernel_rfl⟩
theorem og:Tryz.prog.underlying 109=some (.array 100 4):=Tryz.underlying109
theorem jR (s:Nat) (L:List Nat) (x y:Int) (hs:s<18446744073709551616) (hx: -4≤x∧x≤20) (hy: -4≤y∧y≤20):FnO Tryz.prog 93 [.a (.val (.int .i64 x)),.a (.val (.int .i64 y)),.a (.ptr 2 0),.a (.ptr 3 0)] [(.o 2,some (.o ⟨109,1,true,pl (bsl (mkB L))⟩)),(.o 3,some (.o ⟨81,1,true,[(.val (.int .u64 ((s:Nat):Int)):A)]⟩))] (V.v (.bool (frB s L x y))) [(.o 2,some (.o ⟨109,1,true,pl (bsl (mkB L))⟩)),(.o 3,some (.o ⟨81,1,true,[(.val (.int .u64 ((s:Nat):Int)):A)]⟩))] [2,3]:=by
 have hml:=yF L
 refine co (N:=32) Tryz.func93 rfl (by kernel_rfl) rfl (Nat.le_of_ble_eq_true rfl) rfl rfl (by kernel_rfl) (by kernel_rfl) ⟨bB (fun _=>rfl),ocs (by kernel_rfl),trivial⟩ [8,11,29] (mn rfl) (fun W own kp im0=> ?_)
 show Wp _ _ _ [kI 0 x,kI 1 y,kP 2 2 0,kP 3 3 0,kO 2 109 1 true (pl (bsl (mkB L))),kO 3 81 1 true [(.val (.int .u64 ((s:Nat):Int)):A)],kF 8,kF 11,kF 29]
 refine sq (rg (zk (nl (sq ?_))))
 rcases Bool.eq_false_or_eq_true ((inB x 0 9))with c1 |c1
 ·skip
  have hx1:=bw.1 c1
  rcases Bool.eq_false_or_eq_true ((inB y 0 9))with c2 |c2
  ·skip
   have hy1:=bw.1 c2
   rcases Bool.eq_false_or_eq_true ((gB (mkB L) (((y*10)+x).toNat)))with c3 |c3
   ·skip
    refine rg (zm ?_)
    refine z ?_ (h:=fun Z=>ah Z (eh x 0 9 ) (ac (ArgV.v vt) (ac (ArgV.v vc) (ac (ArgV.v vc) an))) (aH (congrArg Value.bool c1)))
    refine zm ?_
    refine zg ?_ (h:=fun Z=>ae rfl rfl (mt Z))
    refine zg ?_ (h:=fun Z=>ae rfl rfl (ah Z (eh y 0 9 ) (ac (ArgV.v vt) (ac (ArgV.v vc) (ac (ArgV.v vc) an))) (aH (congrArg Value.bool c2))))
    refine z ?_ (h:=fun Z=>al Z vt xt)
    refine zm ?_
    refine zg ?_ (h:=fun Z=>ae rfl rfl (mt Z))
    refine zg ?_ (h:=fun Z=>ae rfl rfl (ab Z vt vc (rM (by omega) (by omega))))
    refine zg ?_ (h:=fun Z=>ae rfl rfl (mt Z))
    refine zg ?_ (h:=fun Z=>ae rfl rfl (ab Z vt vt (rA (by omega) (by omega))))
    refine zg ?_ (h:=fun Z=>ae rfl rfl (ixa (k:=((y*10)+x).toNat) Z og sn vt (Int.toNat_of_nonneg (by omega)).symm (by omega)))
    refine zg ?_ (h:=fun Z=>ae rfl rfl (ai Z sp (by exact la ((nM (k:=(((y*10)+x).toNat)) (by omega)).trans (congrArg (fun b:Bool=>some (Value.bool b)) c3)))))
    refine zg ?_ (h:=fun Z=>ae rfl rfl (aK Z vt (bE (c:=false) rfl)))
    refine z ?_ (h:=fun Z=>al Z vt xt)
    refine zm (zo (zo (zo (zo (zo (zo (zo (zo ?_))))))))
    refine z ?_ (h:=fun Z=>ao Z vt xc)
    refine za (nl (aq ?_))
    exact⟨_,dK,⟨by kernel_rfl,by kernel_rfl,trivial⟩,da 6 (.a (.val (.bool false))) (.a (.val (.bool (frB s L x y)))) (by kernel_rfl) (congrArg (fun z:Bool=>B.a (.val (.bool z))) (by(unfold frB kxy;simp_all;done)))⟩
   ·skip
    refine rg (zm ?_)
    refine z ?_ (h:=fun Z=>ah Z (eh x 0 9 ) (ac (ArgV.v vt) (ac (ArgV.v vc) (ac (ArgV.v vc) an))) (aH (congrArg Value.bool c1)))
    refine zm ?_
    refine zg ?_ (h:=fun Z=>ae rfl rfl (mt Z))
    refine zg ?_ (h:=fun Z=>ae rfl rfl (ah Z (eh y 0 9 ) (ac (ArgV.v vt) (ac (ArgV.v vc) (ac (ArgV.v vc) an))) (aH (congrArg Value.bool c2))))
    refine z ?_ (h:=fun Z=>al Z vt xt)
    refine zm ?_
    refine zg ?_ (h:=fun Z=>ae rfl rfl (mt Z))
    refine zg ?_ (h:=fun Z=>ae rfl rfl (ab Z vt vc (rM (by omega) (by omega))))
    refine zg ?_ (h:=fun Z=>ae rfl rfl (mt Z))
    refine zg ?_ (h:=fun Z=>ae rfl rfl (ab Z vt vt (rA (by omega) (by omega))))
    refine zg ?_ (h:=fun Z=>ae rfl rfl (ixa (k:=((y*10)+x).toNat) Z og sn vt (Int.toNat_of_nonneg (by omega)).symm (by omega)))
    refine zg ?_ (h:=fun Z=>ae rfl rfl (ai Z sp (by exact la ((nM (k:=(((y*10)+x).toNat)) (by omega)).trans (congrArg (fun b:Bool=>some (Value.bool b)) c3)))))
    refine zg ?_ (h:=fun Z=>ae rfl rfl (aK Z vt (bE (c:=true) rfl)))
    refine z ?_ (h:=fun Z=>al Z vt xt)
    refine zm ?_
    refine zg ?_ (h:=fun Z=>ae rfl rfl (ai (x:= .val (.int .u64 ((s:Nat):Int))) Z Cn (by exact rfl)))
    refine zg ?_ (h:=fun Z=>ae rfl rfl (mt Z))
    refine zg ?_ (h:=fun Z=>ae rfl rfl (ab Z vt vc (rS (by omega) (by omega))))
    refine zg ?_ (h:=fun Z=>ae rfl rfl (mt Z))
    refine zg ?_ (h:=fun Z=>ae rfl rfl (ab Z vt vc (rS (by omega) (by omega))))
    refine zg ?_ (h:=fun Z=>ae rfl rfl (bC Z Cm vt vt))
    refine zg ?_ (h:=fun Z=>ae rfl rfl (ah Z (bc s (⟨(x-1),(y-1)⟩:Cel) (by omega)) (ac (ArgV.v vt) (ac (ArgV.va va) an)) rv))
    refine zg ?_ (h:=fun Z=>ae rfl rfl (aK Z vt (bE rfl)))
    refine z ?_ (h:=fun Z=>al Z vt xt)
    refine za (nl (aq ?_))
    exact⟨_,dK,⟨by kernel_rfl,by kernel_rfl,trivial⟩,da 6 (.a (.val (.bool (!(aP s (⟨(x-1),(y-1)⟩:Cel)))))) (.a (.val (.bool (frB s L x y)))) (by kernel_rfl) (congrArg (fun z:Bool=>B.a (.val (.bool z))) (by(unfold frB kxy;simp_all;done)))⟩
  ·skip
   have c2Q:=oL.1 c2
   refine rg (zm ?_)
   refine z ?_ (h:=fun Z=>ah Z (eh x 0 9 ) (ac (ArgV.v vt) (ac (ArgV.v vc) (ac (ArgV.v vc) an))) (aH (congrArg Value.bool c1)))
   refine zm ?_
   refine zg ?_ (h:=fun Z=>ae rfl rfl (mt Z))
   refine zg ?_ (h:=fun Z=>ae rfl rfl (ah Z (eh y 0 9 ) (ac (ArgV.v vt) (ac (ArgV.v vc) (ac (ArgV.v vc) an))) (aH (congrArg Value.bool c2))))
   refine z ?_ (h:=fun Z=>al Z vt xt)
   refine zm (zo (zo (zo (zo (zo (zo (zo ?_)))))))
   refine z ?_ (h:=fun Z=>ao Z vt xc)
   refine zm (zo (zo (zo (zo (zo (zo (zo (zo ?_))))))))
   refine z ?_ (h:=fun Z=>ao Z vt xc)
   refine za (nl (aq ?_))
   exact⟨_,dK,⟨by kernel_rfl,by kernel_rfl,trivial⟩,da 6 (.a (.val (.bool false))) (.a (.val (.bool (frB s L x y)))) (by kernel_rfl) (congrArg (fun z:Bool=>B.a (.val (.bool z))) (by(unfold frB kxy;simp_all;done)))⟩
 ·skip
  have c1Q:=oL.1 c1
  refine rg (zm ?_)
  refine z ?_ (h:=fun Z=>ah Z (eh x 0 9 ) (ac (ArgV.v vt) (ac (ArgV.v vc) (ac (ArgV.v vc) an))) (aH (congrArg Value.bool c1)))
  refine zm (zo (zo ?_))
  refine z ?_ (h:=fun Z=>ao Z vt xc)
  refine zm (zo (zo (zo (zo (zo (zo (zo ?_)))))))
  refine z ?_ (h:=fun Z=>ao Z vt xc)
  refine zm (zo (zo (zo (zo (zo (zo (zo (zo ?_))))))))
  refine z ?_ (h:=fun Z=>ao Z vt xc)
  refine za (nl (aq ?_))
  exact⟨_,dK,⟨by kernel_rfl,by kernel_rfl,trivial⟩,da 6 (.a (.val (.bool false))) (.a (.val (.bool (frB s L x y)))) (by kernel_rfl) (congrArg (fun z:Bool=>B.a (.val (.bool z))) (by(unfold frB kxy;simp_all;done)))⟩
theorem nT:∀ (n:Nat) (s:Nat) (L:List Nat) (u v:Int) (hs:s<18446744073709551616) (hu:0≤u∧u≤9) (hv:0≤v∧v≤9) (hn:L.Nodup) (hL:∀ z,z∈L→z<100) (hk:kxy u v∉L) (hN:100<n+L.length),FnO Tryz.prog 94 [.a (.val (.int .i64 u)),.a (.val (.int .i64 v)),.a (.ptr 2 0),.a (.ptr 3 0),.a (.ptr 4 0)] [(.o 2,some (.o ⟨109,1,true,pl (bsl (mkB L))⟩)),(.o 3,some (.o ⟨110,1,true,[(.fn 93 [2,5]:A)]⟩)),(.o 4,some (.o ⟨111,1,true,[(.fn 94 [2,3,4]:A)]⟩)),(.o 5,some (.o ⟨81,1,true,[(.val (.int .u64 ((s:Nat):Int)):A)]⟩))] (V.v (.tuple #[])) [(.o 2,some (.o ⟨109,1,true,pl (bsl (mkB (dfs eV (bk s) n L (kxy u v))))⟩)),(.o 3,some (.o ⟨110,1,true,[(.fn 93 [2,5]:A)]⟩)),(.o 4,some (.o ⟨111,1,true,[(.fn 94 [2,3,4]:A)]⟩)),(.o 5,some (.o ⟨81,1,true,[(.val (.int .u64 ((s:Nat):Int)):A)]⟩))] [2,3,4,5]:=by
 intro n
 induction n with
 | zero=>intro s L u v hs hu hv hn hL hk hN;exfalso;(have:=gy 100 L hn hL;omega)
 | succ n ih=>
  intro s L u v hs hu hv hn hL hk hN
  have hml:=yF L
  refine co (N:=38) Tryz.func94 rfl (by kernel_rfl) rfl (Nat.le_of_ble_eq_true rfl) rfl rfl (by kernel_rfl) (by kernel_rfl) ⟨bB (fun _=>rfl),ocs (by kernel_rfl),ocs (by kernel_rfl),ocs (by kernel_rfl),trivial⟩ [29,37] (Bg rfl) (fun W own kp im0=> ?_)
  show Wp _ _ _ [kI 0 u,kI 1 v,kP 2 2 0,kP 3 3 0,kP 4 4 0,kO 2 109 1 true (pl (bsl (mkB L))),kO 3 110 1 true [(.fn 93 [2,5]:A)],kO 4 111 1 true [(.fn 94 [2,3,4]:A)],kO 5 81 1 true [(.val (.int .u64 ((s:Nat):Int)):A)],kF 29,kF 37]
  refine sq (rg (zm ?_))
  refine z ?_ (h:=fun Z=>ab Z vt vc (rM (by omega) (by omega)))
  refine zm ?_
  refine z ?_ (h:=fun Z=>ab Z vt vt (rA (by omega) (by omega)))
  refine z ?_ (h:=fun Z=>ixa (k:=((v*10)+u).toNat) Z og sn vt (Int.toNat_of_nonneg (by omega)).symm (by omega))
  refine z ?_ (h:=fun _=>sB sp xc (by omega))
  refine nl (sq (rg (zk (nl (bkk ?_)))))
  refine bf (fun((p,M):Nat × (List Nat))=>p≤3∧DT s n u v L (3*p) M) (fun((p,M):Nat × (List Nat))=>[kI 0 u,kI 1 v,kP 3 3 0,kP 4 4 0,kI 7 (((p:Nat):Int)-1),kO 2 109 1 true (pl (bsl (mkB M))),kO 3 110 1 true [(.fn 93 [2,5]:A)],kO 4 111 1 true [(.fn 94 [2,3,4]:A)],kO 5 81 1 true [(.val (.int .u64 ((s:Nat):Int)):A)],kF 29,kF 37]) (fun((p,M):Nat × (List Nat))=>3-p) ((0:Nat),((L++[kxy u v]):List Nat)) (by exact⟨by omega,DT.zero hu hv hn hL hk⟩) (wkf id (wS<|wS<|wS<|wS<|wE (e:=(aO (by rfl)))<|wO (e:=aG (fun h=>h) (congrArg bsl (by exact(Kt _ _).symm)))<|wX<|wX<|wX<|wF<|wF<|wN)) ?_
  rintro⟨p,M⟩ inv1
  replace inv1:p≤3∧DT s n u v L (3*p) M:=inv1
  obtain⟨inv1_0,inv1_1⟩:=inv1
  have hD:DT s n u v L (3*p) M:=by assumption
  refine sq (sq (rg (zm ?_)))
  refine z ?_ (h:=fun Z=>ab Z vt vc (pM rfl))
  refine nl ?_
  refine wi (fun c2=> ?_) (fun c2=> ?_)
  ·skip
   have c2P:=of_decide_eq_true c2
   refine sk (sq (bkk (sq (rg (zk (nl (bkk ?_)))))))
   refine bf (fun((q,M2):Nat × (List Nat))=>q≤3∧DT s n u v L (3*p+q) M2) (fun((q,M2):Nat × (List Nat))=>[kI 0 u,kI 1 v,kP 3 3 0,kP 4 4 0,kI 7 (((p:Nat):Int)-1),kI 8 (((q:Nat):Int)-1),kO 2 109 1 true (pl (bsl (mkB M2))),kO 3 110 1 true [(.fn 93 [2,5]:A)],kO 4 111 1 true [(.fn 94 [2,3,4]:A)],kO 5 81 1 true [(.val (.int .u64 ((s:Nat):Int)):A)],kF 29,kF 37]) (fun((q,M2):Nat × (List Nat))=>3-q) ((0:Nat),(M:List Nat)) (by exact⟨by omega,hD⟩) (wkf id (wS<|wS<|wS<|wS<|wS<|wE (e:=(aO (by rfl)))<|wP<|wX<|wX<|wX<|wF<|wF<|wN)) ?_
   rintro⟨q,M2⟩ inv3
   replace inv3:q≤3∧DT s n u v L (3*p+q) M2:=inv3
   obtain⟨inv3_0,inv3_1⟩:=inv3
   have hD2:DT s n u v L (3*p+q) M2:=by assumption
   refine sq (sq (rg (zm ?_)))
   refine z ?_ (h:=fun Z=>ab Z vt vc (pM rfl))
   refine nl ?_
   refine wi (fun c4=> ?_) (fun c4=> ?_)
   ·skip
    have c4P:=of_decide_eq_true c4
    refine sk (sq (bkk (sq (rg ?_))))
    refine z ?_ (h:=fun Z=>ai (x:= .fn 93 [2,5]) Z AI (by exact rfl))
    refine zm (zm ?_)
    refine z ?_ (h:=fun Z=>ab Z vt vt (rA (by omega) (by omega)))
    refine zm (zm ?_)
    refine z ?_ (h:=fun Z=>ab Z vt vt (rA (by omega) (by omega)))
    refine z ?_ (h:=fun Z=>cI (d:=29) (f:=93) (t:=22) (caps:=[2,5]) (os:=[(.o 2,some (.o ⟨109,1,true,pl (bsl (mkB M2))⟩)),(.o 5,some (.o ⟨81,1,true,[(.val (.int .u64 ((s:Nat):Int)):A)]⟩))]) (os':=[(.o 2,some (.o ⟨109,1,true,pl (bsl (mkB M2))⟩)),(.o 5,some (.o ⟨81,1,true,[(.val (.int .u64 ((s:Nat):Int)):A)]⟩))]) (r:=V.v (.bool (frB s M2 (u+(((q:Nat):Int)-1)) (v+(((p:Nat):Int)-1))))) (bs:=[.a (.val (.int .i64 (u+(((q:Nat):Int)-1)))),.a (.val (.int .i64 (v+(((p:Nat):Int)-1))))]) (keep:=[2,5]) (new:=[]) (dead:=[]) Z (FnO.ren' (jR s M2 (u+(((q:Nat):Int)-1)) (v+(((p:Nat):Int)-1)) (by omega) (by omega) (by omega)) (bn [(3,5)]) rfl rfl (by kernel_rfl) (by kernel_rfl) ⟨bB (fun _=>rfl),ocs (by kernel_rfl),trivial⟩ (by kernel_rfl) rfl (by simp only[cH,Ob.ren,bM,aC,aD,aA,bt,bq];first |done |rfl) (by simp only[cH,Ob.ren,bM,aC,aD,aA,bt,bq];first |done |rfl) rfl rfl) (by kernel_rfl) ⟨bB (fun _=>rfl),ocs (by kernel_rfl),trivial⟩ (by kernel_rfl) (ArgOs.cons ((ArgO.v vt)) (ArgOs.cons ((ArgO.v vt)) (ArgOs.nil))))
    refine nl ?_
    refine wi (b:=(frB s M2 (u+(((q:Nat):Int)-1)) (v+(((p:Nat):Int)-1)))) (fun c5=> ?_) (fun c5=> ?_)
    ·skip
     obtain⟨hm1,hm2,hm3,hm4,hm5⟩:=hD2.more c5 hN
     refine rg ?_
     refine z ?_ (h:=fun Z=>ai (x:= .fn 94 [2,3,4]) Z AJ (by exact rfl))
     refine zm (zm ?_)
     refine z ?_ (h:=fun Z=>ab Z vt vt (rA (by omega) (by omega)))
     refine zm (zm ?_)
     refine z ?_ (h:=fun Z=>ab Z vt vt (rA (by omega) (by omega)))
     refine z ?_ (h:=fun Z=>cI (d:=37) (f:=94) (t:=30) (caps:=[2,3,4]) (os:=[(.o 2,some (.o ⟨109,1,true,pl (bsl (mkB M2))⟩)),(.o 3,some (.o ⟨110,1,true,[(.fn 93 [2,5]:A)]⟩)),(.o 4,some (.o ⟨111,1,true,[(.fn 94 [2,3,4]:A)]⟩)),(.o 5,some (.o ⟨81,1,true,[(.val (.int .u64 ((s:Nat):Int)):A)]⟩))]) (os':=[(.o 2,some (.o ⟨109,1,true,pl (bsl (mkB (dfs eV (bk s) n M2 (kxy (u+(((q:Nat):Int)-1)) (v+(((p:Nat):Int)-1))))))⟩)),(.o 3,some (.o ⟨110,1,true,[(.fn 93 [2,5]:A)]⟩)),(.o 4,some (.o ⟨111,1,true,[(.fn 94 [2,3,4]:A)]⟩)),(.o 5,some (.o ⟨81,1,true,[(.val (.int .u64 ((s:Nat):Int)):A)]⟩))]) (r:=V.v (.tuple #[])) (bs:=[.a (.val (.int .i64 (u+(((q:Nat):Int)-1)))),.a (.val (.int .i64 (v+(((p:Nat):Int)-1))))]) (keep:=[2,3,4,5]) (new:=[]) (dead:=[]) Z ((ih s M2 (u+(((q:Nat):Int)-1)) (v+(((p:Nat):Int)-1)) (by omega) (by omega) (by omega) (by exact hD2.nd) (by exact hD2.lt) (by omega) (by omega))) (by kernel_rfl) ⟨bB (fun _=>rfl),ocs (by kernel_rfl),ocs (by kernel_rfl),ocs (by kernel_rfl),trivial⟩ (by kernel_rfl) (ArgOs.cons ((ArgO.v vt)) (ArgOs.cons ((ArgO.v vt)) (ArgOs.nil))))
     refine nl (rg (zm ?_))
     refine z ?_ (h:=fun Z=>ab Z vt vc (rA (by omega) (by omega)))
     refine za (nl ?_)
     exact ar ((q+1),(dfs eV (bk s) n M2 (kxy (u+((q:Int)-1)) (v+((p:Int)-1))))) (by refine⟨by omega,?_⟩;first |exact hD2.yes hu hv (by omega) (by assumption) hN |exact hD2.no hu hv (by omega) (by assumption)) (by show 3-(q+1)<3-q;omega) (wkf id (wS<|wS<|wS<|wS<|wS<|wE (e:=(aO (by omega)))<|wO (e:=aG (fun h=>h) (congrArg bsl (by rfl)))<|wX<|wX<|wX<|wF<|wF<|wN))
    ·skip
     refine sk (rg (zm ?_))
     refine z ?_ (h:=fun Z=>ab Z vt vc (rA (by omega) (by omega)))
     refine za (nl ?_)
     exact ar ((q+1),M2) (by refine⟨by omega,?_⟩;first |exact hD2.yes hu hv (by omega) (by assumption) hN |exact hD2.no hu hv (by omega) (by assumption)) (by show 3-(q+1)<3-q;omega) (wkf id (wS<|wS<|wS<|wS<|wS<|wE (e:=(aO (by omega)))<|wP<|wX<|wX<|wX<|wF<|wF<|wN))
   ·skip
    have c4P:=of_decide_eq_false c4
    refine aJ (rg (zm ?_))
    refine z ?_ (h:=fun Z=>ab Z vt vc (rA (by omega) (by omega)))
    refine za (nl ?_)
    exact ar ((p+1),M2) (by refine⟨by omega,?_⟩;(have e:q=3:=by omega);subst e;exact hD2) (by show 3-(p+1)<3-p;omega) (wkf id (wS<|wS<|wS<|wS<|wE (e:=(aO (by omega)))<|wP<|wX<|wX<|wX<|wF<|wF<|wN))
  ·skip
   have c2P:=of_decide_eq_false c2
   refine aJ ?_
   exact⟨_,dK,⟨cw (c:=pl (bsl (mkB M))) (by kernel_rfl) (congrArg (fun z=>pl (bsl z)) (by rw[←hD.end (by omega)])),by kernel_rfl,by kernel_rfl,by kernel_rfl,trivial⟩,trivial⟩
end Cl
end Go.Proofs.YtonlghbbdcddoaaGreat
namespace Go.Proofs.YtonlghbbdcddoaaGreat
namespace Cl
open Go.ChangeShapes Go.WideShapes Go.ChangeAt Go.RowKit
def nI (L:List Nat):List Int:=L.map (fun x=>((x:Nat):Int))
def gN (L:List Nat) (i:Nat):Nat:=L.getD i 0
theorem mR (L:List Nat):(nI L).length=L.length:=by unfold nI;simp
theorem pK {L:List Nat} {i:Nat} (h:i<L.length):gN L i=L[i]:=by unfold gN;rw[List.getD_eq_getElem?_getD,List.getElem?_eq_getElem h];rfl
theorem GT {L:List Nat} {i:Nat} (h:i<L.length):gI (nI L) i=((gN L i:Nat):Int):=by
 rw[cQ (by rw[mR];exact h),pK h];unfold nI;simp
theorem BX (L:List Nat) (x:Nat):nI L++[((x:Nat):Int)]=nI (L++[x]):=by unfold nI;simp
structure BT (s k:Nat) (L lst:List Nat) (i t:Nat) (M:List Nat):Prop where
 eq:M=(nbT (gN lst i) t).foldl (gst (okE (bk s)) (gN lst i)) lst
 nd:M.Nodup
 lt:∀ z,z∈M→z<100
 di:∀ z,z∈M→z∉L
 le:i+1≤M.length
 ow:gN M i=gN lst i
structure BG (s k:Nat) (L lst:List Nat) (i:Nat):Prop where
 sc:ScanI s k L
 fr:bk s k=true
 kn:k∉L
 g:GInv eV (okE (bk s)) k lst i
 lt:∀ z,z∈lst→z<100
 di:∀ z,z∈lst→z∉L
theorem BG.zero {s k:Nat} {L:List Nat} (h:ScanI s k L) (hf:bk s k=true) (hk:k∉L):BG s k L [k] 0:=
 ⟨h,hf,hk,GInv.init _ _ _,fun z hz=>by rw[List.mem_singleton]at hz;subst hz;exact dT hf,fun z hz=>by rw[List.mem_singleton]at hz;subst hz;exact hk⟩
theorem BG.len {s k:Nat} {L lst:List Nat} {i:Nat} (h:BG s k L lst i):lst.length≤100:=gy 100 lst h.g.nd h.lt
theorem BG.at {s k:Nat} {L lst:List Nat} {i:Nat} (h:BG s k L lst i) (hi:i<lst.length):gN lst i<100:=by rw[pK hi];exact h.lt _ (List.getElem_mem hi)
theorem BT.zero {s k:Nat} {L lst:List Nat} {i:Nat} (h:BG s k L lst i) (hi:i<lst.length):BT s k L lst i 0 lst:=⟨rfl,h.g.nd,h.lt,h.di,hi,rfl⟩
theorem BT.len {s k:Nat} {L lst M:List Nat} {i t:Nat} (h:BT s k L lst i t M):M.length≤100:=gy 100 M h.nd h.lt
theorem HK {z:Nat} (h:z<100):(0≤((z%10:Nat):Int)∧((z%10:Nat):Int)≤9)∧(0≤((z/10:Nat):Int)∧((z/10:Nat):Int)≤9)∧kxy ((z%10:Nat):Int) ((z/10:Nat):Int)=z:=by unfold kxy;omega
theorem DB {z p q:Nat} (h:z<100) (hq:q<3):mb z (3*p+q)=(inB (((z%10:Nat):Int)+((q:Int)-1)) 0 9&&inB (((z/10:Nat):Int)+((p:Int)-1)) 0 9):=by
 obtain⟨h1,h2,h3⟩:=HK h
 have:=yL (p:=p) h1 h2 hq
 rw[h3]at this;exact this
theorem Bx {z p q:Nat} (h:z<100) (hq:q<3) (hx2:0≤((z%10:Nat):Int)+((q:Int)-1)) (hy2:0≤((z/10:Nat):Int)+((p:Int)-1)):uz z (3*p+q)=kxy (((z%10:Nat):Int)+((q:Int)-1)) (((z/10:Nat):Int)+((p:Int)-1)):=by
 obtain⟨h1,h2,h3⟩:=HK h
 have:=Bw (p:=p) h1 h2 hq hx2 hy2
 rw[h3]at this;exact this
theorem BT.no1 {s k:Nat} {L lst M:List Nat} {i p q:Nat} (h:BT s k L lst i (3*p+q) M) (hz:gN lst i<100) (hq:q<3) (hf:(inB (((gN lst i%10:Nat):Int)+((q:Int)-1)) 0 9&&inB (((gN lst i/10:Nat):Int)+((p:Int)-1)) 0 9)=false):BT s k L lst i (3*p+(q+1)) M:=by
 refine⟨?_,h.nd,h.lt,h.di,h.le,h.ow⟩
 rw[show 3*p+(q+1)=3*p+q+1 from rfl,HE (by rw[DB hz hq];exact hf)]
 exact h.eq
theorem BT.step {s k:Nat} {L lst M:List Nat} {i p q:Nat} (h:BT s k L lst i (3*p+q) M) (hz:gN lst i<100) (hp:p<3) (hq:q<3) (hx:0≤((gN lst i%10:Nat):Int)+((q:Int)-1)∧((gN lst i%10:Nat):Int)+((q:Int)-1)≤9) (hy:0≤((gN lst i/10:Nat):Int)+((p:Int)-1)∧((gN lst i/10:Nat):Int)+((p:Int)-1)≤9):
  (nbT (gN lst i) (3*p+(q+1))).foldl (gst (okE (bk s)) (gN lst i)) lst=gst (okE (bk s)) (gN lst i) M (kxy (((gN lst i%10:Nat):Int)+((q:Int)-1)) (((gN lst i/10:Nat):Int)+((p:Int)-1)))∧kxy (((gN lst i%10:Nat):Int)+((q:Int)-1)) (((gN lst i/10:Nat):Int)+((p:Int)-1))∈eV (gN lst i):=by
 have ho:mb (gN lst i) (3*p+q)=true:=by rw[DB hz hq,bw.2 hx,bw.2 hy];rfl
 refine⟨?_,?_⟩
 ·rw[show 3*p+(q+1)=3*p+q+1 from rfl,yI ho,List.foldl_append,←h.eq,Bx hz hq hx.1 hy.1];rfl
 ·rw[←Bx hz hq hx.1 hy.1]
  rw[ma hz,Bx hz hq hx.1 hy.1]
  obtain⟨e1,e2,e3⟩:=jh hx hy
  refine⟨e3,?_⟩
  rw[e1,e2];omega
theorem BT.no2 {s k:Nat} {L lst M:List Nat} {i p q:Nat} (hg:BG s k L lst i) (hi:i<lst.length) (h:BT s k L lst i (3*p+q) M) (hp:p<3) (hq:q<3) (hx:0≤((gN lst i%10:Nat):Int)+((q:Int)-1)∧((gN lst i%10:Nat):Int)+((q:Int)-1)≤9) (hy:0≤((gN lst i/10:Nat):Int)+((p:Int)-1)∧((gN lst i/10:Nat):Int)+((p:Int)-1)≤9)
  (hf:kxy (((gN lst i%10:Nat):Int)+((q:Int)-1)) (((gN lst i/10:Nat):Int)+((p:Int)-1))∈L++M∨bk s (kxy (((gN lst i%10:Nat):Int)+((q:Int)-1)) (((gN lst i/10:Nat):Int)+((p:Int)-1)))=false):BT s k L lst i (3*p+(q+1)) M:=by
 obtain⟨e1,e2⟩:=h.step (hg.at hi) hp hq hx hy
 refine⟨?_,h.nd,h.lt,h.di,h.le,h.ow⟩
 rw[e1]
 refine(BO ?_).symm
 rcases hf with hf |hf
 ·rcases List.mem_append.1 hf with hf |hf
  ·refine .inl ?_
   rcases Bool.eq_false_or_eq_true (bk s (kxy (((gN lst i%10:Nat):Int)+((q:Int)-1)) (((gN lst i/10:Nat):Int)+((p:Int)-1))))with h1 |h1
   ·exact absurd hf (Ix hg.sc hg.fr hg.kn hg.g (x:=gN lst i) (by rw[pK hi];exact List.getElem_mem hi) e2 h1)
   ·exact h1
  ·exact .inr hf
 ·exact .inl hf
theorem BT.yes {s k:Nat} {L lst M:List Nat} {i p q:Nat} (hg:BG s k L lst i) (hi:i<lst.length) (h:BT s k L lst i (3*p+q) M) (hp:p<3) (hq:q<3) (hx:0≤((gN lst i%10:Nat):Int)+((q:Int)-1)∧((gN lst i%10:Nat):Int)+((q:Int)-1)≤9) (hy:0≤((gN lst i/10:Nat):Int)+((p:Int)-1)∧((gN lst i/10:Nat):Int)+((p:Int)-1)≤9)
  (h1:kxy (((gN lst i%10:Nat):Int)+((q:Int)-1)) (((gN lst i/10:Nat):Int)+((p:Int)-1))∉L++M) (h2:bk s (kxy (((gN lst i%10:Nat):Int)+((q:Int)-1)) (((gN lst i/10:Nat):Int)+((p:Int)-1)))=true):BT s k L lst i (3*p+(q+1)) (M++[kxy (((gN lst i%10:Nat):Int)+((q:Int)-1)) (((gN lst i/10:Nat):Int)+((p:Int)-1))]):=by
 obtain⟨e1,e2⟩:=h.step (hg.at hi) hp hq hx hy
 rw[List.mem_append,not_or]at h1
 refine⟨?_,?_,fun z hz=> ?_,fun z hz=> ?_,by rw[List.length_append];have:=h.le;omega,by rw[←h.ow];have:=h.le;rw[pK (by rw[List.length_append];omega),pK (by omega),List.getElem_append_left]⟩
 ·rw[e1,uf (ok:=okE (bk s)) h2 h1.2]
 ·rw[List.nodup_append]
  refine⟨h.nd,by simp,fun a ha b hb e=> ?_⟩
  rw[List.mem_singleton]at hb;subst hb;subst e;exact h1.2 ha
 ·rw[List.mem_append,List.mem_singleton]at hz
  rcases hz with hz |rfl
  ·exact h.lt z hz
  ·exact(jh hx hy).2.2
 ·rw[List.mem_append,List.mem_singleton]at hz
  rcases hz with hz |rfl
  ·exact h.di z hz
  ·exact h1.1
theorem BT.out {s k:Nat} {L lst M:List Nat} {i p:Nat} (hg:BG s k L lst i) (hi:i<lst.length) (h:BT s k L lst i (3*p) M) (hp:p=3):BG s k L M (i+1):=by
 subst hp
 have e:M=grnd eV (okE (bk s)) lst lst[i]:=by rw[←pK hi];exact h.eq
 exact⟨hg.sc,hg.fr,hg.kn,by rw[e];exact hg.g.next hi,h.lt,h.di⟩
theorem BG.end {s k:Nat} {L lst:List Nat} {i:Nat} (h:BG s k L lst i) (hi:¬i<lst.length):ScanI s (k+1) (L++lst)∧rt s (k+1)=rt s k+1:=by
 have:=h.sc.wide h.fr h.kn h.g hi h.di
 exact⟨this.1,sF this.2⟩
theorem zi {s k:Nat} {L:List Nat} (h:ScanI s k L) (hk:bk s k=false∨k∈L):ScanI s (k+1) L∧rt s (k+1)=rt s k:=⟨(h.skip hk).1,vS (h.skip hk).2⟩
theorem xm {l:List Int} (ho:aU l=true) {k:Nat} (hk:k<100) {b:Bool} (h:eJ l (c10 k)=b):bk (ag l) k= !b:=by
 unfold bk;rw[decide_eq_true hk,Bool.true_and,←h]
 unfold eJ aP;rw[ho];rfl
theorem uO {l:List Int} (ho:aU l=true) {x y:Int} (hx:0≤x∧x≤9) (hy:0≤y∧y≤9) {b:Bool} (h:eJ l ⟨x-1,y-1⟩=b):bk (ag l) (kxy x y)= !b:=by
 rw[zW hx hy,←h]
 unfold eJ aP;rw[ho];rfl
theorem AK:TI Tryz.prog 109 true 100:=⟨⟨_,Tryz.underlying109,rfl⟩,by kernel_rfl⟩
theorem tn:TI Tryz.prog 110 false 1:=⟨⟨_,Tryz.underlying110,rfl⟩,by kernel_rfl⟩
theorem tt:TI Tryz.prog 111 false 1:=⟨⟨_,Tryz.underlying111,rfl⟩,by kernel_rfl⟩
theorem vr:TI Tryz.prog 26 true 1:=⟨⟨_,Tryz.underlying26,rfl⟩,by kernel_rfl⟩
theorem Co:TI Tryz.prog 81 false 1:=⟨⟨_,Tryz.underlying81,rfl⟩,by kernel_rfl⟩
theorem AL:ZI Tryz.prog 109 (.agg (bsl (List.replicate 100 false)).toArray) 100 100:=by unfold ZI;kernel_rfl
theorem AM:ZI Tryz.prog 110 (.nilFunc) 1 8:=by unfold ZI;kernel_rfl
theorem AN:ZI Tryz.prog 111 (.nilFunc) 1 8:=by unfold ZI;kernel_rfl
theorem Cp:ZI Tryz.prog 81 (.int .u64 0) 1 8:=by unfold ZI;kernel_rfl
theorem pV (l:List Int) (hl:l.length≤4194304):Fn Tryz.prog 64 [.agg [(.slv l.length 1 (isl l):A)]] [.val (.int .i64 (hol l))]:=by
 refine aN (N:=37) Tryz.func64 rfl (by kernel_rfl) rfl (Nat.le_of_ble_eq_true rfl) [1,3,4,6,7,11,14,27,31] (dB rfl) (fun W=> ?_)
 show Wp _ _ _ [kV 0 (V.b (.agg [(.slv l.length 1 (isl l):A)])),kF 1,kF 3,kF 4,kF 6,kF 7,kF 11,kF 14,kF 27,kF 31]
 refine sq (rg ?_)
 refine z ?_ (h:=fun Z=>aM (h:=1) Z xt (by exact ob1 rfl))
 refine zk (nl (sq (sq (rg ?_))))
 refine z ?_ (h:=fun Z=>aa (xs:=[(.slv l.length 1 (isl l):A)]) Z vr rfl (by decide) rfl)
 refine z ?_ (h:=fun Z=>ah Z (df l (by omega)) (ac (ArgV.regv _ _ 1 _) an) rv)
 refine z ?_ (h:=fun Z=>aK Z vt (bE rfl))
 refine nl ?_
 refine wi (b:=(!(aU l))) (fun c1=> ?_) (fun c1=> ?_)
 ·skip
  have c2:(aU l)=false:=by first |(rw[←Bool.not_eq_true'];exact c1) |simpa using c1
  refine sq (rg (zk (nl (aq ?_))))
  exact VRes.tmp _ _ _ (by exact rfl) (cc (congrArg (Value.int .i64) (by exact(Hc (by simp_all)).symm)))
 ·skip
  have c3:(aU l)=true:=by first |(rw[←Bool.not_eq_false'];exact c1) |simpa using c1
  refine sk (sq (rg ?_))
  refine z ?_ (h:=fun Z=>aa (xs:=[(.slv l.length 1 (isl l):A)]) Z vr rfl (by decide) rfl)
  refine z ?_ (h:=fun Z=>ah Z (cA l (by omega)) (ac (ArgV.regv _ _ 1 _) an) rv)
  refine z ?_ (h:=fun Z=>jc (cells:=bsl (List.replicate 100 false)) Z OpVs.nil (by kernel_rfl))
  refine z ?_ (h:=fun Z=>aF (h:=3) (cap:=1) (s:=1) (cells:=[(.val (.int .u64 0):A)]) Z Cp rfl rfl (by decide))
  refine z ?_ (h:=fun Z=>aF (h:=4) (cap:=100) (s:=1) (cells:=pl (bsl (List.replicate 100 false))) Z AL rfl (by(simp [pl,bsl];done)) (by decide))
  refine z ?_ (h:=fun _=>aw (cells:=[(.val (.int .u64 (((ag l):Nat):Int)):A)]) Co xt (by exact rfl) (by decide) (by exact ob1 rfl) (by exact Nat.le_of_ble_eq_true rfl) (by exact rfl))
  refine z ?_ (h:=fun _=>aw (t:=4) (h:=4) (off:=0) (o:=⟨109,1,true,pl (bsl (List.replicate 100 false))⟩) (b:= .agg ((bsl (List.replicate 100 false)).map A.val)) (cells:=pl (bsl (List.replicate 100 false))) AK (xt) (by(simp [B.cs,bsl];done)) (by decide) (by simpa [B.cs,pl] using Ce (Gm _)) (by(simp [pl,bsl];done)) (by simp [pl,B.cs,bsl]))
  refine zk (nl (sq (rg ?_)))
  refine z ?_ (h:=fun Z=>gT (d:=16) (f:=93) (l:=[(4,4),(3,3)]) Z)
  refine z ?_ (h:=fun Z=>aF (h:=6) (cap:=1) (s:=1) (cells:=[(.val (.nilFunc):A)]) Z AM rfl rfl (by decide))
  refine z ?_ (h:=fun _=>aw (cells:=[(.fn 93 [4,3]:A)]) tn xt (by exact rfl) (by decide) (by exact ob1 rfl) (by exact Nat.le_of_ble_eq_true rfl) (by exact rfl))
  refine nl (sq (rg ?_))
  refine z ?_ (h:=fun Z=>aF (h:=7) (cap:=1) (s:=1) (cells:=[(.val (.nilFunc):A)]) Z AN rfl rfl (by decide))
  refine nl (sq (rg ?_))
  refine z ?_ (h:=fun Z=>gT (d:=17) (f:=94) (l:=[(4,4),(6,6),(7,7)]) Z)
  refine z ?_ (h:=fun _=>aw (cells:=[(.fn 94 [4,6,7]:A)]) tt xt (by exact rfl) (by decide) (by exact ob1 rfl) (by exact Nat.le_of_ble_eq_true rfl) (by exact rfl))
  refine nl (sq (sq (rg ?_)))
  refine z ?_ (h:=fun Z=>mc Z)
  refine nl (bkk ?_)
  refine bf (fun((a,L):Nat × (List Nat))=>a≤10∧ScanI (ag l) (10*a) L) (fun((a,L):Nat × (List Nat))=>[kI 5 (((rt (ag l) (10*a):Nat):Int)-1),kP 6 6 0,kP 7 7 0,kI 18 ((a:Nat):Int),kO 3 81 1 true [(.val (.int .u64 (((ag l):Nat):Int)):A)],kO 4 109 1 true (pl (bsl (mkB L))),kO 6 110 1 true [(.fn 93 [4,3]:A)],kO 7 111 1 true [(.fn 94 [4,6,7]:A)],kF 1,kF 11,kF 14,kF 27,kF 31]) (fun((a,L):Nat × (List Nat))=>10-a) ((0:Nat),([]:List Nat)) (by exact⟨by omega,ScanI.zero _⟩) (wkf id (wE (e:=(aO (by rfl)))<|wS<|wS<|wE (e:=(aO (by rfl)))<|wX<|wO (e:=aG (fun h=>h) (congrArg bsl (by rfl)))<|wX<|wX<|wF<|wF<|wF<|wF<|wF<|wN)) ?_
  rintro⟨a,L⟩ inv4
  replace inv4:a≤10∧ScanI (ag l) (10*a) L:=inv4
  obtain⟨inv4_0,inv4_1⟩:=inv4
  have hS:ScanI (ag l) (10*a) L:=by assumption
  have hrl:=Iv (ag l) (10*a)
  refine sq (rg ?_)
  refine z ?_ (h:=fun Z=>ab Z vt vc (bP rfl))
  refine nl (sq ?_)
  refine wi (fun c5=> ?_) (fun c5=> ?_)
  ·skip
   have c5P:=of_decide_eq_true c5
   refine sk (sq (bkk (sq (rg (zm (za (nl (sq (rg ?_)))))))))
   refine z ?_ (h:=fun Z=>mc Z)
   refine nl (bkk ?_)
   refine bf (fun((b,L2):Nat × (List Nat))=>b≤10∧ScanI (ag l) (10*a+b) L2) (fun((b,L2):Nat × (List Nat))=>[kI 5 (((rt (ag l) (10*a+b):Nat):Int)-1),kP 6 6 0,kP 7 7 0,kI 8 ((a:Nat):Int),kI 18 ((a:Nat):Int),kI 21 ((b:Nat):Int),kO 3 81 1 true [(.val (.int .u64 (((ag l):Nat):Int)):A)],kO 4 109 1 true (pl (bsl (mkB L2))),kO 6 110 1 true [(.fn 93 [4,3]:A)],kO 7 111 1 true [(.fn 94 [4,6,7]:A)],kF 1,kF 11,kF 14,kF 27,kF 31]) (fun((b,L2):Nat × (List Nat))=>10-b) ((0:Nat),(L:List Nat)) (by exact⟨by omega,hS⟩) (wkf id (wE (e:=(aO (by rfl)))<|wS<|wS<|wS<|wS<|wE (e:=(aO (by rfl)))<|wX<|wP<|wX<|wX<|wF<|wF<|wF<|wF<|wF<|wN)) ?_
   rintro⟨b,L2⟩ inv6
   replace inv6:b≤10∧ScanI (ag l) (10*a+b) L2:=inv6
   obtain⟨inv6_0,inv6_1⟩:=inv6
   have hS2:ScanI (ag l) (10*a+b) L2:=by assumption
   have hrl2:=Iv (ag l) (10*a+b)
   refine sq (rg ?_)
   refine z ?_ (h:=fun Z=>ab Z vt vc (bP rfl))
   refine nl (sq ?_)
   refine wi (fun c7=> ?_) (fun c7=> ?_)
   ·skip
    have c7P:=of_decide_eq_true c7
    refine sk (sq (bkk (sq (rg (zm (za (nl (sq (rg ?_)))))))))
    refine z ?_ (h:=fun Z=>ai (x:= .fn 93 [4,3]) Z tn (by exact rfl))
    refine zm (zm ?_)
    refine z ?_ (h:=fun Z=>cI (d:=27) (f:=93) (t:=24) (caps:=[4,3]) (os:=[(.o 4,some (.o ⟨109,1,true,pl (bsl (mkB L2))⟩)),(.o 3,some (.o ⟨81,1,true,[(.val (.int .u64 (((ag l):Nat):Int)):A)]⟩))]) (os':=[(.o 4,some (.o ⟨109,1,true,pl (bsl (mkB L2))⟩)),(.o 3,some (.o ⟨81,1,true,[(.val (.int .u64 (((ag l):Nat):Int)):A)]⟩))]) (r:=V.v (.bool (frB (ag l) L2 ((b:Nat):Int) ((a:Nat):Int)))) (bs:=[.a (.val (.int .i64 ((b:Nat):Int))),.a (.val (.int .i64 ((a:Nat):Int)))]) (keep:=[4,3]) (new:=[]) (dead:=[]) Z (FnO.ren' (jR (ag l) L2 ((b:Nat):Int) ((a:Nat):Int) (by exact bb (by assumption)) (by omega) (by omega)) (bn [(2,4)]) rfl rfl (by kernel_rfl) (by kernel_rfl) ⟨bB (fun _=>rfl),ocs (by kernel_rfl),trivial⟩ (by kernel_rfl) rfl (by simp only[cH,Ob.ren,bM,aC,aD,aA,bt,bq];first |done |rfl) (by simp only[cH,Ob.ren,bM,aC,aD,aA,bt,bq];first |done |rfl) rfl rfl) (by kernel_rfl) ⟨bB (fun _=>rfl),ocs (by kernel_rfl),trivial⟩ (by kernel_rfl) (ArgOs.cons ((ArgO.v vt)) (ArgOs.cons ((ArgO.v vt)) (ArgOs.nil))))
    refine nl ?_
    refine wi (b:=(frB (ag l) L2 ((b:Nat):Int) ((a:Nat):Int))) (fun c8=> ?_) (fun c8=> ?_)
    ·skip
     obtain⟨hk1,hk2,hk3⟩:=Iy hS2 (by omega) (by omega) c8
     refine sq (rg ?_)
     refine z ?_ (h:=fun Z=>ai (x:= .fn 94 [4,6,7]) Z tt (by exact rfl))
     refine zm (zm ?_)
     refine z ?_ (h:=fun Z=>cI (d:=31) (f:=94) (t:=28) (caps:=[4,6,7]) (os:=[(.o 4,some (.o ⟨109,1,true,pl (bsl (mkB L2))⟩)),(.o 6,some (.o ⟨110,1,true,[(.fn 93 [4,3]:A)]⟩)),(.o 7,some (.o ⟨111,1,true,[(.fn 94 [4,6,7]:A)]⟩)),(.o 3,some (.o ⟨81,1,true,[(.val (.int .u64 (((ag l):Nat):Int)):A)]⟩))]) (os':=[(.o 4,some (.o ⟨109,1,true,pl (bsl (mkB (dfs eV (bk (ag l)) 101 L2 (kxy ((b:Nat):Int) ((a:Nat):Int)))))⟩)),(.o 6,some (.o ⟨110,1,true,[(.fn 93 [4,3]:A)]⟩)),(.o 7,some (.o ⟨111,1,true,[(.fn 94 [4,6,7]:A)]⟩)),(.o 3,some (.o ⟨81,1,true,[(.val (.int .u64 (((ag l):Nat):Int)):A)]⟩))]) (r:=V.v (.tuple #[])) (bs:=[.a (.val (.int .i64 ((b:Nat):Int))),.a (.val (.int .i64 ((a:Nat):Int)))]) (keep:=[4,6,7,3]) (new:=[]) (dead:=[]) Z (FnO.ren' (nT 101 (ag l) L2 ((b:Nat):Int) ((a:Nat):Int) (by exact bb (by assumption)) (by omega) (by omega) (by exact hS2.nd) (by exact hS2.lt) (by omega) (by omega)) (bn [(2,4),(3,6),(4,7),(5,3)]) rfl rfl (by kernel_rfl) (by kernel_rfl) ⟨bB (fun _=>rfl),ocs (by kernel_rfl),ocs (by kernel_rfl),ocs (by kernel_rfl),trivial⟩ (by kernel_rfl) rfl (by simp only[cH,Ob.ren,bM,aC,aD,aA,bt,bq];first |done |rfl) (by simp only[cH,Ob.ren,bM,aC,aD,aA,bt,bq];first |done |rfl) rfl rfl) (by kernel_rfl) ⟨bB (fun _=>rfl),ocs (by kernel_rfl),ocs (by kernel_rfl),ocs (by kernel_rfl),trivial⟩ (by kernel_rfl) (ArgOs.cons ((ArgO.v vt)) (ArgOs.cons ((ArgO.v vt)) (ArgOs.nil))))
     refine nl (rg (zm ?_))
     refine z ?_ (h:=fun Z=>ab Z vt vc (rA (by omega) (by omega)))
     refine za (nl (rg ?_))
     refine z ?_ (h:=fun Z=>ab Z vt vc (rA (by omega) (by omega)))
     refine zm (nl ?_)
     exact ar ((b+1),(dfs eV (bk (ag l)) 101 L2 (kxy (b:Int) (a:Int)))) (by exact⟨by omega,hk2⟩) (by show 10-(b+1)<10-b;omega) (wkf id (wE (e:=(aO (by omega)))<|wS<|wS<|wS<|wS<|wE (e:=(aO (by rfl)))<|wX<|wO (e:=aG (fun h=>h) (congrArg bsl (by rfl)))<|wX<|wX<|wF<|wF<|wF<|wF<|wF<|wN))
    ·skip
     obtain⟨hk2,hk3⟩:=KY hS2 (by omega) (by omega) c8
     refine sk (rg ?_)
     refine z ?_ (h:=fun Z=>ab Z vt vc (rA (by omega) (by omega)))
     refine zm (nl ?_)
     exact ar ((b+1),L2) (by exact⟨by omega,hk2⟩) (by show 10-(b+1)<10-b;omega) (wkf id (wE (e:=(aO (by omega)))<|wS<|wS<|wS<|wS<|wE (e:=(aO (by rfl)))<|wX<|wP<|wX<|wX<|wF<|wF<|wF<|wF<|wF<|wN))
   ·skip
    have c7P:=of_decide_eq_false c7
    refine aJ (rg ?_)
    refine z ?_ (h:=fun Z=>ab Z vt vc (rA (by omega) (by omega)))
    refine zm (nl ?_)
    exact ar ((a+1),L2) (by refine⟨by omega,?_⟩;(have e:b=10:=by omega);subst e;exact hS2) (by show 10-(a+1)<10-a;omega) (wkf id (wE (e:=(aO (by((have e:b=10:=by omega);subst e;rfl))))<|wS<|wS<|wE (e:=(aO (by rfl)))<|wX<|wP<|wX<|wX<|wF<|wF<|wF<|wF<|wF<|wN))
  ·skip
   have c5P:=of_decide_eq_false c5
   refine aJ (sq (rg (zm (za (nl (aq ?_))))))
   exact VRes.tmp _ _ _ (by exact rfl) (cc (congrArg (Value.int .i64) (by(have e:a=10:=by omega);subst e;exact(Dn (by assumption)).symm)))
end Cl
end Go.Proofs.YtonlghbbdcddoaaGreat
