/- Parts put together: C20, C21, C22, C23, C24. -/
import Derived.Test.YtgmkkfdnmdohlaaGreatDoorC3
import Derived.Test.YtgmkkfdnmdohlaaGreatDoorClB
import Derived.Test.YtgmkkfdnmdohlaaGreatDoorC10
import Derived.Test.YtgmkkfdnmdohlaaGreatDoorC1
set_option linter.unusedSimpArgs false
set_option linter.unusedVariables false
set_option maxHeartbeats 4000000
set_option maxRecDepth 100000
namespace Go.Proofs.YtgmkkfdnmdohlaaGreatDoor
namespace Cl
open Go.ChangeShapes Go.WideShapes Go.ChangeAt Go.RowKit
section
set_option linter.unusedSectionVars false
variable {α:Type} [DecidableEq α]
def gst (ok:α→α→Bool) (own:α) (L:List α) (w:α):List α:=if(ok own w&& !decide (w∈L))=true then L++[w]else L
def grnd (nb:α→List α) (ok:α→α→Bool) (L:List α) (own:α):List α:=(nb own).foldl (gst ok own) L
inductive GReach (nb:α→List α) (ok:α→α→Bool) (a:α):α→Prop
 | root:GReach nb ok a a
 | step (p q:α) (hp:GReach nb ok a p) (hq:q∈nb p) (h:ok p q=true):GReach nb ok a q
theorem GReach.trans {nb:α→List α} {ok:α→α→Bool} {a b c:α} (h1:GReach nb ok a b) (h2:GReach nb ok b c):GReach nb ok a c:=by
 induction h2 with
 | root=>exact h1
 | step p q _ hq hok ih=>exact .step p q ih hq hok
theorem wc {ok:α→α→Bool} {own w:α} {L:List α} (h:ok own w=true) (h2:w∉L):gst ok own L w=L++[w]:=by unfold gst;rw[if_pos (by simp [h,h2])]
theorem Ef {ok:α→α→Bool} {own w:α} {L:List α} (h:ok own w=false∨w∈L):gst ok own L w=L:=by
 unfold gst;rw[if_neg];rcases h with h |h<;>simp [h]
theorem Ha {ok:α→α→Bool} {own w:α} {L:List α} {x:α} (h:x∈L):x∈gst ok own L w:=by
 unfold gst;split
 ·simp [h]
 ·exact h
theorem GZ (ok:α→α→Bool) (own w:α) (L:List α):∃ e,gst ok own L w=L++e:=by
 unfold gst;split
 ·exact⟨_,rfl⟩
 ·exact⟨[],by simp⟩
theorem uz (ok:α→α→Bool) (own:α):∀ (ws L:List α),∃ e,ws.foldl (gst ok own) L=L++e:=by
  intro ws
  induction ws with
  | nil=>intro L;exact⟨[],by simp⟩
  | cons w ws ih=>
    intro L
    obtain⟨e1,h1⟩:=GZ ok own w L
    obtain⟨e2,h2⟩:=ih (gst ok own L w)
    exact⟨e1++e2,by rw[List.foldl_cons,h2,h1,List.append_assoc]⟩
theorem mJ {ok:α→α→Bool} {own:α} {ws L:List α} {x:α} (h:x∈L):x∈ws.foldl (gst ok own) L:=by
 obtain⟨e,he⟩:=uz ok own ws L
 rw[he];simp [h]
theorem BB {ok:α→α→Bool} {own:α}:∀ (ws L:List α) (w:α),w∈ws→ok own w=true→w∈ws.foldl (gst ok own) L:=by
  intro ws
  induction ws with
  | nil=>intro L w h;cases h
  | cons v ws ih=>
    intro L w h hok
    rw[List.foldl_cons]
    rcases List.mem_cons.1 h with rfl |h
    · by_cases hm:w∈L
      · exact mJ (Ha hm)
      · rw[wc hok hm];exact mJ (by simp)
    · exact ih _ w h hok
theorem DU {ok:α→α→Bool} {own:α}:∀ (ws L:List α) (x:α),x∈ws.foldl (gst ok own) L→x∈L∨(x∈ws∧ok own x=true):=by
  intro ws
  induction ws with
  | nil=>intro L x h;exact .inl h
  | cons v ws ih=>
    intro L x h
    rw[List.foldl_cons]at h
    rcases ih _ x h with h |h
    · unfold gst at h
      split at h
      · rename_i hc
        rw[Bool.and_eq_true]at hc
        rcases List.mem_append.1 h with h |h
        · exact .inl h
        · rw[List.mem_singleton]at h;subst h;exact .inr ⟨by simp,hc.1⟩
      · exact .inl h
    · exact .inr ⟨by simp [h.1],h.2⟩
theorem BF {ok:α→α→Bool} {own w:α} {L:List α} (h:L.Nodup):(gst ok own L w).Nodup:=by
 unfold gst;split
 ·rename_i hc
  simp only[Bool.and_eq_true,Bool.not_eq_true',decide_eq_false_iff_not]at hc
  rw[List.nodup_append]
  refine⟨h,by simp,fun a ha b hb=> ?_⟩
  rw[List.mem_singleton]at hb
  subst hb
  rintro rfl
  exact hc.2 ha
 ·exact h
theorem xv {ok:α→α→Bool} {own:α}:∀ (ws L:List α),L.Nodup→(ws.foldl (gst ok own) L).Nodup:=by
 intro ws
 induction ws with
 | nil=>intro L h;exact h
 | cons v ws ih=>intro L h;exact ih _ (BF h)
structure GInv (nb:α→List α) (ok:α→α→Bool) (a:α) (L:List α) (k:Nat):Prop where
 a0:a∈L
 nd:L.Nodup
 rc:∀ x,x∈L→GReach nb ok a x
 cl:∀ x,x∈L.take k→∀ w,w∈nb x→ok x w=true→w∈L
 le:k≤L.length
theorem GInv.init (nb:α→List α) (ok:α→α→Bool) (a:α):GInv nb ok a [a] 0:=
 ⟨by simp,by simp,fun x hx=>by rw[List.mem_singleton]at hx;subst hx;exact .root,fun x hx=>by simp at hx,by simp⟩
theorem GInv.next {nb:α→List α} {ok:α→α→Bool} {a:α} {L:List α} {k:Nat} (h:GInv nb ok a L k) (hk:k<L.length):GInv nb ok a (grnd nb ok L L[k]) (k+1):=by
 obtain⟨e,he⟩:=uz ok L[k] (nb L[k]) L
 have hown:L[k]∈L:=List.getElem_mem hk
 refine⟨mJ h.a0,xv _ _ h.nd,fun x hx=> ?_,fun x hx w hw hok=> ?_,?_⟩
 ·rcases DU _ _ _ hx with hx |⟨hx,hok⟩
  ·exact h.rc x hx
  ·exact .step _ _ (h.rc _ hown) hx hok
 ·have ht:(grnd nb ok L L[k]).take (k+1)=L.take k++[L[k]]:=by
   unfold grnd
   rw[he,List.take_append_of_le_length (by omega),List.take_succ_eq_append_getElem hk]
  rw[ht,List.mem_append,List.mem_singleton]at hx
  rcases hx with hx |rfl
  ·exact mJ (h.cl x hx w hw hok)
  ·exact BB _ _ w hw hok
 ·unfold grnd;rw[he,List.length_append];omega
theorem GInv.done {nb:α→List α} {ok:α→α→Bool} {a:α} {L:List α} {k:Nat} (h:GInv nb ok a L k) (hk:¬k<L.length) (x:α):x∈L↔GReach nb ok a x:=by
 refine⟨h.rc x,fun hx=> ?_⟩
 induction hx with
 | root=>exact h.a0
 | step p q _ hq hok ih=>exact h.cl p (by rw[List.take_of_length_le (by omega)];exact ih) q hq hok
theorem GReach.symm {nb:α→List α} {ok:α→α→Bool} (hs:∀ p q,q∈nb p→ok p q=true→p∈nb q∧ok q p=true) {a b:α} (h:GReach nb ok a b):GReach nb ok b a:=by
  induction h with
  | root=>exact .root
  | step p q _ hq hok ih=>
    obtain⟨h1,h2⟩:=hs p q hq hok
    exact GReach.trans (.step q p .root h1 h2) ih
end
theorem iU:∀ (N:Nat) (L:List Nat),L.Nodup→(∀ x,x∈L→x<N)→L.length≤N:=by
  intro N
  induction N with
  | zero=>
    intro L _ h
    cases L with
    | nil=>simp
    | cons a L=>exact absurd (h a (by simp)) (by omega)
  | succ N ih=>
    intro L hn h
    by_cases hm:N∈L
    · have h1:=ih (L.erase N) (hn.erase N) (fun x hx=>by
        have h2:=h x (List.mem_of_mem_erase hx)
        have h3:x≠N:=by rintro rfl;exact(List.Nodup.not_mem_erase hn) hx
        omega)
      rw[List.length_erase_of_mem hm]at h1
      omega
    · have h1:=ih L hn (fun x hx=>by
        have h2:=h x hx
        have h3:x≠N:=by rintro rfl;exact hm hx
        omega)
      omega
section
variable (nb:Nat→List Nat) (ok:Nat→Bool)
def xi (rec:List Nat→Nat→List Nat) (L:List Nat) (w:Nat):List Nat:=if(ok w&& !decide (w∈L))=true then rec L w else L
def dfs:Nat→List Nat→Nat→List Nat
 | 0,L,_=>L
 | n+1,L,a=>(nb a).foldl (xi ok (dfs n)) (L++[a])
end
def okE (ok:Nat→Bool) (_ w:Nat):Bool:=ok w
structure DInv (nb:Nat→List Nat) (ok:Nat→Bool) (N:Nat) (L:List Nat) (a:Nat) (M e:List Nat):Prop where
 eq:M=L++[a]++e
 nd:M.Nodup
 lt:∀ x,x∈M→x<N
 rc:∀ x,x∈e→GReach nb (okE ok) a x
 cl:∀ x,x∈e→∀ w,w∈nb x→ok w=true→w∈M
theorem Ac {nb:Nat→List Nat} {ok:Nat→Bool} {N:Nat} (hnb:∀ a w,w∈nb a→w<N):∀ n L a,L.Nodup→(∀ x,x∈L→x<N)→a∉L→a<N→N<n+L.length→
    ∃ e,DInv nb ok N L a (dfs nb ok n L a) e∧∀ w,w∈nb a→ok w=true→w∈dfs nb ok n L a:=by
  intro n
  induction n with
  | zero=>
    intro L a hn hl ha _ hN
    have:=iU N L hn hl
    omega
  | succ n ih=>
    intro L a hn hl ha haN hN
    have fold:∀ (ws:List Nat),(∀ w,w∈ws→w<N)→∀ M e,DInv nb ok N L a M e→(∀ w,w∈ws→w∈nb a)→∃ e',DInv nb ok N L a (ws.foldl (xi ok (dfs nb ok n)) M) e'∧(∀ x,x∈M→x∈ws.foldl (xi ok (dfs nb ok n)) M)∧∀ w,w∈ws→ok w=true→w∈ws.foldl (xi ok (dfs nb ok n)) M:=by
      intro ws
      induction ws with
      | nil=>intro _ M e hM _;exact⟨e,hM,fun x h=>h,fun w h=>by cases h⟩
      | cons v ws ih2=>
        intro hws M e hM hsub
        rw[List.foldl_cons]
        by_cases hc:(ok v&& !decide (v∈M))=true
        · have e1:xi ok (dfs nb ok n) M v=dfs nb ok n M v:=by unfold xi;rw[if_pos hc]
          rw[e1]
          simp only[Bool.and_eq_true,Bool.not_eq_true',decide_eq_false_iff_not]at hc
          have hML:M.length=L.length+1+e.length:=by rw[hM.eq];simp;omega
          obtain⟨e2,d2,c2⟩:=ih M v hM.nd hM.lt hc.2 (hws v (by simp)) (by omega)
          have hsubM:∀ x,x∈M→x∈dfs nb ok n M v:=fun x hx=>by rw[d2.eq];simp [hx]
          have hav:GReach nb (okE ok) a v:= .step a v .root (hsub v (by simp)) hc.1
          obtain⟨e3,d3,s3,a3⟩:=ih2 (fun w hw=>hws w (by simp [hw])) (dfs nb ok n M v) (e++[v]++e2) ⟨by rw[d2.eq,hM.eq];simp,d2.nd,d2.lt,fun x hx=>by
              simp only[List.mem_append,List.mem_singleton]at hx
              rcases hx with(hx |rfl) |hx
              · exact hM.rc x hx
              · exact hav
              · exact hav.trans (d2.rc x hx),fun x hx w hw hok=>by
              simp only[List.mem_append,List.mem_singleton]at hx
              rcases hx with(hx |rfl) |hx
              · exact hsubM w (hM.cl x hx w hw hok)
              · exact c2 w hw hok
              · exact d2.cl x hx w hw hok⟩ (fun w hw=>hsub w (by simp [hw]))
          refine⟨e3,d3,fun x hx=>s3 x (hsubM x hx),fun w hw hok=> ?_⟩
          rcases List.mem_cons.1 hw with rfl |hw
          · refine s3 w ?_;rw[d2.eq];simp
          · exact a3 w hw hok
        · have e1:xi ok (dfs nb ok n) M v=M:=by unfold xi;rw[if_neg hc]
          rw[e1]
          obtain⟨e3,d3,s3,a3⟩:=ih2 (fun w hw=>hws w (by simp [hw])) M e hM (fun w hw=>hsub w (by simp [hw]))
          refine⟨e3,d3,s3,fun w hw hok=> ?_⟩
          rcases List.mem_cons.1 hw with rfl |hw
          · rw[hok]at hc
            simp only[Bool.true_and,Bool.not_eq_true',decide_eq_false_iff_not,Classical.not_not]at hc
            exact s3 w hc
          · exact a3 w hw hok
    obtain⟨e,d,_,c⟩:=fold (nb a) (hnb a) (L++[a]) [] ⟨by simp,by
        rw[List.nodup_append]
        refine⟨hn,by simp,fun x hx y hy=> ?_⟩
        rw[List.mem_singleton]at hy;subst hy
        rintro rfl;exact ha hx,fun x hx=>by
        simp only[List.mem_append,List.mem_singleton]at hx
        rcases hx with hx |rfl
        · exact hl x hx
        · exact haN,fun x hx=>(by cases hx),fun x hx=>(by cases hx)⟩ (fun w hw=>hw)
    exact⟨e,d,c⟩
def Closed (nb:Nat→List Nat) (ok:Nat→Bool) (S:Nat→Prop):Prop:=∀ x,S x→∀ w,w∈nb x→ok w=true→S w
theorem Closed.reach {nb:Nat→List Nat} {ok:Nat→Bool} {S:Nat→Prop} (h:Closed nb ok S) {a x:Nat} (ha:S a) (hx:GReach nb (okE ok) a x):S x:=by
 induction hx with
 | root=>exact ha
 | step p q _ hq hok ih=>exact h p ih q hq hok
theorem DC {nb:Nat→List Nat} {ok:Nat→Bool} {N:Nat} (hnb:∀ a w,w∈nb a→w<N) {L:List Nat} {a n:Nat} (hn:L.Nodup) (hl:∀ x,x∈L→x<N) (ha:a∉L) (haN:a<N) (hN:N<n+L.length) (hc:Closed nb ok (· ∈L)) (x:Nat):
    x∈dfs nb ok n L a↔(x∈L∨GReach nb (okE ok) a x):=by
  obtain⟨e,d,c⟩:=Ac hnb n L a hn hl ha haN hN
  have hcl:Closed nb ok (· ∈dfs nb ok n L a):=by
    intro v hv w hw hok
    rw[d.eq]at hv
    simp only[List.mem_append,List.mem_singleton]at hv
    rcases hv with(hv |rfl) |hv
    · have:=hc v hv w hw hok
      rw[d.eq];simp [this]
    · exact c w hw hok
    · exact d.cl v hv w hw hok
  constructor
  · intro h
    rw[d.eq]at h
    simp only[List.mem_append,List.mem_singleton]at h
    rcases h with(h |rfl) |h
    · exact .inl h
    · exact .inr .root
    · exact .inr (d.rc x h)
  · rintro(h |h)
    · rw[d.eq];simp [h]
    · exact hcl.reach (by rw[d.eq];simp) h
def jz (nb:Nat→List Nat) (ok:Nat→Bool) (j:Nat):Prop:=ok j=true∧∀ i,i<j→ok i=true→¬GReach nb (okE ok) i j
open Classical in
noncomputable def lA (nb:Nat→List Nat) (ok:Nat→Bool) (k:Nat):Nat:=((List.range k).filter (fun j=>decide (jz nb ok j))).length
theorem CD {nb:Nat→List Nat} {ok:Nat→Bool} {k:Nat} (h:jz nb ok k):lA nb ok (k+1)=lA nb ok k+1:=by
 unfold lA;rw[List.range_succ,List.filter_append,List.length_append];simp [h]
theorem Fy {nb:Nat→List Nat} {ok:Nat→Bool} {k:Nat} (h:¬jz nb ok k):lA nb ok (k+1)=lA nb ok k:=by
 unfold lA;rw[List.range_succ,List.filter_append,List.length_append];simp [h]
theorem Fx (nb:Nat→List Nat) (ok:Nat→Bool) (k:Nat):lA nb ok k≤k:=by
 unfold lA;exact Nat.le_trans (List.length_filter_le _ _) (by simp)
def mo (nb:Nat→List Nat) (ok:Nat→Bool) (k x:Nat):Prop:=∃ j,j<k∧ok j=true∧GReach nb (okE ok) j x
theorem lw (nb:Nat→List Nat) (ok:Nat→Bool) (k:Nat):Closed nb ok (mo nb ok k):=by
 rintro x ⟨j,h1,h2,h3⟩ w hw hok
 exact⟨j,h1,h2,.step x w h3 hw hok⟩
theorem oi {nb:Nat→List Nat} {ok:Nat→Bool} {k:Nat} (h:ok k=true):jz nb ok k↔¬mo nb ok k k:=by
 unfold jz mo
 constructor
 ·rintro⟨_,h2⟩ ⟨j,h3,h4,h5⟩;exact h2 j h3 h4 h5
 ·intro h2;exact⟨h,fun i hi hok hr=>h2 ⟨i,hi,hok,hr⟩⟩
theorem vB {nb:Nat→List Nat} {ok:Nat→Bool} {k:Nat} (h:ok k=true) (x:Nat):mo nb ok (k+1) x↔(mo nb ok k x∨GReach nb (okE ok) k x):=by
 unfold mo
 constructor
 ·rintro⟨j,h1,h2,h3⟩
  rcases Nat.lt_or_ge j k with h4 |h4
  ·exact .inl ⟨j,h4,h2,h3⟩
  ·have:j=k:=by omega
   subst this;exact .inr h3
 ·rintro(⟨j,h1,h2,h3⟩ |h3)
  ·exact⟨j,by omega,h2,h3⟩
  ·exact⟨k,by omega,h,h3⟩
theorem CI {nb:Nat→List Nat} {ok:Nat→Bool} {k:Nat} (h:ok k=false∨mo nb ok k k) (x:Nat):mo nb ok (k+1) x↔mo nb ok k x:=by
 constructor
 ·rintro⟨j,h1,h2,h3⟩
  rcases Nat.lt_or_ge j k with h4 |h4
  ·exact⟨j,h4,h2,h3⟩
  ·have:j=k:=by omega
   subst this
   rcases h with h |h
   ·rw[h]at h2;cases h2
   ·exact(lw nb ok j).reach h h3
 ·rintro⟨j,h1,h2,h3⟩;exact⟨j,by omega,h2,h3⟩
theorem xR {nb:Nat→List Nat} {ok:Nat→Bool} {N:Nat} (h0:ok 0=true) (h:lA nb ok N=1):∀ x,x<N→ok x=true→GReach nb (okE ok) 0 x:=by
  classical
  have h00:jz nb ok 0:=⟨h0,fun i hi=>by omega⟩
  have hall:∀ x,x<N→jz nb ok x→x=0:=by
    intro x hx hr
    unfold lA at h
    rcases Nat.eq_zero_or_pos x with h1 |h1
    · exact h1
    · exfalso
      have hs:[0,x].Sublist ((List.range N).filter (fun j=>decide (jz nb ok j))):=by
        have h2:[0,x].Sublist (List.range N):=by
          have e:List.range N=List.range x++(x::(List.range' (x+1) (N-x-1))):=by
            rw[List.range_eq_range',List.range_eq_range']
            have e1:N=x+(N-x-1+1):=by omega
            conv=>lhs;rw[e1]
            rw[←List.range'_append_1,List.range'_succ]
            simp
          rw[e]
          exact List.Sublist.append (List.singleton_sublist.2 (List.mem_range.2 h1):[0].Sublist (List.range x)) (List.singleton_sublist.2 (List.mem_cons_self):[x].Sublist (x::List.range' (x+1) (N-x-1)))
        have h3:=h2.filter (fun j=>decide (jz nb ok j))
        have e2:[0,x].filter (fun j=>decide (jz nb ok j))=[0,x]:=by simp [h00,hr]
        rwa [e2]at h3
      have:=hs.length_le
      rw[h]at this
      simp at this
  intro x
  induction x using Nat.strongRecOn with
  | _ x ih=>
    intro hx hok
    by_cases hr:jz nb ok x
    · rw[hall x hx hr];exact .root
    · unfold jz at hr
      rw[not_and]at hr
      have:=hr hok
      simp only[Classical.not_forall,Classical.not_not]at this
      obtain⟨i,hi,hio,hir⟩:=this
      exact(ih i hi (by omega) hio).trans hir
structure Form where
 H:Nat→Nat→Int
 V:Nat→Nat→Int
def dF (f:Form) (c:Nat × Nat):Int:=f.H c.1 c.2+f.V (c.1+1) c.2-f.H c.1 (c.2+1)-f.V c.1 c.2
def kD (f:Nat→Int):Nat→Int
 | 0=>0
 | n+1=>kD f n+f n
theorem BR {f:Form} {n:Nat} (h:∀ x y,x<n→y<n→dF f (x,y)=0):∃ p:Nat→Nat→Int,(∀ x y,x<n→y≤n→p (x+1) y=p x y+f.H x y)∧∀ x y,p x (y+1)=p x y+f.V x y:=by
  refine⟨fun x y=>kD (fun j=>f.H j 0) x+kD (f.V x) y,fun x y hx hy=> ?_,fun x y=> ?_⟩
  · induction y with
    | zero=>simp only[kD];omega
    | succ y ih=>
      have h1:=ih (by omega)
      have h2:=h x y hx (by omega)
      unfold dF at h2
      simp only[kD]at h1 h2⊢
      omega
  · simp only[kD];omega
def c10 (k:Nat):Cel:=⟨((k%10:Nat):Int)-1,((k/10:Nat):Int)-1⟩
def bq (s k:Nat):Bool:=decide (k<100)&& !bO s (c10 k)
def mb (k t:Nat):Bool:=decide (1≤k%10+t%3)&&decide (k%10+t%3≤10)&&(decide (1≤k/10+t/3)&&decide (k/10+t/3≤10))
def vO (k t:Nat):Nat:=(k/10+t/3-1)*10+(k%10+t%3-1)
def fK (k:Nat):List Nat:=((List.range 9).filter (mb k)).map (vO k)
theorem ma {k w:Nat} (_hk:k<100):w∈fK k↔w<100∧(w%10≤k%10+1∧k%10≤w%10+1)∧(w/10≤k/10+1∧k/10≤w/10+1):=by
 unfold fK
 rw[List.mem_map]
 constructor
 ·rintro⟨t,ht,rfl⟩
  rw[List.mem_filter,List.mem_range]at ht
  obtain⟨h9,ho⟩:=ht
  unfold mb at ho
  simp only[Bool.and_eq_true,decide_eq_true_eq]at ho
  have h3:t/3<3:=by omega
  unfold vO
  generalize ha:t/3=a at*
  generalize hb:t%3=b at*
  generalize hc:k/10=c at*
  generalize hd:k%10=d at*
  have:b<3:=by omega
  omega
 ·rintro⟨h1,h2,h3⟩
  refine⟨(w/10+1-k/10)*3+(w%10+1-k%10),?_,?_⟩
  ·rw[List.mem_filter,List.mem_range]
   have e1:((w/10+1-k/10)*3+(w%10+1-k%10))/3=w/10+1-k/10:=by omega
   have e2:((w/10+1-k/10)*3+(w%10+1-k%10))%3=w%10+1-k%10:=by omega
   refine⟨by omega,?_⟩
   unfold mb
   rw[e1,e2]
   simp only[Bool.and_eq_true,decide_eq_true_eq]
   omega
  ·have e1:((w/10+1-k/10)*3+(w%10+1-k%10))/3=w/10+1-k/10:=by omega
   have e2:((w/10+1-k/10)*3+(w%10+1-k%10))%3=w%10+1-k%10:=by omega
   unfold vO
   rw[e1,e2];omega
theorem Az (a w:Nat) (h:w∈fK a):w<100:=by
 unfold fK at h
 rw[List.mem_map]at h
 obtain⟨t,ht,rfl⟩:=h
 rw[List.mem_filter,List.mem_range]at ht
 obtain⟨h9,ho⟩:=ht
 unfold mb at ho
 simp only[Bool.and_eq_true,decide_eq_true_eq]at ho
 unfold vO;omega
theorem dG {s k:Nat} (h:bq s k=true):k<100:=by
 unfold bq at h;simp only[Bool.and_eq_true,decide_eq_true_eq]at h;exact h.1
theorem xw {s:Nat} (p q:Nat) (hp:bq s p=true) (hq:q∈fK p) (h:okE (bq s) p q=true):p∈fK q∧okE (bq s) q p=true:=by
 have h1:=dG hp
 have h2:bq s q=true:=h
 refine⟨?_,hp⟩
 rw[ma (dG h2)]
 rw[ma h1]at hq
 omega
noncomputable def gK (s:Nat):Nat:=lA fK (bq s) 100
def tq (s x y:Nat):Bool:=let a:=bO s ⟨x,y⟩;let b:=bO s ⟨x+1,y⟩;let c:=bO s ⟨x,y+1⟩;let d:=bO s ⟨x+1,y+1⟩;(decide (a=d)&&decide (b=c))&& !decide (a=b)
def uj (s:Nat):Bool:=(List.range 7).any fun y=>(List.range 7).any fun x=>tq s x y
def iz (s:Nat) (c:Nat × Nat):Prop:=bO s ⟨(c.1:Int)-1,(c.2:Int)-1⟩=true
theorem mK {s:Nat} {c:Nat × Nat} (h1:c.1<10) (h2:c.2<10):bq s (c.2*10+c.1)=true↔¬iz s c:=by
 unfold bq iz c10
 have e1:(c.2*10+c.1)%10=c.1:=by omega
 have e2:(c.2*10+c.1)/10=c.2:=by omega
 rw[e1,e2]
 simp only[Bool.and_eq_true,decide_eq_true_eq,Bool.not_eq_true',Bool.not_eq_true]
 constructor
 ·exact fun h=>h.2
 ·exact fun h=>⟨by omega,h⟩
theorem xC {s:Nat} {x y:Int} (h:bO s ⟨x,y⟩=true):(0≤x∧x≤7)∧(0≤y∧y≤7):=bL.1 (dk h)
def mkI (L:List Nat):List Int:=(List.range 100).map (fun i=>if i∈L then 1 else 0)
theorem oW (L:List Nat):(mkI L).length=100:=by unfold mkI;simp
theorem JQ {L:List Nat} {i:Nat} (h:i<100):gI (mkI L) i=if i∈L then 1 else 0:=by
 rw[dh (by rw[oW];exact h)];unfold mkI;simp
theorem ii {L:List Nat} {i:Nat} (h:i<100):gI (mkI L) i=0↔i∉L:=by
 rw[JQ h];by_cases hm:i∈L<;>simp [hm]
theorem wn (L:List Nat) (k:Nat):(mkI L).set k 1=mkI (L++[k]):=by
 apply List.ext_getElem
 ·simp [mkI]
 ·intro i h1 h2
  rw[List.getElem_set]
  unfold mkI
  simp only[List.getElem_map,List.getElem_range,List.mem_append,List.mem_singleton]
  by_cases e:k=i
  ·subst e;simp
  ·rw[if_neg e]
   have:¬i=k:=fun h=>e h.symm
   simp [this]
structure ScanI (s k:Nat) (L:List Nat):Prop where
 nd:L.Nodup
 lt:∀ x,x∈L→x<100
 se:∀ x,x∈L↔mo fK (bq s) k x
theorem ScanI.zero (s:Nat):ScanI s 0 []:=⟨by simp,by simp,fun x=>⟨fun h=>by simp at h,fun⟨j,h,_⟩=>by omega⟩⟩
theorem ScanI.closed {s k:Nat} {L:List Nat} (h:ScanI s k L):Closed fK (bq s) (· ∈L):=by
  intro x hx w hw hok
  exact(h.se w).2 (lw fK (bq s) k x ((h.se x).1 hx) w hw hok)
theorem ScanI.skip {s k:Nat} {L:List Nat} (h:ScanI s k L) (hk:bq s k=false∨k∈L):ScanI s (k+1) L∧¬jz fK (bq s) k:=by
 have h1:bq s k=false∨mo fK (bq s) k k:=hk.imp id (h.se k).1
 refine⟨⟨h.nd,h.lt,fun x=>by rw[h.se x,CI h1]⟩,fun hr=> ?_⟩
 rcases h1 with h2 |h2
 ·rw[hr.1]at h2;cases h2
 ·exact(oi hr.1).1 hr h2
theorem ScanI.deep {s k n:Nat} {L:List Nat} (h:ScanI s k L) (hk:bq s k=true) (hn:k∉L) (hf:100<n+L.length):ScanI s (k+1) (dfs fK (bq s) n L k)∧jz fK (bq s) k:=by
 have hd:=DC Az h.nd h.lt hn (dG hk) hf h.closed
 obtain⟨e,d,_⟩:=Ac Az n L k h.nd h.lt hn (dG hk) hf
 refine⟨⟨d.nd,d.lt,fun x=>by rw[hd x,h.se x,vB hk]⟩,(oi hk).2 fun hs=>hn ((h.se k).2 hs)⟩
theorem FD {s k:Nat} {L lst:List Nat} {i:Nat} (h:ScanI s k L) (hk:bq s k=true) (hn:k∉L) (hg:GInv fK (okE (bq s)) k lst i) {x w:Nat} (hx:x∈lst) (hw:w∈fK x) (hok:bq s w=true):w∉L:=by
  intro hwL
  have h1:GReach fK (okE (bq s)) k x:=hg.rc x hx
  have hf:∀ y,GReach fK (okE (bq s)) k y→bq s y=true:=fun y hy=>by
    cases hy with
    | root=>exact hk
    | step p q _ _ hok=>exact hok
  have h2:GReach fK (okE (bq s)) k w:= .step x w h1 hw hok
  have hsym:∀ y,GReach fK (okE (bq s)) k y→GReach fK (okE (bq s)) y k:=by
    intro y hy
    induction hy with
    | root=>exact .root
    | step p q hp hq hok ih=>
      obtain⟨g1,g2⟩:=xw p q (hf p hp) hq hok
      exact GReach.trans (.step q p .root g1 g2) ih
  exact hn ((h.se k).2 ((lw fK (bq s) k).reach ((h.se w).1 hwL) (hsym w h2)))
theorem ScanI.wide {s k:Nat} {L lst:List Nat} {i:Nat} (h:ScanI s k L) (hk:bq s k=true) (hn:k∉L) (hg:GInv fK (okE (bq s)) k lst i) (hi:¬i<lst.length) (hd:∀ x,x∈lst→x∉L):ScanI s (k+1) (L++lst)∧jz fK (bq s) k:=by
 have hlt:∀ x,x∈lst→x<100:=fun x hx=>by
  have h1:=hg.rc x hx
  cases h1 with
  | root=>exact dG hk
  | step p q _ _ hok=>exact dG hok
 refine⟨⟨?_,fun x hx=> ?_,fun x=> ?_⟩,(oi hk).2 fun hs=>hn ((h.se k).2 hs)⟩
 ·rw[List.nodup_append]
  exact⟨h.nd,hg.nd,fun a ha b hb e=>hd b hb (e▸ha)⟩
 ·rcases List.mem_append.1 hx with hx |hx
  ·exact h.lt x hx
  ·exact hlt x hx
 ·rw[List.mem_append,h.se x,vB hk,hg.done hi x]
def DV (c:Cel):List Dom:=[⟨c.x,c.y,false⟩,⟨c.x,c.y,true⟩,⟨c.x-1,c.y,false⟩,⟨c.x,c.y-1,true⟩]
theorem Dy {c:Cel} {d:Dom} (h:cvr c d=true):d∈DV c:=by
 unfold cvr ca cb at h
 simp only[Bool.and_eq_true,Bool.or_eq_true,decide_eq_true_eq]at h
 obtain⟨_,h⟩:=h
 obtain⟨x,y,b⟩:=d
 obtain⟨cx,cy⟩:=c
 unfold DV
 cases b<;>simp only[Cel.mk.injEq,Bool.false_eq_true,if_false,if_true]at h<;>simp<;>omega
theorem CO {l:List Int} {ds:List Dom} (h:qT l ds=true) {c:Cel} (hc:bO (ao l) c=true):∃ d,d∈ds∧cvr c d=true:=by
 unfold qT at h
 simp only[Bool.and_eq_true,decide_eq_true_eq]at h
 have ho:=dk hc
 have h1:=oF ds ho
 rw[h.2]at h1
 unfold bO at hc
 rw[Bool.and_eq_true]at hc
 rw[hc.2]at h1
 exact List.any_eq_true.1 h1.symm
theorem pd {l:List Int} {ds:List Dom} (h:qS l ds=true) {c:Cel} {d e:Dom} (hd:d∈ds) (he:e∈ds) (h1:cvr c d=true) (h2:cvr c e=true):d=e:=by
 obtain⟨i,hi,rfl⟩:=List.getElem_of_mem hd
 obtain⟨j,hj,rfl⟩:=List.getElem_of_mem he
 have key:∀ i j (hi:i<ds.length) (hj:j<ds.length),i<j→cvr c ds[i]=true→cvr c ds[j]=true→False:=by
  intro i j hi hj hij h1 h2
  have hs:=(sH h).2 j hj
  unfold tP at hs
  simp only[Bool.and_eq_true]at hs
  have hf:=hs.2.1
  rw[sz,gl hj]at hf
  simp only[Bool.and_eq_true,Bool.not_eq_true']at hf
  have hok:okD ds[j]=true:=by rw[←gl hj];exact hs.1
  unfold cvr at h2
  simp only[Bool.and_eq_true,Bool.or_eq_true,decide_eq_true_eq]at h2
  have hcb:(lQ (ds.take j)).testBit (idx c)=true:=by
   have hco:okc c.x c.y=true:=by
    rcases h2.2 with e |e
    ·rw[←e];exact md hok
    ·rw[←e];exact oY hok
   rw[oF _ hco,List.any_eq_true]
   exact⟨ds[i],List.mem_take_iff_getElem.2 ⟨i,by omega,rfl⟩,h1⟩
  rcases h2.2 with e |e
  ·rw[←e,hf.1.2]at hcb;cases hcb
  ·rw[←e,hf.2.2]at hcb;cases hcb
 rcases Nat.lt_trichotomy i j with hij |rfl |hij
 ·exact(key i j hi hj hij h1 h2).elim
 ·rfl
 ·exact(key j i hj hi hij h2 h1).elim
theorem vU {c:Cel} {d:Dom} (h:okD d=true) (h2:ca d=c∨cb d=c):cvr c d=true:=by
 unfold cvr;rw[h,Bool.true_and,Bool.or_eq_true,decide_eq_true_eq,decide_eq_true_eq];exact h2
theorem rR {l:List Int} {ds:List Dom} (h:qS l ds=true) {d:Dom} (hd:d∈ds):okD d=true:=by
 obtain⟨j,hj,rfl⟩:=List.getElem_of_mem hd
 rw[←gl hj];exact Em h hj
def sg (n:Int):Int:=if n%2=1 then 1 else -1
theorem AW (n:Int):sg (n+1)= -(sg n):=by unfold sg;split<;>split<;>omega
def hE (ds:List Dom) (x y:Int):Int:=if(⟨x,y-1,true⟩:Dom)∈ds then -3*sg (x+y)else sg (x+y)
def vE (ds:List Dom) (x y:Int):Int:=if(⟨x-1,y,false⟩:Dom)∈ds then 3*sg (x+y)else -(sg (x+y))
def nM (ds:List Dom):Form:=⟨fun X Y=>hE ds ((X:Int)-1) ((Y:Int)-1),fun X Y=>vE ds ((X:Int)-1) ((Y:Int)-1)⟩
theorem pX {l:List Int} {ds:List Dom} (h:qT l ds=true) (c:Nat × Nat) (hc:iz (ao l) c):dF (nM ds) c=0:=by
 obtain⟨X,Y⟩:=c
 have hp:qS l ds=true:=by unfold qT at h;simp only[Bool.and_eq_true]at h;exact h.1
 unfold iz at hc
 simp only at hc
 generalize hx:((X:Int)-1)=x at hc
 generalize hy:((Y:Int)-1)=y at hc
 obtain⟨d,hd,hcv⟩:=CO h hc
 have h4:=Dy hcv
 have e1:(⟨x,y-1,true⟩:Dom)∈ds↔d=⟨x,y-1,true⟩:=
  ⟨fun h5=>pd hp hd h5 hcv (vU (rR hp h5) (.inr (by unfold cb;simp))),fun h5=>h5▸hd⟩
 have e2:(⟨x,y,false⟩:Dom)∈ds↔d=⟨x,y,false⟩:=
  ⟨fun h5=>pd hp hd h5 hcv (vU (rR hp h5) (.inl rfl)),fun h5=>h5▸hd⟩
 have e3:(⟨x,y,true⟩:Dom)∈ds↔d=⟨x,y,true⟩:=
  ⟨fun h5=>pd hp hd h5 hcv (vU (rR hp h5) (.inl rfl)),fun h5=>h5▸hd⟩
 have e4:(⟨x-1,y,false⟩:Dom)∈ds↔d=⟨x-1,y,false⟩:=
  ⟨fun h5=>pd hp hd h5 hcv (vU (rR hp h5) (.inr (by unfold cb;simp))),fun h5=>h5▸hd⟩
 unfold dF nM
 simp only
 have hx1:(((X+1:Nat):Int)-1)=x+1:=by omega
 have hy1:(((Y+1:Nat):Int)-1)=y+1:=by omega
 rw[hx,hy,hx1,hy1]
 unfold hE vE
 rw[show y+1-1=y by omega,show x+1-1=x by omega]
 simp only[e1,e2,e3,e4]
 rw[show x+1+y=x+y+1 by omega,show x+(y+1)=x+y+1 by omega,AW]
 unfold DV at h4
 simp only[List.mem_cons,List.not_mem_nil,or_false]at h4
 rcases h4 with rfl |rfl |rfl |rfl<;>simp<;>omega
def cX (u:Nat):Int:=((u%9:Nat):Int)
def cY (u:Nat):Int:=((u/9:Nat):Int)
def okS (s:Nat) (_ w:Cel):Bool:=bO s w
abbrev PR (s:Nat) (a b:Cel):Prop:=GReach nbs (okS s) a b
theorem PR.has {s:Nat} {a b:Cel} (ha:bO s a=true) (h:PR s a b):bO s b=true:=by
 induction h with
 | root=>exact ha
 | step p q _ _ hok _=>exact hok
theorem ED {p q:Cel} (h:q∈nbs p):p∈nbs q:=by rw[Ay]at*;rw[EB];exact h
theorem PR.symm {s:Nat} {a b:Cel} (ha:bO s a=true) (h:PR s a b):PR s b a:=by
 induction h with
 | root=>exact .root
 | step p q hp hq hok ih=>exact GReach.trans (.step q p .root (ED hq) (PR.has ha hp)) ih
open Classical in
noncomputable def rq (s:Nat) (c:Cel):Nat:=gd ((bM s).filter (fun w=>decide (PR s c w)))
theorem HU (s:Nat) (c:Cel):rq s c<18446744073709551616:=wG (fun w hw=>dk (gw.1 (List.mem_filter.1 hw).1))
theorem pD {L:List Cel} (hL:∀ c∈L,okc c.x c.y=true) {w:Cel} (hw:okc w.x w.y=true):bO (gd L) w=true↔w∈L:=by
 unfold bO
 rw[hw,Bool.true_and,FF,decide_eq_true_eq]
 constructor
 ·rintro⟨c,hc,he⟩;rw[←iG (hL c hc) hw he];exact hc
 ·intro h;exact⟨w,h,rfl⟩
theorem pv {s:Nat} {c w:Cel} (hc:bO s c=true):bO (rq s c) w=true↔PR s c w:=by
 have hL:∀ d∈(bM s).filter (fun w=>@decide (PR s c w) (Classical.propDecidable _)),okc d.x d.y=true:=fun d hd=>dk (gw.1 (List.mem_filter.1 hd).1)
 constructor
 ·intro h
  have hw:=dk h
  have:=(pD hL hw).1 h
  simpa using(List.mem_filter.1 this).2
 ·intro h
  have hs:=PR.has hc h
  refine(pD hL (dk hs)).2 (List.mem_filter.2 ⟨gw.2 hs,by simpa using h⟩)
theorem Ij {a b:Nat} (ha:a<18446744073709551616) (hb:b<18446744073709551616) (h:∀ c:Cel,okc c.x c.y=true→(bO a c=true↔bO b c=true)):a=b:=by
 apply Nat.eq_of_testBit_eq;intro i
 rcases Nat.lt_or_ge i 64 with hi |hi
 ·have:=h (cN i) (fP hi)
  rw[Eh hi,Eh hi]at this
  rw[Bool.eq_iff_iff];exact this
 ·rw[Nat.testBit_lt_two_pow (Nat.lt_of_lt_of_le ha (Nat.pow_le_pow_right (n:=2) (i:=64) (by decide) hi)),Nat.testBit_lt_two_pow (Nat.lt_of_lt_of_le hb (Nat.pow_le_pow_right (n:=2) (i:=64) (by decide) hi))]
theorem HV {s:Nat} {c:Cel} {L:List Cel} {k:Nat} (hc:bO s c=true) (h:GInv nbs (okS s) c L k) (hk:¬k<L.length):gd L=rq s c:=by
 have hL:∀ d∈L,okc d.x d.y=true:=fun d hd=>dk (PR.has hc (h.rc d hd))
 refine Ij (wG hL) (HU s c) fun w hw=> ?_
 rw[pD hL hw,pv hc]
 exact h.done hk w
theorem Ed {s:Nat} {c:Cel} {L:List Cel} {k:Nat} (hc:bO s c=true) (h:GInv nbs (okS s) c L k):L.length≤64:=by
 have h1:(L.map idx).Nodup:=by
  rw[List.Nodup,List.pairwise_map]
  refine List.Pairwise.imp_of_mem (fun {a b} ha hb hab e=>hab ?_) h.nd
  exact iG (dk (PR.has hc (h.rc a ha))) (dk (PR.has hc (h.rc b hb))) e
 have:=iU 64 (L.map idx) h1 (fun x hx=>by
  obtain⟨d,hd,rfl⟩:=List.mem_map.1 hx
  exact eV (dk (PR.has hc (h.rc d hd))))
 simpa using this
theorem FE (L:List Cel) (w:Cel):gd (L++[w])=nw (gd L) w:=by unfold gd;rw[List.foldl_append];rfl
def Ft (s:Nat) (c:Cel):Prop:=∀ d,bO s d=true→idx d<idx c→¬PR s d c
open Classical in
noncomputable def Fv (s m:Nat):Nat:=((bM s).filter (fun c=>decide (idx c<m∧Ft s c))).length
noncomputable def li (s:Nat):Nat:=Fv s 64
theorem xr {s:Nat} {c:Cel} (hc:bO s c=true):(gC (bM (rq s c)) 0=c↔Ft s c)∧0<(bM (rq s c)).length:=by
 have hcc:c∈bM (rq s c):=gw.2 ((pv hc).2 .root)
 have hpos:0<(bM (rq s c)).length:=List.length_pos_of_mem hcc
 refine⟨⟨fun h d hd hlt hr=> ?_,fun h=> ?_⟩,hpos⟩
 ·have hdc:d∈bM (rq s c):=gw.2 ((pv hc).2 (PR.symm hd hr))
  obtain⟨j,hj,e⟩:=List.getElem_of_mem hdc
  rw[←gk hj]at e
  rcases Nat.eq_zero_or_pos j with rfl |hp
  ·rw[h]at e;subst e;omega
  ·have:=mp (s:=rq s c) hp hj
   rw[h,e]at this;omega
 ·have h0:PR s c (gC (bM (rq s c)) 0):=(pv hc).1 (gw.1 (qi hpos))
  have hs0:=PR.has hc h0
  obtain⟨j,hj,e⟩:=List.getElem_of_mem hcc
  rw[←gk hj]at e
  rcases Nat.eq_zero_or_pos j with rfl |hp
  ·exact e
  ·have:=mp (s:=rq s c) hp hj
   rw[e]at this
   exact absurd (PR.symm hc h0) (h _ hs0 this)
open Classical in
noncomputable def ms (l:List Int):Bool:=bj l&&(decide (li (ao l)=1)&&(decide (gK (ao l)=1)&& !uj (ao l)))
theorem Ik {l:List Int} (h:ms l=true):bj l=true∧li (ao l)=1∧gK (ao l)=1∧uj (ao l)=false:=by
 unfold ms at h;simp only[Bool.and_eq_true,decide_eq_true_eq,Bool.not_eq_true']at h;exact h
def inD (u:Nat) (d:Int × Int):Bool:=inB (cX u+d.1) 0 8&&inB (cY u+d.2) 0 8
def atU (u:Nat) (d:Int × Int):Nat:=((cY u+d.2)*9+(cX u+d.1)).toNat
def hnbT (dir:Nat→Int × Int) (u t:Nat):List Nat:=((List.range t).filter (fun j=>inD u (dir j))).map (fun j=>atU u (dir j))
def hnb (dir:Nat→Int × Int) (u:Nat):List Nat:=hnbT dir u 4
end Cl
end Go.Proofs.YtgmkkfdnmdohlaaGreatDoor
namespace Go.Proofs.YtgmkkfdnmdohlaaGreatDoor
namespace Cl
open Go.ChangeShapes Go.WideShapes Go.ChangeAt Go.RowKit
structure RIn (s:Nat) (c:Cel) (L:List Cel) (k:Nat) (M:List Cel) (j:Nat):Prop where
 eq:M=((nbs (gC L k)).take j).foldl (gst (okS s) (gC L k)) L
 nd:M.Nodup
 ok:∀ x,x∈M→bO s x=true
 kl:k+1≤M.length
theorem xz {s:Nat} {c:Cel} {L:List Cel} {k:Nat} (hc:bO s c=true) (h:GInv nbs (okS s) c L k) {x:Cel} (hx:x∈L):bO s x=true:=PR.has hc (h.rc x hx)
theorem RIn.zero {s:Nat} {c:Cel} {L:List Cel} {k:Nat} (hc:bO s c=true) (h:GInv nbs (okS s) c L k) (hk:k<L.length):RIn s c L k L 0:=
 ⟨rfl,h.nd,fun x hx=>xz hc h hx,hk⟩
theorem RIn.len {s:Nat} {c:Cel} {L M:List Cel} {k j:Nat} (h:RIn s c L k M j):M.length≤64:=by
 have h1:(M.map idx).Nodup:=by
  rw[List.Nodup,List.pairwise_map]
  refine List.Pairwise.imp_of_mem (fun {a b} ha hb hab e=>hab ?_) h.nd
  exact iG (dk (h.ok a ha)) (dk (h.ok b hb)) e
 have:=iU 64 (M.map idx) h1 (fun x hx=>by
  obtain⟨d,hd,rfl⟩:=List.mem_map.1 hx
  exact eV (dk (h.ok d hd)))
 simpa using this
theorem RIn.lt {s:Nat} {c:Cel} {L M:List Cel} {k j:Nat} (h:RIn s c L k M j):gd M<18446744073709551616:=wG fun x hx=>dk (h.ok x hx)
theorem RIn.mem {s:Nat} {c:Cel} {L M:List Cel} {k j:Nat} (h:RIn s c L k M j) {w:Cel} (hw:okc w.x w.y=true):bO (gd M) w=true↔w∈M:=pD (fun x hx=>dk (h.ok x hx)) hw
theorem xO (s:Nat) (own:Cel) (L:List Cel) {j:Nat} (hj:j<(nbs own).length):((nbs own).take (j+1)).foldl (gst (okS s) own) L=gst (okS s) own (((nbs own).take j).foldl (gst (okS s) own) L) (gC (nbs own) j):=by
 rw[List.take_succ_eq_append_getElem hj,List.foldl_append,gk hj];rfl
theorem RIn.yes {s:Nat} {c:Cel} {L M:List Cel} {k j:Nat} (h:RIn s c L k M j) (hj:j<(nbs (gC L k)).length) (h1:bO s (gC (nbs (gC L k)) j)=true) (h2:bO (gd M) (gC (nbs (gC L k)) j)=false):RIn s c L k (M++[gC (nbs (gC L k)) j]) (j+1):=by
 have hn:gC (nbs (gC L k)) j∉M:=fun hm=>by
  rw[(h.mem (dk h1)).2 hm]at h2;cases h2
 refine⟨?_,?_,fun x hx=> ?_,by rw[List.length_append];have:=h.kl;omega⟩
 ·rw[xO s _ L hj,←h.eq,wc (ok:=okS s) (show okS s _ _=true from h1) hn]
 ·rw[List.nodup_append]
  refine⟨h.nd,by simp,fun a ha b hb e=> ?_⟩
  rw[List.mem_singleton]at hb
  subst hb;subst e;exact hn ha
 ·rw[List.mem_append,List.mem_singleton]at hx
  rcases hx with hx |rfl
  ·exact h.ok x hx
  ·exact h1
theorem RIn.no {s:Nat} {c:Cel} {L M:List Cel} {k j:Nat} (h:RIn s c L k M j) (hj:j<(nbs (gC L k)).length) (h1:bO s (gC (nbs (gC L k)) j)=false∨bO (gd M) (gC (nbs (gC L k)) j)=true):RIn s c L k M (j+1):=by
 refine⟨?_,h.nd,h.ok,h.kl⟩
 rw[xO s _ L hj,←h.eq,Ef]
 exact h1.imp id fun h2=>(h.mem (EC hj)).1 h2
theorem RIn.out {s:Nat} {c:Cel} {L M:List Cel} {k j:Nat} (hg:GInv nbs (okS s) c L k) (hk:k<L.length) (h:RIn s c L k M j) (hj:¬j<(nbs (gC L k)).length):GInv nbs (okS s) c M (k+1):=by
 have e:=h.eq
 rw[List.take_of_length_le (by omega)]at e
 rw[e,gk hk]
 exact hg.next hk
theorem rinit {s:Nat} {c:Cel}:GInv nbs (okS s) c [c] 0:=GInv.init _ _ _
noncomputable def pcs (l:List Int) (c:Cel):List Cel:=if gA l c=true then bM (rq (ao l) c)else []
theorem JR {l:List Int} {c:Cel} (h:gA l c=true):bj l=true∧bO (ao l) c=true:=by
 unfold gA at h;unfold bO;simp only[Bool.and_eq_true]at*;exact⟨h.1,h.2⟩
open Classical in
noncomputable def tA (S:Nat) (c:Cel):Bool:=decide (Ft S c)
theorem BQ (S:Nat):li S=((bM S).filter (tA S)).length:=by
 unfold li Fv
 congr 1
 refine List.filter_congr fun c hc=> ?_
 unfold tA
 rw[decide_eq_decide]
 exact⟨fun h=>h.2,fun h=>⟨eV (dk (gw.1 hc)),h⟩⟩
noncomputable def pcN (l:List Int):Nat:=if bj l=true then li (ao l)else 0
theorem AK {l:List Int} (h:bj l=true):pcN l=li (ao l):=by unfold pcN;rw[if_pos h]
theorem Kl (l:List Int):pcN l=((cellsOf l).filter (tA (ao l))).length:=by
 unfold pcN cellsOf;split
 ·exact BQ _
 ·rfl
theorem Dm {l:List Int} {k:Nat} (h:k<(cellsOf l).length):gA l (gC (cellsOf l) k)=true∧bO (ao l) (gC (cellsOf l) k)=true:=by
 have h1:=qi h
 have hr:bj l=true:=by
  rcases Bool.eq_false_or_eq_true (bj l)with hr |hr
  ·exact hr
  ·unfold cellsOf at h;rw[if_neg (by rw[hr];simp)]at h;simp at h
 have h2:bO (ao l) (gC (cellsOf l) k)=true:=by
  unfold cellsOf at h1⊢
  rw[if_pos hr]at h1⊢
  exact gw.1 h1
 refine⟨?_,h2⟩
 unfold gA;unfold bO at h2;rw[hr,h2];rfl
theorem BP {l:List Int} {k:Nat} (h:k<(cellsOf l).length):0<(pcs l (gC (cellsOf l) k)).length∧∀ b:Bool,(decide (gC (pcs l (gC (cellsOf l) k)) 0=gC (cellsOf l) k)=b)→tA (ao l) (gC (cellsOf l) k)=b:=by
 obtain⟨h1,h2⟩:=Dm h
 obtain⟨h3,h4⟩:=xr h2
 unfold pcs;rw[if_pos h1]
 refine⟨h4,fun b hb=> ?_⟩
 unfold tA;rw[←hb,decide_eq_decide];exact h3.symm
end Cl
end Go.Proofs.YtgmkkfdnmdohlaaGreatDoor
namespace Go.Proofs.YtgmkkfdnmdohlaaGreatDoor
namespace Cl
open Go.ChangeShapes Go.WideShapes Go.ChangeAt Go.RowKit
theorem zx:Tryz.prog.eqGuardType Tryz.prog.depth 70=false:=by kernel_rfl
theorem mU:(Tryz.prog.info? 4).map (·.size)=some 1:=by kernel_rfl
theorem er:(Tryz.prog.info? 70).map (·.size)=some 2:=by kernel_rfl
theorem jt:TI Tryz.prog 29 true 1:=⟨⟨_,Tryz.underlying29,rfl⟩,by kernel_rfl⟩
theorem mV:TI Tryz.prog 4 false 1:=⟨⟨_,Tryz.underlying4,rfl⟩,by kernel_rfl⟩
theorem cK:TI Tryz.prog 70 true 2:=⟨⟨_,Tryz.underlying70,rfl⟩,by kernel_rfl⟩
theorem cn:Tryz.prog.underlying 36=some (.slice 70):=Tryz.underlying36
theorem gM:Tryz.prog.underlying 77=some (.slice 4):=Tryz.underlying77
theorem BW:ZI Tryz.prog 4 (.bool false) 1 1:=by unfold ZI;kernel_rfl
theorem fM:ZI Tryz.prog 70 (.agg #[.int .i64 0,.int .i64 0]) 2 16:=by unfold ZI;kernel_rfl
theorem rB (l:List Int) (c:Cel) (hl:l.length≤4194304):Fn Tryz.prog 82 [.agg [(.slv l.length 1 (isl l):A)],.agg ([vI c.x,vI c.y].map A.val)] [.row 70 2 (pcs l c).length (csl (pcs l c))]:=by
 refine bm (N:=95) Tryz.func82 rfl (by kernel_rfl) rfl (Nat.le_of_ble_eq_true rfl) [2,3,12,14,17,20,23,26,29,37,40,49,56,66,73,74,77,87,92,93] (dN rfl) (fun W=> ?_)
 show Wp _ _ _ [kV 0 (V.b (.agg [(.slv l.length 1 (isl l):A)])),kV 1 (V.av [vI c.x,vI c.y]),kF 2,kF 3,kF 12,kF 14,kF 17,kF 20,kF 23,kF 26,kF 29,kF 37,kF 40,kF 49,kF 56,kF 66,kF 73,kF 74,kF 77,kF 87,kF 92,kF 93]
 refine sq (rg ?_)
 refine z ?_ (h:=fun Z=>bo (h:=2) Z xt (by exact ob1 rfl))
 refine z ?_ (h:=fun Z=>bo (h:=3) Z xt (by exact ob1 rfl))
 refine zk (nl (sq (rg ?_)))
 refine z ?_ (h:=fun Z=>b0C (h:=14) Z cn fM)
 refine za (nl (sq (sq (rg ?_))))
 refine z ?_ (h:=fun Z=>ab (xs:=[(.slv l.length 1 (isl l):A)]) Z jt rfl (by decide) rfl)
 refine z ?_ (h:=fun Z=>ab (xs:=[vI c.x,vI c.y].map A.val) Z cK rfl (by decide) rfl)
 refine z ?_ (h:=fun Z=>ag Z (eC l c (by omega)) (ac (ArgV.regv _ _ 1 _) (ac (ArgV.va va) an)) rv)
 refine z ?_ (h:=fun Z=>bn Z vt (bS rfl))
 refine nl ?_
 refine wi (b:=(!(gA l c))) (fun c1=> ?_) (fun c1=> ?_)
 ·skip
  have c2:(gA l c)=false:=by first |(rw[←Bool.not_eq_true'];exact c1) |simpa using c1
  refine sq (rg (zm (za (nl (aC ?_)))))
  exact VRes.tmp _ _ _ (by exact rfl) (iQ (h:=14) (L:=[]) (by kernel_rfl) (by unfold pcs;rw[if_neg (by simp_all)]) (by rfl))
 ·skip
  have c3:(gA l c)=true:=by first |(rw[←Bool.not_eq_false'];exact c1) |simpa using c1
  obtain⟨hro,hc⟩:=JR c3
  have hcx:=dk hc
  have hidx:=eV hcx
  refine sk (sq (rg ?_))
  refine z ?_ (h:=fun Z=>fJ (h:=20) (n:=64) (xs:=bsl (List.replicate 64 false)) Z gM BW vc vc rfl rfl (by decide) (by omega) (sO 64))
  refine za (nl (sq (rg (zm ?_))))
  refine z ?_ (h:=fun Z=>ab (xs:=[vI c.x,vI c.y].map A.val) Z cK rfl (by decide) rfl)
  refine z ?_ (h:=fun Z=>ag Z (gy c (by omega)) (ac (ArgV.va va) an) rv)
  refine z ?_ (h:=fun Z=>ix0 Z gM mU vt (hlt:=(by omega)))
  refine z ?_ (h:=fun _=>sB mV xc (by assumption))
  refine nl (sq (rg ?_))
  refine z ?_ (h:=fun Z=>ab (xs:=[vI c.x,vI c.y].map A.val) Z cK rfl (by decide) rfl)
  refine z ?_ (h:=fun Z=>aP (h:=26) (xs:=csl ([c]:List Cel)) Z cn fM (.cons va OpVs.nil) (by decide) (by decide) (by kernel_rfl) rfl)
  refine za (nl (sq (sq (rg (zk (nl (bkk ?_)))))))
  refine bg (fun((k,L):Nat × (List Cel))=>GInv nbs (okS (ao l)) c L k) (fun((k,L):Nat × (List Cel))=>[kP 2 2 0,kS 5 14 0 0,kS 6 20 0 64,kS 7 26 0 L.length,kI 8 ((k:Nat):Int),kO 2 29 1 true [(.slv l.length 1 (isl l):A)],kO 14 70 2 true (pl (csl [])),kO 20 4 1 true (pl (bsl (gE (gd L)))),kO 26 70 2 true (pl (csl L)),kF 3,kF 12,kF 17,kF 23,kF 29,kF 37,kF 40,kF 49,kF 56,kF 66,kF 73,kF 74,kF 77,kF 87,kF 92,kF 93]) (fun((k,L):Nat × (List Cel))=>64-k) ((0:Nat),([c]:List Cel)) (by exact rinit) (wkf id (wS<|wS<|wS<|wE (e:=(vsl (by rfl) rfl))<|wE (e:=(be (by rfl)))<|wX<|wP<|wO (e:=aJ (fun h=>h) (congrArg bsl (by(rw[yQ,ur];rfl))))<|wP<|by(iterate 16 refine wF ?_);exact wN)) ?_
  rintro⟨k,L⟩ inv4
  replace inv4:GInv nbs (okS (ao l)) c L k:=inv4
  have hg:=inv4
  have hgl:=Ed hc hg
  have hbl:=pR (gd L)
  refine sq (sq (rg (zm (zm ?_))))
  refine z ?_ (h:=fun Z=>lnS Z cn)
  refine z ?_ (h:=fun Z=>aa Z vt vt (bA rfl))
  refine nl ?_
  refine wi (fun c5=> ?_) (fun c5=> ?_)
  ·skip
   have c5P:=of_decide_eq_true c5
   have hR0:=RIn.zero hc hg (by omega)
   have hOk:=dk (xz hc hg (qi (l:=L) (k:=k) (by omega)))
   refine sk (sq (bkk (sq (rg (zm (zm ?_))))))
   refine z ?_ (h:=fun Z=>ix0 Z cn er vt (hlt:=(by omega)))
   refine z ?_ (h:=fun Z=>lC Z cK (by omega))
   refine z ?_ (h:=fun Z=>ag Z (nB (gC L k) ) (ac (ArgV.va va) an) (ResV.row _ _ _ _ 37))
   refine za (nl (sq (rg (zk (nl (bkk ?_))))))
   refine bg (fun((j,M):Nat × (List Cel))=>j≤(nbs (gC L k)).length∧RIn (ao l) c L k M j) (fun((j,M):Nat × (List Cel))=>[kP 2 2 0,kS 5 14 0 0,kS 6 20 0 64,kS 7 26 0 M.length,kI 8 ((k:Nat):Int),kS 9 37 0 ((nbs (gC L k)).length),kI 10 ((j:Nat):Int),kO 2 29 1 true [(.slv l.length 1 (isl l):A)],kO 14 70 2 true (pl (csl [])),kO 20 4 1 true (pl (bsl (gE (gd M)))),kO 26 70 2 true (pl (csl M)),kO 37 70 2 true (pl (csl (nbs (gC L k)))),kF 3,kF 12,kF 17,kF 23,kF 29,kF 40,kF 49,kF 56,kF 66,kF 73,kF 74,kF 77,kF 87,kF 92,kF 93]) (fun((j,M):Nat × (List Cel))=>(nbs (gC L k)).length-j) ((0:Nat),(L:List Cel)) (by exact⟨Nat.zero_le _,hR0⟩) (wkf id (wS<|wS<|wS<|wS<|wS<|wS<|wE (e:=(be (by rfl)))<|wX<|wP<|wP<|wP<|wP<|by(iterate 15 refine wF ?_);exact wN)) ?_
   rintro⟨j,M⟩ inv6
   replace inv6:j≤(nbs (gC L k)).length∧RIn (ao l) c L k M j:=inv6
   obtain⟨inv6_0,inv6_1⟩:=inv6
   have hR:RIn (ao l) c L k M j:=by assumption
   have hml:=hR.len
   have hkl:=hR.kl
   have hn4:=Hr (gC L k)
   have hbl2:=pR (gd M)
   refine sq (sq (rg (zm (zm ?_))))
   refine z ?_ (h:=fun Z=>lnS Z cn)
   refine z ?_ (h:=fun Z=>aa Z vt vt (bA rfl))
   refine nl ?_
   refine wi (fun c7=> ?_) (fun c7=> ?_)
   ·skip
    have c7P:=of_decide_eq_true c7
    have hO:=EC (b:=gC L k) (k:=j) (by omega)
    have hI:=eV hO
    refine sk (sq (bkk (sq ?_)))
    refine rZ [kB 60 ((cu l (gC (nbs (gC L k)) j))&&(!(gB (gE (gd M)) (idx (gC (nbs (gC L k)) j))))),kP 2 2 0,kS 5 14 0 0,kS 6 20 0 64,kS 7 26 0 M.length,kI 8 ((k:Nat):Int),kS 9 37 0 ((nbs (gC L k)).length),kI 10 ((j:Nat):Int),kO 2 29 1 true [(.slv l.length 1 (isl l):A)],kO 14 70 2 true (pl (csl [])),kO 20 4 1 true (pl (bsl (gE (gd M)))),kO 26 70 2 true (pl (csl M)),kO 37 70 2 true (pl (csl (nbs (gC L k)))),kF 3,kF 12,kF 17,kF 23,kF 29,kF 40,kF 49,kF 56,kF 66,kF 73,kF 74,kF 77,kF 87,kF 92,kF 93] ?_ ?_
    ·skip
     rcases Bool.eq_false_or_eq_true ((cu l (gC (nbs (gC L k)) j)))with c8 |c8
     ·skip
      have hS1:bO (ao l) (gC (nbs (gC L k)) j)=true:=(lS hro hO).symm.trans c8
      refine ch ?_
      refine zd ?_ (h:=fun Z=>ab (xs:=[(.slv l.length 1 (isl l):A)]) Z jt rfl (by decide) rfl)
      refine zdm (zdm ?_)
      refine zd ?_ (h:=fun Z=>ix0 Z cn er vt (hlt:=(by omega)))
      refine zd ?_ (h:=fun Z=>lC Z cK (by omega))
      refine zd ?_ (h:=fun Z=>ag Z (bE l (gC (nbs (gC L k)) j) (by omega) (by omega)) (ac (ArgV.regv _ _ 1 _) (ac (ArgV.va va) an)) (bi (congrArg Value.bool c8)))
      refine zdm ?_
      refine zdg ?_ (h:=fun Z=>ae rfl rfl (mt Z))
      refine zdg ?_ (h:=fun Z=>ae rfl rfl (mt Z))
      refine zdg ?_ (h:=fun Z=>ae rfl rfl (mt Z))
      refine zdg ?_ (h:=fun Z=>ae rfl rfl (ix0 Z cn er vt (hlt:=(by omega))))
      refine zdg ?_ (h:=fun Z=>ae rfl rfl (lC Z cK (by omega)))
      refine zdg ?_ (h:=fun Z=>ae rfl rfl (ag Z (gy (gC (nbs (gC L k)) j) (by omega)) (ac (ArgV.va va) an) rv))
      refine zdg ?_ (h:=fun Z=>ae rfl rfl (ix0 Z gM mU vt (hlt:=(by omega))))
      refine zdg ?_ (h:=fun Z=>ae rfl rfl (lB Z mV (by omega)))
      refine zdg ?_ (h:=fun Z=>ae rfl rfl (bn Z vt (bS rfl)))
      refine zd ?_ (h:=fun Z=>au Z vt xt)
      refine bG ?_
      exact⟨rfl,dM ⟨(by simp only[c8];first |done |kernel_rfl),(by repeat(first |exact trivial |refine⟨by kernel_rfl,?_⟩))⟩⟩
     ·skip
      have hS1:bO (ao l) (gC (nbs (gC L k)) j)=false:=(lS hro hO).symm.trans c8
      refine ch ?_
      refine zd ?_ (h:=fun Z=>ab (xs:=[(.slv l.length 1 (isl l):A)]) Z jt rfl (by decide) rfl)
      refine zdm (zdm ?_)
      refine zd ?_ (h:=fun Z=>ix0 Z cn er vt (hlt:=(by omega)))
      refine zd ?_ (h:=fun Z=>lC Z cK (by omega))
      refine zd ?_ (h:=fun Z=>ag Z (bE l (gC (nbs (gC L k)) j) (by omega) (by omega)) (ac (ArgV.regv _ _ 1 _) (ac (ArgV.va va) an)) (bi (congrArg Value.bool c8)))
      refine zdm ?_
      refine zdg ?_ (h:=fun Z=>aG rfl rfl (by decide) rfl Z)
      refine zdg ?_ (h:=fun Z=>aG rfl rfl (by decide) rfl Z)
      refine zdg ?_ (h:=fun Z=>aG rfl rfl (by decide) rfl Z)
      refine zdg ?_ (h:=fun Z=>aG rfl rfl (by decide) rfl Z)
      refine zdg ?_ (h:=fun Z=>aG rfl rfl (by decide) rfl Z)
      refine zdg ?_ (h:=fun Z=>aG rfl rfl (by decide) rfl Z)
      refine zdg ?_ (h:=fun Z=>aG rfl rfl (by decide) rfl Z)
      refine zdg ?_ (h:=fun Z=>aG rfl rfl (by decide) rfl Z)
      refine zdg ?_ (h:=fun Z=>aG rfl rfl (by decide) rfl Z)
      refine zd ?_ (h:=fun Z=>ar Z vt xc)
      refine bG ?_
      exact⟨rfl,dM ⟨(by simp only[c8];first |done |kernel_rfl),(by repeat(first |exact trivial |refine⟨by kernel_rfl,?_⟩))⟩⟩
    refine wi (b:=((cu l (gC (nbs (gC L k)) j))&&(!(gB (gE (gd M)) (idx (gC (nbs (gC L k)) j)))))) (fun c9=> ?_) (fun c9=> ?_)
    ·skip
     obtain⟨c10,c11⟩:=yN c9
     have hS1:bO (ao l) (gC (nbs (gC L k)) j)=true:=(lS hro hO).symm.trans c10
     have c12:(gB (gE (gd M)) (idx (gC (nbs (gC L k)) j)))=false:=by first |(rw[←Bool.not_eq_true'];exact c11) |simpa using c11
     have hS2:bO (gd M) (gC (nbs (gC L k)) j)=false:=(Am hO).symm.trans c12
     refine sq (rg (zm (zm (zm ?_))))
     refine z ?_ (h:=fun Z=>ix0 Z cn er vt (hlt:=(by omega)))
     refine z ?_ (h:=fun Z=>lC Z cK (by omega))
     refine z ?_ (h:=fun Z=>ag Z (gy (gC (nbs (gC L k)) j) (by omega)) (ac (ArgV.va va) an) rv)
     refine z ?_ (h:=fun Z=>ix0 Z gM mU vt (hlt:=(by omega)))
     refine z ?_ (h:=fun _=>sB mV xc (by omega))
     refine nl (rg (zm (zm (zm ?_))))
     refine z ?_ (h:=fun Z=>ix0 Z cn er vt (hlt:=(by omega)))
     refine z ?_ (h:=fun Z=>lC Z cK (by omega))
     refine z ?_ (h:=fun Z=>aP (h:=73) (xs:=csl ([(gC (nbs (gC L k)) j)]:List Cel)) Z cn fM (.cons va OpVs.nil) (by decide) (by decide) (by kernel_rfl) rfl)
     refine z ?_ (h:=fun Z=>aC_ (h2:=74) (L3:=(M++[(gC (nbs (gC L k)) j)])) Z cn fM (by exact rfl) rfl (by exact rfl) (by(simp;omega)))
     refine za (nl (rg (zm ?_)))
     refine z ?_ (h:=fun Z=>aa Z vt vc (rA (by omega) (by omega)))
     refine za (nl ?_)
     exact aA ((j+1),(M++[(gC (nbs (gC L k)) j)])) (by refine⟨by omega,?_⟩;first |exact hR.yes (by omega) (by assumption) (by assumption) |exact hR.no (by omega) hor) (by show(nbs (gC L k)).length-(j+1)<(nbs (gC L k)).length-j;omega) (wkf (aX [(26,74)]) (wS<|wS<|wS<|wS<|wS<|wS<|wE (e:=(be (by rfl)))<|wX<|wP<|wO (e:=aJ (fun h=>h) (congrArg bsl (by(rw[FE,ur];done))))<|wP<|wP<|by(iterate 15 refine wF ?_);exact wN))
    ·skip
     have c13:=Df c9
     have hor:bO (ao l) (gC (nbs (gC L k)) j)=false∨bO (gd M) (gC (nbs (gC L k)) j)=true:=by
      rcases c13 with q |q
      · exact .inl ((lS hro hO).symm.trans q)
      · rw[Bool.not_eq_false']at q;exact .inr ((Am hO).symm.trans q)
     refine sk (rg (zm ?_))
     refine z ?_ (h:=fun Z=>aa Z vt vc (rA (by omega) (by omega)))
     refine za (nl ?_)
     exact aA ((j+1),M) (by refine⟨by omega,?_⟩;first |exact hR.yes (by omega) (by assumption) (by assumption) |exact hR.no (by omega) hor) (by show(nbs (gC L k)).length-(j+1)<(nbs (gC L k)).length-j;omega) (wkf id (wS<|wS<|wS<|wS<|wS<|wS<|wE (e:=(be (by rfl)))<|wX<|wP<|wP<|wP<|wP<|by(iterate 15 refine wF ?_);exact wN))
   ·skip
    have c7P:=of_decide_eq_false c7
    refine aU (rg (zm ?_))
    refine z ?_ (h:=fun Z=>aa Z vt vc (rA (by omega) (by omega)))
    refine za (nl ?_)
    exact aA ((k+1),M) (by exact RIn.out hg (by omega) hR (by omega)) (by show 64-(k+1)<64-k;omega) (wkf id (wS<|wS<|wS<|wS<|wE (e:=(be (by rfl)))<|wX<|wP<|wP<|wP<|by(iterate 16 refine wF ?_);exact wN))
  ·skip
   have c5P:=of_decide_eq_false c5
   refine aU (sq (sq (rg (zk (nl (bkk ?_))))))
   refine bg (fun(m:Nat)=>m≤64) (fun(m:Nat)=>[kS 5 14 0 ((((List.range m).filter (gd L).testBit).map cN).length),kS 6 20 0 64,kI 11 ((m:Nat):Int),kO 14 70 2 true (pl (csl (((List.range m).filter (gd L).testBit).map cN))),kO 20 4 1 true (pl (bsl (gE (gd L)))),kF 2,kF 3,kF 12,kF 17,kF 23,kF 26,kF 29,kF 37,kF 40,kF 49,kF 56,kF 66,kF 73,kF 74,kF 77,kF 87,kF 92,kF 93]) (fun(m:Nat)=>64-m) ((0:Nat)) (by exact(Nat.zero_le _:0≤_)) (wkf id (wE (e:=(vsl (by rfl) rfl))<|wS<|wE (e:=(be (by rfl)))<|wO (e:=aJ (fun h=>h) (congrArg csl (by rfl)))<|wP<|by(iterate 18 refine wF ?_);exact wN)) ?_
   rintro m inv14
   replace inv14:m≤64:=inv14
   have invm:=inv14
   have hfl:=nq (gd L).testBit m
   refine sq (sq (rg (zm (zm ?_))))
   refine z ?_ (h:=fun Z=>lnS (iv:=64) Z gM)
   refine z ?_ (h:=fun Z=>aa Z vt vt (bA rfl))
   refine nl ?_
   refine wi (fun c15=> ?_) (fun c15=> ?_)
   ·skip
    have c15P:=of_decide_eq_true c15
    refine sk (sq (bkk (sq (rg (zm (zm ?_))))))
    refine z ?_ (h:=fun Z=>ix0 Z gM mU vt (hlt:=(by omega)))
    refine z ?_ (h:=fun Z=>lB Z mV (by omega))
    refine nl ?_
    refine wi (b:=(gB (gE (gd L)) m)) (fun c16=> ?_) (fun c16=> ?_)
    ·skip
     refine sq (rg (zm ?_))
     refine z ?_ (h:=fun Z=>cH Z (gx m (by omega)) (ac (ArgV.v vt) an) (ResV.agg [vI ((cN m).x),vI ((cN m).y)]) rv)
     refine zm ?_
     refine z ?_ (h:=fun Z=>ba Z (by exact rfl))
     refine z ?_ (h:=fun Z=>ba Z (by exact rfl))
     refine z ?_ (h:=fun Z=>aL (h:=12) (cap:=1) (s:=2) (cells:=[aI 0,aI 0]) Z fM rfl rfl (by decide))
     refine z ?_ (h:=fun _=>aE (cells:=[aI ((cN m).x),aI ((cN m).y)]) cK xt (by exact rfl) (by decide) (by exact ob1 rfl) (by exact Nat.le_of_ble_eq_true rfl) (by exact rfl))
     refine za (nl (rg (zm ?_)))
     refine z ?_ (h:=fun Z=>ab (xs:=[vI ((cN m).x),vI ((cN m).y)].map A.val) Z cK rfl (by decide) rfl)
     refine z ?_ (h:=fun Z=>aP (h:=92) (xs:=csl ([(cN m)]:List Cel)) Z cn fM (.cons va OpVs.nil) (by decide) (by decide) (by kernel_rfl) rfl)
     refine z ?_ (h:=fun Z=>aC_ (h2:=93) (L3:=((((List.range m).filter (gd L).testBit).map cN)++[(cN m)])) Z cn fM (by exact rfl) rfl (by exact rfl) (by(simp at*;omega)))
     refine za (nl (rg (zm ?_)))
     refine z ?_ (h:=fun Z=>aa Z vt vc (rA (by omega) (by omega)))
     refine za (nl ?_)
     exact aA ((m+1)) (by show _≤_;omega) (by show 64-(m+1)<64-m;omega) (wkf (aX [(14,93)]) (wE (e:=(vsl (by(exact congrArg List.length (by first |rfl |exact fq ((kY (by omega)).symm.trans (by assumption)) |exact gu ((kY (by omega)).symm.trans (by assumption)) |omega))) rfl))<|wS<|wE (e:=(be (by rfl)))<|wO (e:=aJ (fun h=>h) (congrArg csl (by exact fq ((kY (by omega)).symm.trans (by assumption)))))<|wP<|by(iterate 18 refine wF ?_);exact wN))
    ·skip
     refine sk (rg (zm ?_))
     refine z ?_ (h:=fun Z=>aa Z vt vc (rA (by omega) (by omega)))
     refine za (nl ?_)
     exact aA ((m+1)) (by show _≤_;omega) (by show 64-(m+1)<64-m;omega) (wkf id (wE (e:=(vsl (by(exact congrArg List.length (by first |rfl |exact fq ((kY (by omega)).symm.trans (by assumption)) |exact gu ((kY (by omega)).symm.trans (by assumption)) |omega))) rfl))<|wS<|wE (e:=(be (by rfl)))<|wO (e:=aJ (fun h=>h) (congrArg csl (by exact gu ((kY (by omega)).symm.trans (by assumption)))))<|wP<|by(iterate 18 refine wF ?_);exact wN))
   ·skip
    have c15P:=of_decide_eq_false c15
    refine aU (sq (rg (zm (za (nl (aC ?_))))))
    exact VRes.tmp _ _ _ (by exact rfl) (iQ (h:=14) (L:=(((List.range m).filter (gd L).testBit).map cN)) (by kernel_rfl) (by(have e:m=64:=by omega);subst e;unfold pcs;rw[if_pos (by assumption),←HV hc hg (by omega)];rfl) (by rfl))
theorem fD (l:List Int) (hl:l.length≤4194304):Fn Tryz.prog 54 [.agg [(.slv l.length 1 (isl l):A)]] [.val (.int .i64 (((pcN l):Nat):Int))]:=by
 have h64:=lO l
 refine bm (N:=30) Tryz.func54 rfl (by kernel_rfl) rfl (Nat.le_of_ble_eq_true rfl) [1,7,10,19] (dN rfl) (fun W=> ?_)
 show Wp _ _ _ [kV 0 (V.b (.agg [(.slv l.length 1 (isl l):A)])),kF 1,kF 7,kF 10,kF 19]
 refine sq (rg ?_)
 refine z ?_ (h:=fun Z=>bo (h:=1) Z xt (by exact ob1 rfl))
 refine zk (nl (sq (rg (zk (nl (sq (rg ?_)))))))
 refine z ?_ (h:=fun Z=>ab (xs:=[(.slv l.length 1 (isl l):A)]) Z jt rfl (by decide) rfl)
 refine z ?_ (h:=fun Z=>ag Z (lD l (by omega)) (ac (ArgV.regv _ _ 1 _) an) (ResV.row _ _ _ _ 7))
 refine za (nl (sq (sq (rg (zk (nl (bkk ?_)))))))
 refine bg (fun(k:Nat)=>k≤(cellsOf l).length) (fun(k:Nat)=>[kP 1 1 0,kI 3 (((((cellsOf l).take k).filter (tA (ao l))).length:Nat):Int),kS 4 7 0 ((cellsOf l).length),kI 5 ((k:Nat):Int),kO 1 29 1 true [(.slv l.length 1 (isl l):A)],kO 7 70 2 true (pl (csl (cellsOf l))),kF 10,kF 19]) (fun(k:Nat)=>(cellsOf l).length-k) ((0:Nat)) (by exact(Nat.zero_le _:0≤_)) (wkf id (wS<|wE (e:=(be (by rfl)))<|wS<|wE (e:=(be (by rfl)))<|wX<|wP<|wF<|wF<|wN)) ?_
 rintro k inv1
 replace inv1:k≤(cellsOf l).length:=inv1
 have inv:=inv1
 have hck:=uu (tA (ao l)) (cellsOf l) k
 refine sq (sq (rg (zm (zm ?_))))
 refine z ?_ (h:=fun Z=>lnS Z cn)
 refine z ?_ (h:=fun Z=>aa Z vt vt (bA rfl))
 refine nl ?_
 refine wi (fun c2=> ?_) (fun c2=> ?_)
 ·skip
  have c2P:=of_decide_eq_true c2
  obtain⟨hpf,hpb⟩:=BP (l:=l) (k:=k) (by omega)
  refine sk (sq (bkk (sq (ch ?_))))
  refine zd ?_ (h:=fun Z=>ab (xs:=[(.slv l.length 1 (isl l):A)]) Z jt rfl (by decide) rfl)
  refine zdm (zdm ?_)
  refine zd ?_ (h:=fun Z=>ix0 Z cn er vt (hlt:=(by omega)))
  refine zd ?_ (h:=fun Z=>lC Z cK (by omega))
  refine zd ?_ (h:=fun Z=>ag Z (rB l (gC (cellsOf l) k) (by omega)) (ac (ArgV.regv _ _ 1 _) (ac (ArgV.va va) an)) (ResV.row _ _ _ _ 19))
  refine zd ?_ (h:=fun Z=>ix0 (k:=0) Z cn er vc (hlt:=(by omega)))
  refine zd ?_ (h:=fun Z=>lC (k:=0) Z cK (by omega))
  refine zdm (zdm ?_)
  refine zd ?_ (h:=fun Z=>ix0 Z cn er vt (hlt:=(by omega)))
  refine zd ?_ (h:=fun Z=>lC Z cK (by omega))
  refine zd ?_ (h:=fun Z=>aa Z va va (pt zx (fun w=>(jO ((gC (pcs l (gC (cellsOf l) k)) 0).x) ((gC (pcs l (gC (cellsOf l) k)) 0).y) ((gC (cellsOf l) k).x) ((gC (cellsOf l) k).y) w).trans (congrArg (fun z=>Result.ok (Value.bool z) w) (rfl:(cEq ((gC (pcs l (gC (cellsOf l) k)) 0).x) ((gC (pcs l (gC (cellsOf l) k)) 0).y) ((gC (cellsOf l) k).x) ((gC (cellsOf l) k).y))=(cEq ((gC (pcs l (gC (cellsOf l) k)) 0).x) ((gC (pcs l (gC (cellsOf l) k)) 0).y) ((gC (cellsOf l) k).x) ((gC (cellsOf l) k).y)))))))
  refine bG ?_
  refine wi (b:=(cEq ((gC (pcs l (gC (cellsOf l) k)) 0).x) ((gC (pcs l (gC (cellsOf l) k)) 0).y) ((gC (cellsOf l) k).x) ((gC (cellsOf l) k).y))) (fun c3=> ?_) (fun c3=> ?_)
  ·skip
   refine rg (zm ?_)
   refine z ?_ (h:=fun Z=>aa Z vt vc (rA (by omega) (by omega)))
   refine za (nl (rg (zm ?_)))
   refine z ?_ (h:=fun Z=>aa Z vt vc (rA (by omega) (by omega)))
   refine za (nl ?_)
   exact aA ((k+1)) (by show _≤_;omega) (by show(cellsOf l).length-(k+1)<(cellsOf l).length-k;omega) (wkf id (wS<|wE (e:=(be (by(rw[mF (by omega) (hpb true (by simp_all [mE]))];simp;done))))<|wS<|wE (e:=(be (by rfl)))<|wX<|wP<|wF<|wF<|wN))
  ·skip
   refine sk (rg (zm ?_))
   refine z ?_ (h:=fun Z=>aa Z vt vc (rA (by omega) (by omega)))
   refine za (nl ?_)
   exact aA ((k+1)) (by show _≤_;omega) (by show(cellsOf l).length-(k+1)<(cellsOf l).length-k;omega) (wkf id (wS<|wE (e:=(be (by(rw[oE (by omega) (hpb false (by simp_all [mE]))];done))))<|wS<|wE (e:=(be (by rfl)))<|wX<|wP<|wF<|wF<|wN))
 ·skip
  have c2P:=of_decide_eq_false c2
  refine aU (sq (rg (zm (za (nl (aC ?_))))))
  exact VRes.tmp _ _ _ (by exact rfl) (ce (congrArg (Value.int .i64) (by rw[Kl,List.take_of_length_le (by omega)])))
end Cl
end Go.Proofs.YtgmkkfdnmdohlaaGreatDoor
namespace Go.Proofs.YtgmkkfdnmdohlaaGreatDoor
namespace Cl
open Go.ChangeShapes Go.WideShapes Go.ChangeAt Go.RowKit
def kxy (x y:Int):Nat:=(y*10+x).toNat
theorem jW {x y:Int} (hx:0≤x∧x≤9) (hy:0≤y∧y≤9):kxy x y%10=x.toNat∧kxy x y/10=y.toNat∧kxy x y<100:=by unfold kxy;omega
theorem Gu {x y:Int} (hx:0≤x∧x≤9) (hy:0≤y∧y≤9):c10 (kxy x y)=⟨x-1,y-1⟩:=by
 obtain⟨h1,h2,_⟩:=jW hx hy
 unfold c10;rw[h1,h2]
 simp only[Cel.mk.injEq];omega
theorem DX {s:Nat} {x y:Int} (hx:0≤x∧x≤9) (hy:0≤y∧y≤9):bq s (kxy x y)= !(bO s ⟨x-1,y-1⟩):=by
 unfold bq;rw[Gu hx hy,decide_eq_true (jW hx hy).2.2,Bool.true_and]
theorem Hx {x y:Int} (hx:0≤x∧x≤9) (hy:0≤y∧y≤9) {p q:Nat} (hq:q<3):mb (kxy x y) (3*p+q)=(inB (x+((q:Int)-1)) 0 9&&inB (y+((p:Int)-1)) 0 9):=by
 obtain⟨h1,h2,_⟩:=jW hx hy
 have e1:(3*p+q)%3=q:=by omega
 have e2:(3*p+q)/3=p:=by omega
 unfold mb
 rw[h1,h2,e1,e2,Bool.eq_iff_iff]
 simp only[Bool.and_eq_true,decide_eq_true_eq,bP]
 omega
theorem Jo {x y:Int} (hx:0≤x∧x≤9) (hy:0≤y∧y≤9) {p q:Nat} (hq:q<3) (hx2:0≤x+((q:Int)-1)) (hy2:0≤y+((p:Int)-1)):vO (kxy x y) (3*p+q)=kxy (x+((q:Int)-1)) (y+((p:Int)-1)):=by
 obtain⟨h1,h2,_⟩:=jW hx hy
 have e1:(3*p+q)%3=q:=by omega
 have e2:(3*p+q)/3=p:=by omega
 unfold vO
 rw[h1,h2,e1,e2]
 unfold kxy;omega
def nbT (k t:Nat):List Nat:=((List.range t).filter (mb k)).map (vO k)
theorem Hq {k t:Nat} (h:mb k t=true):nbT k (t+1)=nbT k t++[vO k t]:=by
 unfold nbT;rw[List.range_succ,List.filter_append,List.map_append];simp [h]
theorem Ke {k t:Nat} (h:mb k t=false):nbT k (t+1)=nbT k t:=by
 unfold nbT;rw[List.range_succ,List.filter_append,List.map_append];simp [h]
noncomputable def rt (s k:Nat):Nat:=lA fK (bq s) k
theorem rt_le (s k:Nat):rt s k≤k:=Fx _ _ _
noncomputable def hol (l:List Int):Int:=if bj l=true then(gK (ao l):Int)-1 else 0
theorem JT {l:List Int} (h:bj l=false):hol l=0:=by unfold hol;rw[h];rfl
theorem Hd {l:List Int} (h:bj l=true):hol l=(rt (ao l) 100:Int)-1:=by unfold hol;rw[if_pos h];rfl
end Cl
end Go.Proofs.YtgmkkfdnmdohlaaGreatDoor
namespace Go.Proofs.YtgmkkfdnmdohlaaGreatDoor
namespace Cl
open Go.ChangeShapes Go.WideShapes Go.ChangeAt Go.RowKit
def nI (L:List Nat):List Int:=L.map (fun x=>((x:Nat):Int))
def gN (L:List Nat) (i:Nat):Nat:=L.getD i 0
theorem sP (L:List Nat):(nI L).length=L.length:=by unfold nI;simp
theorem uB {L:List Nat} {i:Nat} (h:i<L.length):gN L i=L[i]:=by unfold gN;rw[List.getD_eq_getElem?_getD,List.getElem?_eq_getElem h];rfl
theorem gI_nI {L:List Nat} {i:Nat} (h:i<L.length):gI (nI L) i=((gN L i:Nat):Int):=by
 rw[dh (by rw[sP];exact h),uB h];unfold nI;simp
theorem Ez (L:List Nat) (x:Nat):nI L++[((x:Nat):Int)]=nI (L++[x]):=by unfold nI;simp
structure BT (s k:Nat) (L lst:List Nat) (i t:Nat) (M:List Nat):Prop where
 eq:M=(nbT (gN lst i) t).foldl (gst (okE (bq s)) (gN lst i)) lst
 nd:M.Nodup
 lt:∀ z,z∈M→z<100
 di:∀ z,z∈M→z∉L
 le:i+1≤M.length
 ow:gN M i=gN lst i
structure BG (s k:Nat) (L lst:List Nat) (i:Nat):Prop where
 sc:ScanI s k L
 fr:bq s k=true
 kn:k∉L
 g:GInv fK (okE (bq s)) k lst i
 lt:∀ z,z∈lst→z<100
 di:∀ z,z∈lst→z∉L
theorem BG.zero {s k:Nat} {L:List Nat} (h:ScanI s k L) (hf:bq s k=true) (hk:k∉L):BG s k L [k] 0:=
 ⟨h,hf,hk,GInv.init _ _ _,fun z hz=>by rw[List.mem_singleton]at hz;subst hz;exact dG hf,fun z hz=>by rw[List.mem_singleton]at hz;subst hz;exact hk⟩
theorem BG.len {s k:Nat} {L lst:List Nat} {i:Nat} (h:BG s k L lst i):lst.length≤100:=iU 100 lst h.g.nd h.lt
theorem BG.at {s k:Nat} {L lst:List Nat} {i:Nat} (h:BG s k L lst i) (hi:i<lst.length):gN lst i<100:=by rw[uB hi];exact h.lt _ (List.getElem_mem hi)
theorem BT.zero {s k:Nat} {L lst:List Nat} {i:Nat} (h:BG s k L lst i) (hi:i<lst.length):BT s k L lst i 0 lst:=⟨rfl,h.g.nd,h.lt,h.di,hi,rfl⟩
theorem BT.len {s k:Nat} {L lst M:List Nat} {i t:Nat} (h:BT s k L lst i t M):M.length≤100:=iU 100 M h.nd h.lt
theorem EL {z:Nat} (h:z<100):(0≤((z%10:Nat):Int)∧((z%10:Nat):Int)≤9)∧(0≤((z/10:Nat):Int)∧((z/10:Nat):Int)≤9)∧kxy ((z%10:Nat):Int) ((z/10:Nat):Int)=z:=by unfold kxy;omega
theorem AD {z p q:Nat} (h:z<100) (hq:q<3):mb z (3*p+q)=(inB (((z%10:Nat):Int)+((q:Int)-1)) 0 9&&inB (((z/10:Nat):Int)+((p:Int)-1)) 0 9):=by
 obtain⟨h1,h2,h3⟩:=EL h
 have:=Hx (p:=p) h1 h2 hq
 rw[h3]at this;exact this
theorem yO {z p q:Nat} (h:z<100) (hq:q<3) (hx2:0≤((z%10:Nat):Int)+((q:Int)-1)) (hy2:0≤((z/10:Nat):Int)+((p:Int)-1)):vO z (3*p+q)=kxy (((z%10:Nat):Int)+((q:Int)-1)) (((z/10:Nat):Int)+((p:Int)-1)):=by
 obtain⟨h1,h2,h3⟩:=EL h
 have:=Jo (p:=p) h1 h2 hq hx2 hy2
 rw[h3]at this;exact this
theorem BT.no1 {s k:Nat} {L lst M:List Nat} {i p q:Nat} (h:BT s k L lst i (3*p+q) M) (hz:gN lst i<100) (hq:q<3) (hf:(inB (((gN lst i%10:Nat):Int)+((q:Int)-1)) 0 9&&inB (((gN lst i/10:Nat):Int)+((p:Int)-1)) 0 9)=false):BT s k L lst i (3*p+(q+1)) M:=by
 refine⟨?_,h.nd,h.lt,h.di,h.le,h.ow⟩
 rw[show 3*p+(q+1)=3*p+q+1 from rfl,Ke (by rw[AD hz hq];exact hf)]
 exact h.eq
theorem BT.step {s k:Nat} {L lst M:List Nat} {i p q:Nat} (h:BT s k L lst i (3*p+q) M) (hz:gN lst i<100) (hp:p<3) (hq:q<3) (hx:0≤((gN lst i%10:Nat):Int)+((q:Int)-1)∧((gN lst i%10:Nat):Int)+((q:Int)-1)≤9) (hy:0≤((gN lst i/10:Nat):Int)+((p:Int)-1)∧((gN lst i/10:Nat):Int)+((p:Int)-1)≤9):
  (nbT (gN lst i) (3*p+(q+1))).foldl (gst (okE (bq s)) (gN lst i)) lst=gst (okE (bq s)) (gN lst i) M (kxy (((gN lst i%10:Nat):Int)+((q:Int)-1)) (((gN lst i/10:Nat):Int)+((p:Int)-1)))∧kxy (((gN lst i%10:Nat):Int)+((q:Int)-1)) (((gN lst i/10:Nat):Int)+((p:Int)-1))∈fK (gN lst i):=by
 have ho:mb (gN lst i) (3*p+q)=true:=by rw[AD hz hq,bP.2 hx,bP.2 hy];rfl
 refine⟨?_,?_⟩
 ·rw[show 3*p+(q+1)=3*p+q+1 from rfl,Hq ho,List.foldl_append,←h.eq,yO hz hq hx.1 hy.1];rfl
 ·rw[←yO hz hq hx.1 hy.1]
  rw[ma hz,yO hz hq hx.1 hy.1]
  obtain⟨e1,e2,e3⟩:=jW hx hy
  refine⟨e3,?_⟩
  rw[e1,e2];omega
theorem BT.no2 {s k:Nat} {L lst M:List Nat} {i p q:Nat} (hg:BG s k L lst i) (hi:i<lst.length) (h:BT s k L lst i (3*p+q) M) (hp:p<3) (hq:q<3) (hx:0≤((gN lst i%10:Nat):Int)+((q:Int)-1)∧((gN lst i%10:Nat):Int)+((q:Int)-1)≤9) (hy:0≤((gN lst i/10:Nat):Int)+((p:Int)-1)∧((gN lst i/10:Nat):Int)+((p:Int)-1)≤9)
  (hf:kxy (((gN lst i%10:Nat):Int)+((q:Int)-1)) (((gN lst i/10:Nat):Int)+((p:Int)-1))∈L++M∨bq s (kxy (((gN lst i%10:Nat):Int)+((q:Int)-1)) (((gN lst i/10:Nat):Int)+((p:Int)-1)))=false):BT s k L lst i (3*p+(q+1)) M:=by
 obtain⟨e1,e2⟩:=h.step (hg.at hi) hp hq hx hy
 refine⟨?_,h.nd,h.lt,h.di,h.le,h.ow⟩
 rw[e1]
 refine(Ef ?_).symm
 rcases hf with hf |hf
 ·rcases List.mem_append.1 hf with hf |hf
  ·refine .inl ?_
   rcases Bool.eq_false_or_eq_true (bq s (kxy (((gN lst i%10:Nat):Int)+((q:Int)-1)) (((gN lst i/10:Nat):Int)+((p:Int)-1))))with h1 |h1
   ·exact absurd hf (FD hg.sc hg.fr hg.kn hg.g (x:=gN lst i) (by rw[uB hi];exact List.getElem_mem hi) e2 h1)
   ·exact h1
  ·exact .inr hf
 ·exact .inl hf
theorem BT.yes {s k:Nat} {L lst M:List Nat} {i p q:Nat} (hg:BG s k L lst i) (hi:i<lst.length) (h:BT s k L lst i (3*p+q) M) (hp:p<3) (hq:q<3) (hx:0≤((gN lst i%10:Nat):Int)+((q:Int)-1)∧((gN lst i%10:Nat):Int)+((q:Int)-1)≤9) (hy:0≤((gN lst i/10:Nat):Int)+((p:Int)-1)∧((gN lst i/10:Nat):Int)+((p:Int)-1)≤9)
  (h1:kxy (((gN lst i%10:Nat):Int)+((q:Int)-1)) (((gN lst i/10:Nat):Int)+((p:Int)-1))∉L++M) (h2:bq s (kxy (((gN lst i%10:Nat):Int)+((q:Int)-1)) (((gN lst i/10:Nat):Int)+((p:Int)-1)))=true):BT s k L lst i (3*p+(q+1)) (M++[kxy (((gN lst i%10:Nat):Int)+((q:Int)-1)) (((gN lst i/10:Nat):Int)+((p:Int)-1))]):=by
 obtain⟨e1,e2⟩:=h.step (hg.at hi) hp hq hx hy
 rw[List.mem_append,not_or]at h1
 refine⟨?_,?_,fun z hz=> ?_,fun z hz=> ?_,by rw[List.length_append];have:=h.le;omega,by rw[←h.ow];have:=h.le;rw[uB (by rw[List.length_append];omega),uB (by omega),List.getElem_append_left]⟩
 ·rw[e1,wc (ok:=okE (bq s)) h2 h1.2]
 ·rw[List.nodup_append]
  refine⟨h.nd,by simp,fun a ha b hb e=> ?_⟩
  rw[List.mem_singleton]at hb;subst hb;subst e;exact h1.2 ha
 ·rw[List.mem_append,List.mem_singleton]at hz
  rcases hz with hz |rfl
  ·exact h.lt z hz
  ·exact(jW hx hy).2.2
 ·rw[List.mem_append,List.mem_singleton]at hz
  rcases hz with hz |rfl
  ·exact h.di z hz
  ·exact h1.1
theorem BT.out {s k:Nat} {L lst M:List Nat} {i p:Nat} (hg:BG s k L lst i) (hi:i<lst.length) (h:BT s k L lst i (3*p) M) (hp:p=3):BG s k L M (i+1):=by
 subst hp
 have e:M=grnd fK (okE (bq s)) lst lst[i]:=by rw[←uB hi];exact h.eq
 exact⟨hg.sc,hg.fr,hg.kn,by rw[e];exact hg.g.next hi,h.lt,h.di⟩
theorem BG.end {s k:Nat} {L lst:List Nat} {i:Nat} (h:BG s k L lst i) (hi:¬i<lst.length):ScanI s (k+1) (L++lst)∧rt s (k+1)=rt s k+1:=by
 have:=h.sc.wide h.fr h.kn h.g hi h.di
 exact⟨this.1,CD this.2⟩
theorem wI {s k:Nat} {L:List Nat} (h:ScanI s k L) (hk:bq s k=false∨k∈L):ScanI s (k+1) L∧rt s (k+1)=rt s k:=⟨(h.skip hk).1,Fy (h.skip hk).2⟩
theorem uA {l:List Int} (ho:bj l=true) {k:Nat} (hk:k<100) {b:Bool} (h:gA l (c10 k)=b):bq (ao l) k= !b:=by
 unfold bq;rw[decide_eq_true hk,Bool.true_and,←h]
 unfold gA bO;rw[ho];rfl
theorem sD {l:List Int} (ho:bj l=true) {x y:Int} (hx:0≤x∧x≤9) (hy:0≤y∧y≤9) {b:Bool} (h:gA l ⟨x-1,y-1⟩=b):bq (ao l) (kxy x y)= !b:=by
 rw[DX hx hy,←h]
 unfold gA bO;rw[ho];rfl
end Cl
end Go.Proofs.YtgmkkfdnmdohlaaGreatDoor
