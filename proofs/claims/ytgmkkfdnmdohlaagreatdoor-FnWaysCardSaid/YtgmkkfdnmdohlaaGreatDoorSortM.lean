
import Derived.Test.YtgmkkfdnmdohlaaGreatDoorBase
set_option linter.unusedSimpArgs false
set_option linter.unusedVariables false
namespace Go.Proofs.YtgmkkfdnmdohlaaGreatDoor
def Dom.ord (d:Dom):Int:=2*(8*d.y+d.x)+(if d.d then 1 else 0)
def Dom.valid (d:Dom):Prop:=0≤d.x∧d.x≤7∧0≤d.y∧d.y≤7
theorem rP {a b:Dom} (ha:a.valid) (hb:b.valid) (h:a.ord=b.ord):a=b:=by
 obtain⟨ax,ay,ad⟩:=a
 obtain⟨bx,by',bd⟩:=b
 simp only[Dom.valid,Dom.ord]at*
 cases ad<;>cases bd<;>simp at h⊢ <;>omega
def ig (out:List Dom) (d:Dom):List Dom:=out.filter (fun e=>decide (e.ord<d.ord))++d::out.filter (fun e=>decide (d.ord<e.ord))
def SS (l:List Dom):Prop:=l.Pairwise (fun a b=>a.ord<b.ord)
theorem Jm:SS []:=List.Pairwise.nil
theorem Hf {l:List Dom} (h:SS l) (d:Dom):SS (ig l d):=by
 unfold SS ig
 rw[List.pairwise_append]
 refine⟨h.filter _,?_,?_⟩
 ·rw[List.pairwise_cons]
  refine⟨fun e he=> ?_,h.filter _⟩
  simpa using(List.mem_filter.1 he).2
 ·intro a ha b hb
  have h1:a.ord<d.ord:=by simpa using(List.mem_filter.1 ha).2
  rcases List.mem_cons.1 hb with rfl |hb
  ·exact h1
  ·have h2:d.ord<b.ord:=by simpa using(List.mem_filter.1 hb).2
   omega
theorem zh {l:List Dom} (h:∀ e∈l,e.valid) {d:Dom} (hd:d.valid):∀ e∈ig l d,e.valid:=by
 intro e he
 unfold ig at he
 rcases List.mem_append.1 he with he |he
 ·exact h e (List.mem_filter.1 he).1
 ·rcases List.mem_cons.1 he with rfl |he
  ·exact hd
  ·exact h e (List.mem_filter.1 he).1
theorem kW {l:List Dom} {p:Dom→Bool} (h:∀ e∈l,p e=true):l.filter p=l:=List.filter_eq_self.2 h
theorem jH {l:List Dom} {p:Dom→Bool} (h:∀ e∈l,p e=false):l.filter p=[]:=by
 rw[List.filter_eq_nil_iff];intro e he;simp [h e he]
theorem rL {l:List Dom} {d:Dom} {k:Nat} (h1:∀ e∈l.take k,e.ord<d.ord) (h2:∀ e∈l.drop k,d.ord<e.ord):ig l d=l.take k++d::l.drop k:=by
 have hl:l=l.take k++l.drop k:=(List.take_append_drop k l).symm
 unfold ig
 have a1:l.filter (fun e=>decide (e.ord<d.ord))=l.take k:=by
  conv=>lhs;rw[hl]
  rw[List.filter_append,kW (fun e he=>by simpa using h1 e he),jH (fun e he=>by have:=h2 e he;simp;omega)]
  simp
 have a2:l.filter (fun e=>decide (d.ord<e.ord))=l.drop k:=by
  conv=>lhs;rw[hl]
  rw[List.filter_append,jH (fun e he=>by have:=h1 e he;simp;omega),kW (fun e he=>by simpa using h2 e he)]
  simp
 rw[a1,a2]
theorem uH {l:List Dom} {d:Dom} {k:Nat} (h1:∀ e∈l.take k,e.ord<d.ord) (hk:k<l.length) (he:l[k]=d) (h2:∀ e∈l.drop (k+1),d.ord<e.ord):ig l d=l:=by
 have hl:l=l.take k++l[k]::l.drop (k+1):=by
  rw[←List.drop_eq_getElem_cons hk];exact(List.take_append_drop k l).symm
 unfold ig
 have a1:l.filter (fun e=>decide (e.ord<d.ord))=l.take k:=by
  conv=>lhs;rw[hl]
  rw[List.filter_append,kW (fun e he=>by simpa using h1 e he),jH (fun e h=>by
   rcases List.mem_cons.1 h with rfl |h
   ·simp [he]
   ·have:=h2 e h;simp;omega)]
  simp
 have a2:l.filter (fun e=>decide (d.ord<e.ord))=l.drop (k+1):=by
  conv=>lhs;rw[hl]
  rw[List.filter_append,jH (fun e he=>by have:=h1 e he;simp;omega)]
  simp only[List.nil_append,List.filter_cons,he,Int.lt_irrefl,decide_false,Bool.false_eq_true,if_false]
  exact kW (fun e he=>by simpa using h2 e he)
 rw[a1,a2]
 conv=>rhs;rw[hl]
 rw[he]
theorem zV {l:List Dom} (h:SS l) {i j:Nat} (hij:i<j) (hj:j<l.length):(l[i]'(by omega)).ord<l[j].ord:=List.pairwise_iff_getElem.1 h i j (by omega) hj hij
def fO (ok:Dom→Bool) (l:List Dom):List Dom:=(l.filter ok).foldl ig []
theorem BC {l out:List Dom} (h:SS out) (hv:∀ e∈out,e.valid) (hl:∀ e∈l,e.valid):SS (l.foldl ig out)∧∀ e∈l.foldl ig out,e.valid:=by
 induction l generalizing out with
 | nil=>exact⟨h,hv⟩
 | cons a l ih=>exact ih (Hf h a) (zh hv (hl a (by simp))) (fun e he=>hl e (by simp [he]))
theorem qE {ok:Dom→Bool} (hok:∀ d,ok d=true→d.valid) (l:List Dom):SS (fO ok l)∧∀ e∈fO ok l,e.valid:=
 BC Jm (by simp) (fun e he=>hok e (List.mem_filter.1 he).2)
theorem tK {ok:Dom→Bool} {l:List Dom} {k:Nat} (hk:k<l.length) (h:ok l[k]=true):fO ok (l.take (k+1))=ig (fO ok (l.take k)) l[k]:=by
 unfold fO;rw[List.take_succ_eq_append_getElem hk,List.filter_append,List.foldl_append];simp [h]
theorem vC {ok:Dom→Bool} {l:List Dom} {k:Nat} (hk:k<l.length) (h:ok l[k]=false):fO ok (l.take (k+1))=fO ok (l.take k):=by
 unfold fO;rw[List.take_succ_eq_append_getElem hk,List.filter_append,List.foldl_append];simp [h]
theorem El (l:List Dom) (d:Dom):(ig l d).length≤l.length+1:=by
  unfold ig
  rw[List.length_append,List.length_cons]
  have h:(l.filter (fun e=>decide (e.ord<d.ord))).length+(l.filter (fun e=>decide (d.ord<e.ord))).length≤l.length:=by
    induction l with
    | nil=>simp
    | cons a l ih=>
      simp only[List.filter_cons,List.length_cons]
      by_cases h1:a.ord<d.ord<;>by_cases h2:d.ord<a.ord<;>simp [h1,h2]<;>omega
  omega
theorem ol {ok:Dom→Bool} (l:List Dom):(fO ok l).length≤l.length:=by
 have h:∀ (l out:List Dom),(l.foldl ig out).length≤out.length+l.length:=by
  intro l
  induction l with
  | nil=>simp
  | cons a l ih=>intro out;have:=ih (ig out a);have:=El out a;simp only[List.foldl_cons,List.length_cons];omega
 have:=h (l.filter ok) []
 have:=List.length_filter_le ok l
 unfold fO
 simp at*;omega
theorem Bc {l:List Dom} (h:SS l) {o:Int} {m:Nat} (hm:m<l.length) (hlt:l[m].ord<o):∀ e∈l.take (m+1),e.ord<o:=by
 intro e he
 obtain⟨i,hi,rfl⟩:=List.getElem_of_mem he
 rw[List.length_take]at hi
 rw[List.getElem_take]
 rcases Nat.lt_or_ge i m with h1 |h1
 ·have:=zV h h1 hm;omega
 ·have:i=m:=by omega
  subst this;exact hlt
theorem Ae {l:List Dom} (h:SS l) {o:Int} {m:Nat} (hm:m<l.length) (hlt:o<l[m].ord):∀ e∈l.drop m,o<e.ord:=by
 intro e he
 obtain⟨i,hi,rfl⟩:=List.getElem_of_mem he
 rw[List.length_drop]at hi
 rw[List.getElem_drop]
 rcases Nat.eq_zero_or_pos i with h1 |h1
 ·subst h1;exact hlt
 ·have:=zV h (i:=m) (j:=m+i) (by omega) (by omega);omega
theorem FM {l:List Dom} (h:SS l) {m:Nat} (hm:m<l.length):∀ e∈l.take m,e.ord<l[m].ord:=by
 intro e he
 obtain⟨i,hi,rfl⟩:=List.getElem_of_mem he
 rw[List.length_take]at hi
 rw[List.getElem_take]
 exact zV h (by omega) hm
theorem xn {l:List Dom} (h:SS l) {m:Nat} (hm:m<l.length):∀ e∈l.drop (m+1),l[m].ord<e.ord:=by
 intro e he
 obtain⟨i,hi,rfl⟩:=List.getElem_of_mem he
 rw[List.length_drop]at hi
 rw[List.getElem_drop]
 exact zV h (by omega) (by omega)
theorem vD {ok:Dom→Bool} (l:List Dom):∀ e∈fO ok l,ok e=true:=by
  have h:∀ (l out:List Dom),(∀ e∈out,ok e=true)→(∀ e∈l,ok e=true)→∀ e∈l.foldl ig out,ok e=true:=by
    intro l
    induction l with
    | nil=>intro out h _;exact h
    | cons a l ih=>
      intro out h1 h2
      refine ih _ (fun e he=> ?_) (fun e he=>h2 e (by simp [he]))
      unfold ig at he
      rcases List.mem_append.1 he with he |he
      · exact h1 e (List.mem_filter.1 he).1
      · rcases List.mem_cons.1 he with rfl |he
        · exact h2 _ (by simp)
        · exact h1 e (List.mem_filter.1 he).1
  exact h _ [] (by simp) (fun e he=>(List.mem_filter.1 he).2)
end Go.Proofs.YtgmkkfdnmdohlaaGreatDoor
