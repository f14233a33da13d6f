/- Parts put together: SortM, Sort, SortS. -/
import Derived.Test.YtonlghbbdcddoaaGreatBase
import Derived.Test.YtonlghbbdcddoaaGreatDoms
import Derived.Test.YtonlghbbdcddoaaGreatCopy
import Derived.Deep.DeepMust
set_option maxHeartbeats 4000000
namespace Go.Proofs.YtonlghbbdcddoaaGreat
def Dom.ord (d:Dom):Int:=2*(8*d.y+d.x)+(if d.d then 1 else 0)
def Dom.valid (d:Dom):Prop:=0≤d.x∧d.x≤7∧0≤d.y∧d.y≤7
theorem yR {a b:Dom} (ha:a.valid) (hb:b.valid) (h:a.ord=b.ord):a=b:=by
 obtain⟨ax,ay,ad⟩:=a
 obtain⟨bx,by',bd⟩:=b
 simp only[Dom.valid,Dom.ord]at*
 cases ad<;>cases bd<;>simp at h⊢ <;>omega
def jZ (out:List Dom) (d:Dom):List Dom:=out.filter (fun e=>decide (e.ord<d.ord))++d::out.filter (fun e=>decide (d.ord<e.ord))
def SS (l:List Dom):Prop:=l.Pairwise (fun a b=>a.ord<b.ord)
theorem Mc:SS []:=List.Pairwise.nil
theorem Ka {l:List Dom} (h:SS l) (d:Dom):SS (jZ l d):=by
 unfold SS jZ
 rw[List.pairwise_append]
 refine⟨h.filter _,?_,?_⟩
 ·rw[List.pairwise_cons]
  refine⟨fun e he=> ?_,h.filter _⟩
  simpa using(List.mem_filter.1 he).2
 ·intro a ha b hb
  have h1:a.ord<d.ord:=by simpa using(List.mem_filter.1 ha).2
  rcases List.mem_cons.1 hb with rfl |hb
  ·exact h1
  ·have h2:d.ord<b.ord:=by simpa using(List.mem_filter.1 hb).2
   omega
theorem BQ {l:List Dom} (h:∀ e∈l,e.valid) {d:Dom} (hd:d.valid):∀ e∈jZ l d,e.valid:=by
 intro e he
 unfold jZ at he
 rcases List.mem_append.1 he with he |he
 ·exact h e (List.mem_filter.1 he).1
 ·rcases List.mem_cons.1 he with rfl |he
  ·exact hd
  ·exact h e (List.mem_filter.1 he).1
theorem mE {l:List Dom} {p:Dom→Bool} (h:∀ e∈l,p e=true):l.filter p=l:=List.filter_eq_self.2 h
theorem lu {l:List Dom} {p:Dom→Bool} (h:∀ e∈l,p e=false):l.filter p=[]:=by
 rw[List.filter_eq_nil_iff];intro e he;simp [h e he]
theorem Dr {l:List Dom} {d:Dom} {k:Nat} (h1:∀ e∈l.take k,e.ord<d.ord) (h2:∀ e∈l.drop k,d.ord<e.ord):jZ l d=l.take k++d::l.drop k:=by
 have hl:l=l.take k++l.drop k:=(List.take_append_drop k l).symm
 unfold jZ
 have a1:l.filter (fun e=>decide (e.ord<d.ord))=l.take k:=by
  conv=>lhs;rw[hl]
  rw[List.filter_append,mE (fun e he=>by simpa using h1 e he),lu (fun e he=>by have:=h2 e he;simp;omega)]
  simp
 have a2:l.filter (fun e=>decide (d.ord<e.ord))=l.drop k:=by
  conv=>lhs;rw[hl]
  rw[List.filter_append,lu (fun e he=>by have:=h1 e he;simp;omega),mE (fun e he=>by simpa using h2 e he)]
  simp
 rw[a1,a2]
theorem Fc {l:List Dom} {d:Dom} {k:Nat} (h1:∀ e∈l.take k,e.ord<d.ord) (hk:k<l.length) (he:l[k]=d) (h2:∀ e∈l.drop (k+1),d.ord<e.ord):jZ l d=l:=by
 have hl:l=l.take k++l[k]::l.drop (k+1):=by
  rw[←List.drop_eq_getElem_cons hk];exact(List.take_append_drop k l).symm
 unfold jZ
 have a1:l.filter (fun e=>decide (e.ord<d.ord))=l.take k:=by
  conv=>lhs;rw[hl]
  rw[List.filter_append,mE (fun e he=>by simpa using h1 e he),lu (fun e h=>by
   rcases List.mem_cons.1 h with rfl |h
   ·simp [he]
   ·have:=h2 e h;simp;omega)]
  simp
 have a2:l.filter (fun e=>decide (d.ord<e.ord))=l.drop (k+1):=by
  conv=>lhs;rw[hl]
  rw[List.filter_append,lu (fun e he=>by have:=h1 e he;simp;omega)]
  simp only[List.nil_append,List.filter_cons,he,Int.lt_irrefl,decide_false,Bool.false_eq_true,if_false]
  exact mE (fun e he=>by simpa using h2 e he)
 rw[a1,a2]
 conv=>rhs;rw[hl]
 rw[he]
theorem Gh {l:List Dom} (h:SS l) {i j:Nat} (hij:i<j) (hj:j<l.length):(l[i]'(by omega)).ord<l[j].ord:=List.pairwise_iff_getElem.1 h i j (by omega) hj hij
def iV (ok:Dom→Bool) (l:List Dom):List Dom:=(l.filter ok).foldl jZ []
theorem EW {l out:List Dom} (h:SS out) (hv:∀ e∈out,e.valid) (hl:∀ e∈l,e.valid):SS (l.foldl jZ out)∧∀ e∈l.foldl jZ out,e.valid:=by
 induction l generalizing out with
 | nil=>exact⟨h,hv⟩
 | cons a l ih=>exact ih (Ka h a) (BQ hv (hl a (by simp))) (fun e he=>hl e (by simp [he]))
theorem xU {ok:Dom→Bool} (hok:∀ d,ok d=true→d.valid) (l:List Dom):SS (iV ok l)∧∀ e∈iV ok l,e.valid:=
 EW Mc (by simp) (fun e he=>hok e (List.mem_filter.1 he).2)
theorem CG {ok:Dom→Bool} {l:List Dom} {k:Nat} (hk:k<l.length) (h:ok l[k]=true):iV ok (l.take (k+1))=jZ (iV ok (l.take k)) l[k]:=by
 unfold iV;rw[List.take_succ_eq_append_getElem hk,List.filter_append,List.foldl_append];simp [h]
theorem FQ {ok:Dom→Bool} {l:List Dom} {k:Nat} (hk:k<l.length) (h:ok l[k]=false):iV ok (l.take (k+1))=iV ok (l.take k):=by
 unfold iV;rw[List.take_succ_eq_append_getElem hk,List.filter_append,List.foldl_append];simp [h]
theorem Hj (l:List Dom) (d:Dom):(jZ l d).length≤l.length+1:=by
  unfold jZ
  rw[List.length_append,List.length_cons]
  have h:(l.filter (fun e=>decide (e.ord<d.ord))).length+(l.filter (fun e=>decide (d.ord<e.ord))).length≤l.length:=by
    induction l with
    | nil=>simp
    | cons a l ih=>
      simp only[List.filter_cons,List.length_cons]
      by_cases h1:a.ord<d.ord<;>by_cases h2:d.ord<a.ord<;>simp [h1,h2]<;>omega
  omega
theorem vZ {ok:Dom→Bool} (l:List Dom):(iV ok l).length≤l.length:=by
 have h:∀ (l out:List Dom),(l.foldl jZ out).length≤out.length+l.length:=by
  intro l
  induction l with
  | nil=>simp
  | cons a l ih=>intro out;have:=ih (jZ out a);have:=Hj out a;simp only[List.foldl_cons,List.length_cons];omega
 have:=h (l.filter ok) []
 have:=List.length_filter_le ok l
 unfold iV
 simp at*;omega
theorem Lm {l:List Dom} (h:SS l) {o:Int} {m:Nat} (hm:m<l.length) (hlt:l[m].ord<o):∀ e∈l.take (m+1),e.ord<o:=by
 intro e he
 obtain⟨i,hi,rfl⟩:=List.getElem_of_mem he
 rw[List.length_take]at hi
 rw[List.getElem_take]
 rcases Nat.lt_or_ge i m with h1 |h1
 ·have:=Gh h h1 hm;omega
 ·have:i=m:=by omega
  subst this;exact hlt
theorem JC {l:List Dom} (h:SS l) {o:Int} {m:Nat} (hm:m<l.length) (hlt:o<l[m].ord):∀ e∈l.drop m,o<e.ord:=by
 intro e he
 obtain⟨i,hi,rfl⟩:=List.getElem_of_mem he
 rw[List.length_drop]at hi
 rw[List.getElem_drop]
 rcases Nat.eq_zero_or_pos i with h1 |h1
 ·subst h1;exact hlt
 ·have:=Gh h (i:=m) (j:=m+i) (by omega) (by omega);omega
theorem GI {l:List Dom} (h:SS l) {m:Nat} (hm:m<l.length):∀ e∈l.drop (m+1),l[m].ord<e.ord:=by
 intro e he
 obtain⟨i,hi,rfl⟩:=List.getElem_of_mem he
 rw[List.length_drop]at hi
 rw[List.getElem_drop]
 exact Gh h (by omega) (by omega)
theorem xV {ok:Dom→Bool} (l:List Dom):∀ e∈iV ok l,ok e=true:=by
  have h:∀ (l out:List Dom),(∀ e∈out,ok e=true)→(∀ e∈l,ok e=true)→∀ e∈l.foldl jZ out,ok e=true:=by
    intro l
    induction l with
    | nil=>intro out h _;exact h
    | cons a l ih=>
      intro out h1 h2
      refine ih _ (fun e he=> ?_) (fun e he=>h2 e (by simp [he]))
      unfold jZ at he
      rcases List.mem_append.1 he with he |he
      · exact h1 e (List.mem_filter.1 he).1
      · rcases List.mem_cons.1 he with rfl |he
        · exact h2 _ (by simp)
        · exact h1 e (List.mem_filter.1 he).1
  exact h _ [] (by simp) (fun e he=>(List.mem_filter.1 he).2)
end Go.Proofs.YtonlghbbdcddoaaGreat
namespace Go.Proofs.YtonlghbbdcddoaaGreat
open Go.ChangeShapes Go.WideShapes Go.ChangeAt Go.RowKit
set_option maxRecDepth 20000
def ordI (x y:Int) (d:Bool):Int:=2*(y*8+x)+(if d then 1 else 0)
def gr (l:List Dom):List Dom:=iV Dom.ok l
theorem Az (d:Dom) (h:d.ok=true):d.valid:=by
 have:=jU.1 h
 unfold Dom.valid
 cases hd:d.d<;>simp [hd]at this<;>omega
theorem DC (d:Dom):ordI d.x d.y d.d=d.ord:=by unfold ordI Dom.ord;omega
end Go.Proofs.YtonlghbbdcddoaaGreat
namespace Go.Proofs.YtonlghbbdcddoaaGreat
open Go.ChangeShapes Go.WideShapes Go.ChangeAt Go.RowKit
set_option maxRecDepth 20000
def befB (x y:Int) (d:Bool) (x' y':Int) (d':Bool):Bool:=decide (ordI x y d<ordI x' y' d')
theorem EC (x y x' y':Int) (d d':Bool):befB x y d x' y' d'=(decide (y*8+x<y'*8+x')||(decide (y*8+x=y'*8+x')&& !d&&d')):=by
 unfold befB ordI
 rw[Bool.eq_iff_iff]
 cases d<;>cases d'<;>simp<;>omega
set_option maxHeartbeats 2000000 in
theorem lO (x y:Int) (d:Bool) (x' y':Int) (d':Bool) (h:okd x y d=true) (h':okd x' y' d'=true) (w:World):
  Calls Tryz.prog 42 #[.agg #[.int .i64 x,.int .i64 y,.bool d],.agg #[.int .i64 x',.int .i64 y',.bool d']] w fun e w'=>e= .returned (.bool (befB x y d x' y' d'))∧Below w.heap.size w w':=by
 have HB:=Lib.hid (EC x y x' y' d d')
 have h1:=jU.1 h
 have h2:=jU.1 h'
 have b1:0≤x∧x≤7∧0≤y∧y≤7:=by split at h1<;>omega
 have b2:0≤x'∧x'≤7∧0≤y'∧y'≤7:=by split at h2<;>omega
 clear h1 h2
 obtain⟨b11,b12,b13,b14⟩:=b1
 obtain⟨b21,b22,b23,b24⟩:=b2
 cases d<;>cases d'
 all_goals
  go_enter Tryz.func42,Tryz.ntmps42
  go_wp2_with (go_at_call 41;refine(jF _ _ _ _).mono ?_;rintro e w1 ⟨rfl,hb1⟩;have p0:w1.cell? ⟨w.heap.size,0,none⟩=some (.int .i64 x):=(by((repeat(first |with_reducible assumption |with_reducible refine bi ?_ (by with_reducible assumption) |with_reducible refine bh ?_ |with_reducible refine ba ?_ _ |(refine aE rfl ?_;with_reducible rfl) |(refine aE rfl ?_;simp;done) |with_reducible refine aZ ?_ _))));have p1:w1.cell? ⟨w.heap.size,1,none⟩=some (.int .i64 y):=(by((repeat(first |with_reducible assumption |with_reducible refine bi ?_ (by with_reducible assumption) |with_reducible refine bh ?_ |with_reducible refine ba ?_ _ |(refine aE rfl ?_;with_reducible rfl) |(refine aE rfl ?_;simp;done) |with_reducible refine aZ ?_ _))));have p2:w1.cell? ⟨w.heap.size,2,none⟩=some (.bool _):=(by((repeat(first |with_reducible assumption |with_reducible refine bi ?_ (by with_reducible assumption) |with_reducible refine bh ?_ |with_reducible refine ba ?_ _ |(refine aE rfl ?_;with_reducible rfl) |(refine aE rfl ?_;simp;done) |with_reducible refine aZ ?_ _))));have q0:w1.cell? ⟨w.heap.size+1,0,none⟩=some (.int .i64 x'):=(by((repeat(first |with_reducible assumption |with_reducible refine bi ?_ (by with_reducible assumption) |with_reducible refine bh ?_ |with_reducible refine ba ?_ _ |(refine aE rfl ?_;with_reducible rfl) |(refine aE rfl ?_;simp;done) |with_reducible refine aZ ?_ _))));have q1:w1.cell? ⟨w.heap.size+1,1,none⟩=some (.int .i64 y'):=(by((repeat(first |with_reducible assumption |with_reducible refine bi ?_ (by with_reducible assumption) |with_reducible refine bh ?_ |with_reducible refine ba ?_ _ |(refine aE rfl ?_;with_reducible rfl) |(refine aE rfl ?_;simp;done) |with_reducible refine aZ ?_ _))));have q2:w1.cell? ⟨w.heap.size+1,2,none⟩=some (.bool _):=(by((repeat(first |with_reducible assumption |with_reducible refine bi ?_ (by with_reducible assumption) |with_reducible refine bh ?_ |with_reducible refine ba ?_ _ |(refine aE rfl ?_;with_reducible rfl) |(refine aE rfl ?_;simp;done) |with_reducible refine aZ ?_ _)))))
  all_goals (go_ret;refine⟨lh ?_,by((repeat(first |exact Below.refl _ _ |with_reducible assumption |refine Below.alloc0 ?_ _ |refine Below.step0 ?_ (by with_reducible assumption) |refine Below.step ?_ (by with_reducible assumption) ?_ |refine Below.alloc ?_ ?_ _ |refine Below.drew ?_ |refine bK ?_ _ |refine Below.setCell ?_ ?_ _))<;>(first |omega |exact hsz |exact Below.size (by with_reducible assumption) |(simp;done) |(simp;omega) |(simp at*;omega)))⟩)
  all_goals (rw[HB.out];simp_all)
theorem rk {w0 w w':World} {B e s n:Nat} {v:Value} {xs:List Value} {row:Option Nat} (h0:w0.ownsRow B e s v n xs) (h:w.ownsRow B e s v n xs) (hg:w.grownBy w' row) (hr:∀ k,row=some k→w0.heap.size≤k):w'.ownsRow B e s v n xs:=by
 refine h.kept hg ?_
 rcases hv:v.ownBlock with _ |k
 ·exact .inl rfl
 ·right;intro e
  have a:=(h0.lt k hv).2
  have b:=hr k e.symm
  omega
theorem ro (l:List Dom) (A:Option Addr) (n c:Nat) (w:World) (hrd:Rd w 3 A n (dsl l)) (hl:n≤4194304):
  Calls Tryz.prog 75 #[.slice A n c] w fun e w'=>∃ v,e= .returned v∧w'.ownsRow w.heap.size 54 3 v (gr l).length (dsl (gr l))∧Below w.heap.size w w':=by
 obtain rfl:=hrd.len3
 obtain⟨i0,hi0,hz0,hz1,hz2⟩:=info_parts Hh
 have hown0:(w.alloc (.cells #[] 54)).ownsRow w.heap.size 54 3 (.slice (some ⟨w.heap.size,0,none⟩) 0 0) 0 []:=yW w 54 3 0 #[] rfl (Nat.zero_le _)
 have HO:=Lib.hid hown0
 clear hown0
 go_enter Tryz.func75,Tryz.ntmps75
 go_wp2
 go_loopw [3,4,5,6] (fun v i _ _ wr=>∃ (k:Nat),k≤l.length∧i= .int .i64 k∧wr.ownsRow w.heap.size 54 3 v (gr (l.take k)).length (dsl (gr (l.take k)))∧Below w.heap.size w wr) (fun _ i _ _ _=>l.length-(intOf i).toNat)
 case atStart=>exact⟨0,by omega,rfl,by simpa [gr,iV,dsl] using HO.out,by((repeat(first |exact Below.refl _ _ |with_reducible assumption |refine Below.alloc0 ?_ _ |refine Below.step0 ?_ (by with_reducible assumption) |refine Below.step ?_ (by with_reducible assumption) ?_ |refine Below.alloc ?_ ?_ _ |refine Below.drew ?_ |refine bK ?_ _ |refine Below.setCell ?_ ?_ _))<;>(first |omega |exact hsz |exact Below.size (by with_reducible assumption) |(simp;done) |(simp;omega) |(simp at*;omega)))⟩
 case round=>
  obtain⟨k,hk,rfl,hown,hbw⟩:=hrel
  clear HO
  have hsz:=hbw.size
  have hln:(gr (l.take k)).length≤k:=Nat.le_trans (vZ _) (by simp;omega)
  by_cases hlt:k<l.length
  ·obtain⟨g,off,rfl,hg,c0,c1,c2⟩:=(hrd.below hbw (Nat.le_refl _)).doms hlt
   have k0:(0:Int)≤(k:Int):=by omega
   have k1:(k:Int)<(l.length:Int):=by omega
   by_cases hok:l[k].ok=true
   ·have hok2:okd l[k].x l[k].y l[k].d=true:=hok
    have HY:=Lib.hid (show gr (l.take (k+1))=jZ (gr (l.take k)) l[k] from CG hlt hok)
    obtain⟨hss,hval⟩:=xU Az (l.take k)
    have HSS:=Lib.hid (show SS (gr (l.take k)) from hss)
    have HVAL:=Lib.hid (show ∀ e∈gr (l.take k),e.valid from hval)
    have HOKS:=Lib.hid (show ∀ e∈gr (l.take k),e.ok=true from xV (l.take k))
    clear hss hval hok
    generalize gr (l.take k)=out at HY HSS HVAL HOKS hown hln
    generalize l[k]=d at HY hok2 c0 c1 c2
    obtain⟨A3,c3,hv3,hr3,hc3,hc3'⟩:=vi hown
    subst hv3
    go_wp2_with (go_at_call 41;refine(jF _ _ _ _).mono ?_;rintro e w1 ⟨rfl,hb1⟩)
    obtain⟨wo,rfl⟩:∃ wo:World,wo=wr:=⟨_,rfl⟩
    go_loopw [5] (fun j wi=>∃ m:Nat,m≤out.length∧j= .int .i64 m∧(∀ e∈out.take m,e.ord<d.ord)∧Below wo.heap.size wo wi) (fun j _=>out.length-(intOf j).toNat)
    case atStart=>exact⟨0,Nat.zero_le _,rfl,by simp,by((repeat(first |exact Below.refl _ _ |with_reducible assumption |refine Below.alloc0 ?_ _ |refine Below.step0 ?_ (by with_reducible assumption) |refine Below.step ?_ (by with_reducible assumption) ?_ |refine Below.alloc ?_ ?_ _ |refine Below.drew ?_ |refine bK ?_ _ |refine Below.setCell ?_ ?_ _))<;>(first |omega |exact hsz |exact Below.size (by with_reducible assumption) |(simp;done) |(simp;omega) |(simp at*;omega)))⟩
    case round=>
     obtain⟨m,hm,rfl,hlts,hbi⟩:=hrel
     have hown1:wr.ownsRow w.heap.size 54 3 (.slice A3 out.length c3) out.length (dsl out):=by((repeat(first |with_reducible assumption |with_reducible refine dW ?_ _ |with_reducible refine gd ?_ (by with_reducible assumption) |with_reducible refine gb ?_ |with_reducible refine fp ?_ _)))
     have q0:wr.cell? ⟨g,off+k*3,none⟩=some (.int .i64 d.x):=(by((repeat(first |with_reducible assumption |with_reducible refine bi ?_ (by with_reducible assumption) |with_reducible refine bh ?_ |with_reducible refine ba ?_ _ |(refine aE rfl ?_;with_reducible rfl) |(refine aE rfl ?_;simp;done) |with_reducible refine aZ ?_ _))));have q1:wr.cell? ⟨g,off+k*3+1,none⟩=some (.int .i64 d.y):=(by((repeat(first |with_reducible assumption |with_reducible refine bi ?_ (by with_reducible assumption) |with_reducible refine bh ?_ |with_reducible refine ba ?_ _ |(refine aE rfl ?_;with_reducible rfl) |(refine aE rfl ?_;simp;done) |with_reducible refine aZ ?_ _))));have q2:wr.cell? ⟨g,off+k*3+2,none⟩=some (.bool d.d):=(by((repeat(first |with_reducible assumption |with_reducible refine bi ?_ (by with_reducible assumption) |with_reducible refine bh ?_ |with_reducible refine ba ?_ _ |(refine aE rfl ?_;with_reducible rfl) |(refine aE rfl ?_;simp;done) |with_reducible refine aZ ?_ _))))
     have hbw1:Below w.heap.size w wr:=by((repeat(first |exact Below.refl _ _ |with_reducible assumption |refine Below.alloc0 ?_ _ |refine Below.step0 ?_ (by with_reducible assumption) |refine Below.step ?_ (by with_reducible assumption) ?_ |refine Below.alloc ?_ ?_ _ |refine Below.drew ?_ |refine bK ?_ _ |refine Below.setCell ?_ ?_ _))<;>(first |omega |exact hsz |exact Below.size (by with_reducible assumption) |(simp;done) |(simp;omega) |(simp at*;omega)))
     have HLTS:=Lib.hid hlts
     clear hlts
     have hln2:out.length≤4194304:=by omega
     have z0:(0:Int)≤(m:Int):=by omega
     by_cases hmo:m<out.length
     ·obtain⟨g3,off3,hA3,hg3,d0,d1,d2⟩:=(vk hown1).doms hmo
      subst hA3
      have hok3:okd out[m].x out[m].y out[m].d=true:=HOKS.out _ (List.getElem_mem hmo)
      have HO1:=Lib.hid (DC out[m])
      have HO2:=Lib.hid (DC d)
      have z1:(m:Int)<(out.length:Int):=by omega
      have ht:decide ((m:Int)<(out.length:Int))=true:=by simp;omega
      have ht':decide (m<out.length)=true:=by simp;omega
      by_cases hcmp:out[m].ord<d.ord
      ·have HL2:=Lib.hid (Lm HSS.out hmo hcmp)
       have hc1:befB out[m].x out[m].y out[m].d d.x d.y d.d=true:=by unfold befB;rw[HO1.out,HO2.out];simpa using hcmp
       go_wp2
       go_region_held3 (fun w'=>w'.cell? ⟨g,off+k*3,none⟩=some (.int .i64 d.x)∧w'.cell? ⟨g,off+k*3+1,none⟩=some (.int .i64 d.y)∧w'.cell? ⟨g,off+k*3+2,none⟩=some (.bool d.d)∧w'.cell? ⟨g3,off3+m*3,none⟩=some (.int .i64 out[m].x)∧w'.cell? ⟨g3,off3+m*3+1,none⟩=some (.int .i64 out[m].y)∧w'.cell? ⟨g3,off3+m*3+2,none⟩=some (.bool out[m].d)) (go_keep) ((go_at_call 42;with_reducible refine(lO _ _ _ _ _ _ hok3 hok2 _).mono ?_;rintro e w2 ⟨rfl,hb2⟩;have x0:w2.cell? ⟨g,off+k*3,none⟩=some (.int .i64 d.x):=(by((repeat(first |with_reducible assumption |with_reducible refine bi ?_ (by with_reducible assumption) |with_reducible refine bh ?_ |with_reducible refine ba ?_ _ |(refine aE rfl ?_;with_reducible rfl) |(refine aE rfl ?_;simp;done) |with_reducible refine aZ ?_ _))));have x1:w2.cell? ⟨g,off+k*3+1,none⟩=some (.int .i64 d.y):=(by((repeat(first |with_reducible assumption |with_reducible refine bi ?_ (by with_reducible assumption) |with_reducible refine bh ?_ |with_reducible refine ba ?_ _ |(refine aE rfl ?_;with_reducible rfl) |(refine aE rfl ?_;simp;done) |with_reducible refine aZ ?_ _))));have x2:w2.cell? ⟨g,off+k*3+2,none⟩=some (.bool d.d):=(by((repeat(first |with_reducible assumption |with_reducible refine bi ?_ (by with_reducible assumption) |with_reducible refine bh ?_ |with_reducible refine ba ?_ _ |(refine aE rfl ?_;with_reducible rfl) |(refine aE rfl ?_;simp;done) |with_reducible refine aZ ?_ _))));have y0:w2.cell? ⟨g3,off3+m*3,none⟩=some (.int .i64 out[m].x):=(by((repeat(first |with_reducible assumption |with_reducible refine bi ?_ (by with_reducible assumption) |with_reducible refine bh ?_ |with_reducible refine ba ?_ _ |(refine aE rfl ?_;with_reducible rfl) |(refine aE rfl ?_;simp;done) |with_reducible refine aZ ?_ _))));have y1:w2.cell? ⟨g3,off3+m*3+1,none⟩=some (.int .i64 out[m].y):=(by((repeat(first |with_reducible assumption |with_reducible refine bi ?_ (by with_reducible assumption) |with_reducible refine bh ?_ |with_reducible refine ba ?_ _ |(refine aE rfl ?_;with_reducible rfl) |(refine aE rfl ?_;simp;done) |with_reducible refine aZ ?_ _))));have y2:w2.cell? ⟨g3,off3+m*3+2,none⟩=some (.bool out[m].d):=(by((repeat(first |with_reducible assumption |with_reducible refine bi ?_ (by with_reducible assumption) |with_reducible refine bh ?_ |with_reducible refine ba ?_ _ |(refine aE rfl ?_;with_reducible rfl) |(refine aE rfl ?_;simp;done) |with_reducible refine aZ ?_ _))))))
       all_goals
        go_wp2
        go_roundw
        case rel=>exact⟨m+1,by omega,by go_num,HL2.out,by((repeat(first |exact Below.refl _ _ |with_reducible assumption |refine Below.alloc0 ?_ _ |refine Below.step0 ?_ (by with_reducible assumption) |refine Below.step ?_ (by with_reducible assumption) ?_ |refine Below.alloc ?_ ?_ _ |refine Below.drew ?_ |refine bK ?_ _ |refine Below.setCell ?_ ?_ _))<;>(first |omega |exact hsz |exact Below.size (by with_reducible assumption) |(simp;done) |(simp;omega) |(simp at*;omega)))⟩
        case measure=>simp [intOf];omega
      ·have hc1:befB out[m].x out[m].y out[m].d d.x d.y d.d=false:=by unfold befB;rw[HO1.out,HO2.out];simpa using hcmp
       have hrun:=oo out[m].x out[m].y out[m].d d.x d.y d.d
       by_cases heq:out[m]=d
       ·have HSAME:=Lib.hid (Fc (k:=m) (d:=d) HLTS.out hmo heq (by rw[←heq];exact GI HSS.out hmo))
        have hdq:dEq out[m].x out[m].y out[m].d d.x d.y d.d=true:=by rw[jE];simpa using heq
        clear heq hcmp
        go_wp2
        go_region_held3 (fun w'=>w'.cell? ⟨g,off+k*3,none⟩=some (.int .i64 d.x)∧w'.cell? ⟨g,off+k*3+1,none⟩=some (.int .i64 d.y)∧w'.cell? ⟨g,off+k*3+2,none⟩=some (.bool d.d)∧w'.cell? ⟨g3,off3+m*3,none⟩=some (.int .i64 out[m].x)∧w'.cell? ⟨g3,off3+m*3+1,none⟩=some (.int .i64 out[m].y)∧w'.cell? ⟨g3,off3+m*3+2,none⟩=some (.bool out[m].d)) (go_keep) ((go_at_call 42;with_reducible refine(lO _ _ _ _ _ _ hok3 hok2 _).mono ?_;rintro e w2 ⟨rfl,hb2⟩;have x0:w2.cell? ⟨g,off+k*3,none⟩=some (.int .i64 d.x):=(by((repeat(first |with_reducible assumption |with_reducible refine bi ?_ (by with_reducible assumption) |with_reducible refine bh ?_ |with_reducible refine ba ?_ _ |(refine aE rfl ?_;with_reducible rfl) |(refine aE rfl ?_;simp;done) |with_reducible refine aZ ?_ _))));have x1:w2.cell? ⟨g,off+k*3+1,none⟩=some (.int .i64 d.y):=(by((repeat(first |with_reducible assumption |with_reducible refine bi ?_ (by with_reducible assumption) |with_reducible refine bh ?_ |with_reducible refine ba ?_ _ |(refine aE rfl ?_;with_reducible rfl) |(refine aE rfl ?_;simp;done) |with_reducible refine aZ ?_ _))));have x2:w2.cell? ⟨g,off+k*3+2,none⟩=some (.bool d.d):=(by((repeat(first |with_reducible assumption |with_reducible refine bi ?_ (by with_reducible assumption) |with_reducible refine bh ?_ |with_reducible refine ba ?_ _ |(refine aE rfl ?_;with_reducible rfl) |(refine aE rfl ?_;simp;done) |with_reducible refine aZ ?_ _))));have y0:w2.cell? ⟨g3,off3+m*3,none⟩=some (.int .i64 out[m].x):=(by((repeat(first |with_reducible assumption |with_reducible refine bi ?_ (by with_reducible assumption) |with_reducible refine bh ?_ |with_reducible refine ba ?_ _ |(refine aE rfl ?_;with_reducible rfl) |(refine aE rfl ?_;simp;done) |with_reducible refine aZ ?_ _))));have y1:w2.cell? ⟨g3,off3+m*3+1,none⟩=some (.int .i64 out[m].y):=(by((repeat(first |with_reducible assumption |with_reducible refine bi ?_ (by with_reducible assumption) |with_reducible refine bh ?_ |with_reducible refine ba ?_ _ |(refine aE rfl ?_;with_reducible rfl) |(refine aE rfl ?_;simp;done) |with_reducible refine aZ ?_ _))));have y2:w2.cell? ⟨g3,off3+m*3+2,none⟩=some (.bool out[m].d):=(by((repeat(first |with_reducible assumption |with_reducible refine bi ?_ (by with_reducible assumption) |with_reducible refine bh ?_ |with_reducible refine ba ?_ _ |(refine aE rfl ?_;with_reducible rfl) |(refine aE rfl ?_;simp;done) |with_reducible refine aZ ?_ _))))))
        all_goals
         go_wp2
         go_quiet (fail)
         go_wp2
         go_roundw
         case rel=>
          refine⟨k+1,by omega,by go_num,?_,by((repeat(first |exact Below.refl _ _ |with_reducible assumption |refine Below.alloc0 ?_ _ |refine Below.step0 ?_ (by with_reducible assumption) |refine Below.step ?_ (by with_reducible assumption) ?_ |refine Below.alloc ?_ ?_ _ |refine Below.drew ?_ |refine bK ?_ _ |refine Below.setCell ?_ ?_ _))<;>(first |omega |exact hsz |exact Below.size (by with_reducible assumption) |(simp;done) |(simp;omega) |(simp at*;omega)))⟩
          rw[HY.out,HSAME.out]
          ((repeat(first |with_reducible assumption |with_reducible refine dW ?_ _ |with_reducible refine gd ?_ (by with_reducible assumption) |with_reducible refine gb ?_ |with_reducible refine fp ?_ _)))
         case measure=>simp [intOf];omega
       ·have hlt3:d.ord<out[m].ord:=by
         have:=yR (HVAL.out _ (List.getElem_mem hmo)) (Az _ hok2)
         rcases Int.lt_or_le d.ord out[m].ord with h |h
         ·exact h
         ·exact absurd (this (by omega)) heq
        have HINS:=Lib.hid (Dr (k:=m) HLTS.out (JC HSS.out hmo hlt3))
        have hdq:dEq out[m].x out[m].y out[m].d d.x d.y d.d=false:=by rw[jE];simpa using heq
        clear heq hcmp hlt3
        go_wp2
        go_region_held3 (fun w'=>w'.cell? ⟨g,off+k*3,none⟩=some (.int .i64 d.x)∧w'.cell? ⟨g,off+k*3+1,none⟩=some (.int .i64 d.y)∧w'.cell? ⟨g,off+k*3+2,none⟩=some (.bool d.d)∧w'.cell? ⟨g3,off3+m*3,none⟩=some (.int .i64 out[m].x)∧w'.cell? ⟨g3,off3+m*3+1,none⟩=some (.int .i64 out[m].y)∧w'.cell? ⟨g3,off3+m*3+2,none⟩=some (.bool out[m].d)) (go_keep) ((go_at_call 42;with_reducible refine(lO _ _ _ _ _ _ hok3 hok2 _).mono ?_;rintro e w2 ⟨rfl,hb2⟩;have x0:w2.cell? ⟨g,off+k*3,none⟩=some (.int .i64 d.x):=(by((repeat(first |with_reducible assumption |with_reducible refine bi ?_ (by with_reducible assumption) |with_reducible refine bh ?_ |with_reducible refine ba ?_ _ |(refine aE rfl ?_;with_reducible rfl) |(refine aE rfl ?_;simp;done) |with_reducible refine aZ ?_ _))));have x1:w2.cell? ⟨g,off+k*3+1,none⟩=some (.int .i64 d.y):=(by((repeat(first |with_reducible assumption |with_reducible refine bi ?_ (by with_reducible assumption) |with_reducible refine bh ?_ |with_reducible refine ba ?_ _ |(refine aE rfl ?_;with_reducible rfl) |(refine aE rfl ?_;simp;done) |with_reducible refine aZ ?_ _))));have x2:w2.cell? ⟨g,off+k*3+2,none⟩=some (.bool d.d):=(by((repeat(first |with_reducible assumption |with_reducible refine bi ?_ (by with_reducible assumption) |with_reducible refine bh ?_ |with_reducible refine ba ?_ _ |(refine aE rfl ?_;with_reducible rfl) |(refine aE rfl ?_;simp;done) |with_reducible refine aZ ?_ _))));have y0:w2.cell? ⟨g3,off3+m*3,none⟩=some (.int .i64 out[m].x):=(by((repeat(first |with_reducible assumption |with_reducible refine bi ?_ (by with_reducible assumption) |with_reducible refine bh ?_ |with_reducible refine ba ?_ _ |(refine aE rfl ?_;with_reducible rfl) |(refine aE rfl ?_;simp;done) |with_reducible refine aZ ?_ _))));have y1:w2.cell? ⟨g3,off3+m*3+1,none⟩=some (.int .i64 out[m].y):=(by((repeat(first |with_reducible assumption |with_reducible refine bi ?_ (by with_reducible assumption) |with_reducible refine bh ?_ |with_reducible refine ba ?_ _ |(refine aE rfl ?_;with_reducible rfl) |(refine aE rfl ?_;simp;done) |with_reducible refine aZ ?_ _))));have y2:w2.cell? ⟨g3,off3+m*3+2,none⟩=some (.bool out[m].d):=(by((repeat(first |with_reducible assumption |with_reducible refine bi ?_ (by with_reducible assumption) |with_reducible refine bh ?_ |with_reducible refine ba ?_ _ |(refine aE rfl ?_;with_reducible rfl) |(refine aE rfl ?_;simp;done) |with_reducible refine aZ ?_ _))))))
        all_goals go_wp2
        all_goals go_quiet (fail)
        all_goals
         have hct:=Gy Tryz.prog 27 54 3 Tryz.underlying27 (by rw[hi0];simp [hz1]) (some ⟨g3,off3,none⟩) out.length c3 m (m:Int) rfl (by omega)
         obtain⟨D2,L2,C2,hD2,hcut2⟩:=zF Tryz.prog 27 54 3 Tryz.underlying27 (by rw[hi0];simp [hz1]) (some ⟨g3,off3,none⟩) out.length c3 m (m:Int) rfl (by omega)
         have HD2:=Lib.hid hD2
         have hL2:L2≤4194304:=by rw[hD2.2.1];omega
         have HOW:=Lib.hid (show w2.ownsRow w.heap.size 54 3 (.slice (some ⟨g3,off3,none⟩) out.length c3) out.length (dsl out) by((repeat(first |with_reducible assumption |with_reducible refine dW ?_ _ |with_reducible refine gd ?_ (by with_reducible assumption) |with_reducible refine gb ?_ |with_reducible refine fp ?_ _))))
         have hm2:m≤4194304:=by omega
         have hgW:g<w2.heap.size:=qB x0
         clear hD2
         have hsw:w.heap.size≤w2.heap.size:=by((repeat(first |exact Nat.le_refl _ |with_reducible assumption |with_reducible refine Nat.le_trans ?_ (Below.size (by with_reducible assumption)) |with_reducible refine Nat.le_trans ?_ (er (by with_reducible assumption)) |with_reducible refine ew ?_ _ |with_reducible refine ez ?_ _ |with_reducible refine eO ?_)))
         go_wp2_with (first
          | (with_reducible refine wW (o:=⟨some 56,_,_,_,_,_⟩) ?_;go_must (refine eF rfl (.tmp 52) (.tmp 55) 27 rfl w2.heap.size 54 i0 (.agg #[.int .i64 0,.int .i64 0,.bool false]) 3 24 Tryz.underlying27 hi0 hz0 hz1 hz2 rfl (by omega) (.slice (some ⟨w2.heap.size,0,none⟩) 0 0) 0 [] rfl (some ⟨g3,off3,none⟩) m c3 rfl ?_ (dsl (out.take m)) ?_ (oJ _) ?_ ?_ ?_ ?_);go_must (first |exact pL _ _ _ _ |exact vj _ _ _);go_must (refine tA (vk (base:=w.heap.size) (e:=54) (c:=c3) ?_) hm);go_must (((repeat(first |with_reducible assumption |with_reducible refine dW ?_ _ |with_reducible refine gd ?_ (by with_reducible assumption) |with_reducible refine gb ?_ |with_reducible refine fp ?_ _))));go_must (unfold maxLen;omega);go_must (omega);go_must (((repeat(first |exact Nat.le_refl _ |with_reducible assumption |with_reducible refine Nat.le_trans ?_ (Below.size (by with_reducible assumption)) |with_reducible refine Nat.le_trans ?_ (er (by with_reducible assumption)) |with_reducible refine ew ?_ _ |with_reducible refine ez ?_ _ |with_reducible refine eO ?_))));go_must (intro v4 w4 hown4 hgr4 hat4;have hk4:=rk HOW.out (w':=w4) (by((repeat(first |with_reducible assumption |with_reducible refine dW ?_ _ |with_reducible refine gd ?_ (by with_reducible assumption) |with_reducible refine gb ?_ |with_reducible refine fp ?_ _)))) hgr4 (fun j hj=>by have:=rJ hj;omega);obtain⟨A4,c4,hv4⟩:=oU hown4;subst hv4;have hne4:(Value.slice (some ⟨w2.heap.size,0,none⟩) 0 0).ownBlock≠some g:=(fun e=>by have:=rJ e;omega);have q40:w4.cell? ⟨g,off+k*3,none⟩=some (.int .i64 d.x):=jd (by((repeat(first |with_reducible assumption |with_reducible refine bi ?_ (by with_reducible assumption) |with_reducible refine bh ?_ |with_reducible refine ba ?_ _ |(refine aE rfl ?_;with_reducible rfl) |(refine aE rfl ?_;simp;done) |with_reducible refine aZ ?_ _)))) hgr4 hne4;have q41:w4.cell? ⟨g,off+k*3+1,none⟩=some (.int .i64 d.y):=jd (by((repeat(first |with_reducible assumption |with_reducible refine bi ?_ (by with_reducible assumption) |with_reducible refine bh ?_ |with_reducible refine ba ?_ _ |(refine aE rfl ?_;with_reducible rfl) |(refine aE rfl ?_;simp;done) |with_reducible refine aZ ?_ _)))) hgr4 hne4;have q42:w4.cell? ⟨g,off+k*3+2,none⟩=some (.bool d.d):=jd (by((repeat(first |with_reducible assumption |with_reducible refine bi ?_ (by with_reducible assumption) |with_reducible refine bh ?_ |with_reducible refine ba ?_ _ |(refine aE rfl ?_;with_reducible rfl) |(refine aE rfl ?_;simp;done) |with_reducible refine aZ ?_ _)))) hgr4 hne4;have hs4:w2.heap.size≤w4.heap.size:=(Nat.le_trans (by((repeat(first |exact Nat.le_refl _ |with_reducible assumption |with_reducible refine Nat.le_trans ?_ (Below.size (by with_reducible assumption)) |with_reducible refine Nat.le_trans ?_ (er (by with_reducible assumption)) |with_reducible refine ew ?_ _ |with_reducible refine ez ?_ _ |with_reducible refine eO ?_)))) hgr4.size);have hb4:=Lib.hid (fX (B:=w.heap.size) (a:=w) (by((repeat(first |exact Below.refl _ _ |with_reducible assumption |refine Below.alloc0 ?_ _ |refine Below.step0 ?_ (by with_reducible assumption) |refine Below.step ?_ (by with_reducible assumption) ?_ |refine Below.alloc ?_ ?_ _ |refine Below.drew ?_ |refine bK ?_ _ |refine Below.setCell ?_ ?_ _))<;>(first |omega |exact hsz |exact Below.size (by with_reducible assumption) |(simp;done) |(simp;omega) |(simp at*;omega)))) hgr4 (fun j hj=>by have:=rJ hj;omega) (by((repeat(first |exact Nat.le_refl _ |with_reducible assumption |with_reducible refine Nat.le_trans ?_ (Below.size (by with_reducible assumption)) |with_reducible refine Nat.le_trans ?_ (er (by with_reducible assumption)) |with_reducible refine ew ?_ _ |with_reducible refine ez ?_ _ |with_reducible refine eO ?_)))));have HK4:=Lib.hid hk4;have HO4:=Lib.hid (show w4.ownsRow w2.heap.size 54 3 (.slice A4 m c4) m (dsl (out.take m)) by simpa using hown4);clear hk4 hown4 hgr4 hat4 hne4))
          | (with_reducible refine wW (o:=⟨some 63,_,_,_,_,_⟩) ?_;go_must (refine eF rfl (.tmp 57) (.tmp 62) 27 rfl w2.heap.size 54 i0 (.agg #[.int .i64 0,.int .i64 0,.bool false]) 3 24 Tryz.underlying27 hi0 hz0 hz1 hz2 rfl (by omega) (.slice A4 m c4) m (dsl (out.take m)) rfl (some ⟨w4.heap.size,0,none⟩) 1 1 rfl ?_ (dsl [d]) (vL d _) (oJ _) ?_ ?_ ?_ ?_);go_must (exact dW HO4.out _);go_must (unfold maxLen;omega);go_must (omega);go_must (((repeat(first |exact Nat.le_refl _ |with_reducible assumption |with_reducible refine Nat.le_trans ?_ (Below.size (by with_reducible assumption)) |with_reducible refine Nat.le_trans ?_ (er (by with_reducible assumption)) |with_reducible refine ew ?_ _ |with_reducible refine ez ?_ _ |with_reducible refine eO ?_))));go_must (intro v5 w5 hown5 hgr5 hat5;have hr5:∀ j,(Value.slice A4 m c4).ownBlock=some j→w2.heap.size≤j:=(fun j hj=>(HO4.out.lt j hj).1);have hk5:=rk HOW.out (w':=w5) (dW HK4.out _) hgr5 hr5;obtain⟨A5,c5,hv5⟩:=oU hown5;subst hv5;have hs5:=hgr5.size;have hb5:=Lib.hid (fX (B:=w.heap.size) (a:=w) (hb4.out.alloc (Nat.le_trans hsw hs4) _) hgr5 (fun j hj=>Nat.le_trans hsw (hr5 j hj)) (Nat.le_trans hsw (Nat.le_trans hs4 (by simp))));have HK5:=Lib.hid hk5;have HO5:=Lib.hid hown5;clear hk5 hown5 hgr5 hat5 hr5))
          | (with_reducible refine wW (o:=⟨some 68,_,_,_,_,_⟩) ?_;go_must (refine eF rfl (.tmp 64) (.tmp 67) 27 rfl w2.heap.size 54 i0 (.agg #[.int .i64 0,.int .i64 0,.bool false]) 3 24 Tryz.underlying27 hi0 hz0 hz1 hz2 rfl (by omega) (.slice A5 (m+1) c5) (m+1) (dsl (out.take m)++dsl [d]) rfl D2 L2 C2 rfl ?_ (dsl (out.drop m)) ?_ (oJ _) ?_ ?_ ?_ ?_);go_must (exact HO5.out);go_must (exact tz (vk HK5.out) hc3 hm HD2.out.1 HD2.out.2.1);go_must (unfold maxLen;omega);go_must (omega);go_must (exact Nat.le_trans hs4 (Nat.le_trans (by simp) hs5));go_must (intro v6 w6 hown6 hgr6 hat6;have hb6:=Lib.hid (fX (B:=w.heap.size) (a:=w) hb5.out hgr6 (fun j hj=>Nat.le_trans hsw (HO5.out.lt j hj).1) (Nat.le_trans hsw (Nat.le_trans hs4 (Nat.le_trans (by simp) hs5))));have HO6:=Lib.hid hown6;clear hown6 hgr6 hat6)))
         go_roundw
         case rel=>
          refine⟨k+1,by omega,by go_num,?_,hb6.out⟩
          rw[HY.out,HINS.out]
          refine xv (AD (AC HO6.out hsw) ?_) ?_
          ·have:=HD2.out.2.1;simp;omega
          ·rw[ie,show d::out.drop m=[d]++out.drop m from rfl,ie];simp
         case measure=>simp [intOf];omega
     ·have hmo':m=out.length:=by omega
      have HINS:=Lib.hid (Dr (k:=m) HLTS.out (by rw[List.drop_eq_nil_of_le (by omega)];simp))
      have ht:decide ((m:Int)<(out.length:Int))=false:=by simp;omega
      have ht':decide (m<out.length)=false:=by simp;omega
      have HMO:=Lib.hid hmo'
      clear hmo'
      go_wp2
      go_quiet (fail)
      go_wp2
      go_quiet (fail)
      all_goals
       have hct:=Gy Tryz.prog 27 54 3 Tryz.underlying27 (by rw[hi0];simp [hz1]) A3 out.length c3 m (m:Int) rfl (by omega)
       obtain⟨D2,L2,C2,hD2,hcut2⟩:=zF Tryz.prog 27 54 3 Tryz.underlying27 (by rw[hi0];simp [hz1]) A3 out.length c3 m (m:Int) rfl (by omega)
       have HD2:=Lib.hid hD2
       have hL2:L2≤4194304:=by rw[hD2.2.1];omega
       have HOW:=Lib.hid (show wr.ownsRow w.heap.size 54 3 (.slice A3 out.length c3) out.length (dsl out) by((repeat(first |with_reducible assumption |with_reducible refine dW ?_ _ |with_reducible refine gd ?_ (by with_reducible assumption) |with_reducible refine gb ?_ |with_reducible refine fp ?_ _))))
       have hm2:m≤4194304:=by omega
       have hgW:g<wr.heap.size:=qB q0
       clear hD2
       have hsw:w.heap.size≤wr.heap.size:=by((repeat(first |exact Nat.le_refl _ |with_reducible assumption |with_reducible refine Nat.le_trans ?_ (Below.size (by with_reducible assumption)) |with_reducible refine Nat.le_trans ?_ (er (by with_reducible assumption)) |with_reducible refine ew ?_ _ |with_reducible refine ez ?_ _ |with_reducible refine eO ?_)))
       go_wp2_with (first
        | (with_reducible refine wW (o:=⟨some 56,_,_,_,_,_⟩) ?_;go_must (refine eF rfl (.tmp 52) (.tmp 55) 27 rfl wr.heap.size 54 i0 (.agg #[.int .i64 0,.int .i64 0,.bool false]) 3 24 Tryz.underlying27 hi0 hz0 hz1 hz2 rfl (by omega) (.slice (some ⟨wr.heap.size,0,none⟩) 0 0) 0 [] rfl A3 m c3 rfl ?_ (dsl (out.take m)) ?_ (oJ _) ?_ ?_ ?_ ?_);go_must (first |exact pL _ _ _ _ |exact vj _ _ _);go_must (refine tA (vk (base:=w.heap.size) (e:=54) (c:=c3) ?_) hm);go_must (((repeat(first |with_reducible assumption |with_reducible refine dW ?_ _ |with_reducible refine gd ?_ (by with_reducible assumption) |with_reducible refine gb ?_ |with_reducible refine fp ?_ _))));go_must (unfold maxLen;omega);go_must (omega);go_must (((repeat(first |exact Nat.le_refl _ |with_reducible assumption |with_reducible refine Nat.le_trans ?_ (Below.size (by with_reducible assumption)) |with_reducible refine Nat.le_trans ?_ (er (by with_reducible assumption)) |with_reducible refine ew ?_ _ |with_reducible refine ez ?_ _ |with_reducible refine eO ?_))));go_must (intro v4 w4 hown4 hgr4 hat4;have hk4:=rk HOW.out (w':=w4) (by((repeat(first |with_reducible assumption |with_reducible refine dW ?_ _ |with_reducible refine gd ?_ (by with_reducible assumption) |with_reducible refine gb ?_ |with_reducible refine fp ?_ _)))) hgr4 (fun j hj=>by have:=rJ hj;omega);obtain⟨A4,c4,hv4⟩:=oU hown4;subst hv4;have hne4:(Value.slice (some ⟨wr.heap.size,0,none⟩) 0 0).ownBlock≠some g:=(fun e=>by have:=rJ e;omega);have q40:w4.cell? ⟨g,off+k*3,none⟩=some (.int .i64 d.x):=jd (by((repeat(first |with_reducible assumption |with_reducible refine bi ?_ (by with_reducible assumption) |with_reducible refine bh ?_ |with_reducible refine ba ?_ _ |(refine aE rfl ?_;with_reducible rfl) |(refine aE rfl ?_;simp;done) |with_reducible refine aZ ?_ _)))) hgr4 hne4;have q41:w4.cell? ⟨g,off+k*3+1,none⟩=some (.int .i64 d.y):=jd (by((repeat(first |with_reducible assumption |with_reducible refine bi ?_ (by with_reducible assumption) |with_reducible refine bh ?_ |with_reducible refine ba ?_ _ |(refine aE rfl ?_;with_reducible rfl) |(refine aE rfl ?_;simp;done) |with_reducible refine aZ ?_ _)))) hgr4 hne4;have q42:w4.cell? ⟨g,off+k*3+2,none⟩=some (.bool d.d):=jd (by((repeat(first |with_reducible assumption |with_reducible refine bi ?_ (by with_reducible assumption) |with_reducible refine bh ?_ |with_reducible refine ba ?_ _ |(refine aE rfl ?_;with_reducible rfl) |(refine aE rfl ?_;simp;done) |with_reducible refine aZ ?_ _)))) hgr4 hne4;have hs4:wr.heap.size≤w4.heap.size:=(Nat.le_trans (by((repeat(first |exact Nat.le_refl _ |with_reducible assumption |with_reducible refine Nat.le_trans ?_ (Below.size (by with_reducible assumption)) |with_reducible refine Nat.le_trans ?_ (er (by with_reducible assumption)) |with_reducible refine ew ?_ _ |with_reducible refine ez ?_ _ |with_reducible refine eO ?_)))) hgr4.size);have hb4:=Lib.hid (fX (B:=w.heap.size) (a:=w) (by((repeat(first |exact Below.refl _ _ |with_reducible assumption |refine Below.alloc0 ?_ _ |refine Below.step0 ?_ (by with_reducible assumption) |refine Below.step ?_ (by with_reducible assumption) ?_ |refine Below.alloc ?_ ?_ _ |refine Below.drew ?_ |refine bK ?_ _ |refine Below.setCell ?_ ?_ _))<;>(first |omega |exact hsz |exact Below.size (by with_reducible assumption) |(simp;done) |(simp;omega) |(simp at*;omega)))) hgr4 (fun j hj=>by have:=rJ hj;omega) (by((repeat(first |exact Nat.le_refl _ |with_reducible assumption |with_reducible refine Nat.le_trans ?_ (Below.size (by with_reducible assumption)) |with_reducible refine Nat.le_trans ?_ (er (by with_reducible assumption)) |with_reducible refine ew ?_ _ |with_reducible refine ez ?_ _ |with_reducible refine eO ?_)))));have HK4:=Lib.hid hk4;have HO4:=Lib.hid (show w4.ownsRow wr.heap.size 54 3 (.slice A4 m c4) m (dsl (out.take m)) by simpa using hown4);clear hk4 hown4 hgr4 hat4 hne4))
        | (with_reducible refine wW (o:=⟨some 63,_,_,_,_,_⟩) ?_;go_must (refine eF rfl (.tmp 57) (.tmp 62) 27 rfl wr.heap.size 54 i0 (.agg #[.int .i64 0,.int .i64 0,.bool false]) 3 24 Tryz.underlying27 hi0 hz0 hz1 hz2 rfl (by omega) (.slice A4 m c4) m (dsl (out.take m)) rfl (some ⟨w4.heap.size,0,none⟩) 1 1 rfl ?_ (dsl [d]) (vL d _) (oJ _) ?_ ?_ ?_ ?_);go_must (exact dW HO4.out _);go_must (unfold maxLen;omega);go_must (omega);go_must (((repeat(first |exact Nat.le_refl _ |with_reducible assumption |with_reducible refine Nat.le_trans ?_ (Below.size (by with_reducible assumption)) |with_reducible refine Nat.le_trans ?_ (er (by with_reducible assumption)) |with_reducible refine ew ?_ _ |with_reducible refine ez ?_ _ |with_reducible refine eO ?_))));go_must (intro v5 w5 hown5 hgr5 hat5;have hr5:∀ j,(Value.slice A4 m c4).ownBlock=some j→wr.heap.size≤j:=(fun j hj=>(HO4.out.lt j hj).1);have hk5:=rk HOW.out (w':=w5) (dW HK4.out _) hgr5 hr5;obtain⟨A5,c5,hv5⟩:=oU hown5;subst hv5;have hs5:=hgr5.size;have hb5:=Lib.hid (fX (B:=w.heap.size) (a:=w) (hb4.out.alloc (Nat.le_trans hsw hs4) _) hgr5 (fun j hj=>Nat.le_trans hsw (hr5 j hj)) (Nat.le_trans hsw (Nat.le_trans hs4 (by simp))));have HK5:=Lib.hid hk5;have HO5:=Lib.hid hown5;clear hk5 hown5 hgr5 hat5 hr5))
        | (with_reducible refine wW (o:=⟨some 68,_,_,_,_,_⟩) ?_;go_must (refine eF rfl (.tmp 64) (.tmp 67) 27 rfl wr.heap.size 54 i0 (.agg #[.int .i64 0,.int .i64 0,.bool false]) 3 24 Tryz.underlying27 hi0 hz0 hz1 hz2 rfl (by omega) (.slice A5 (m+1) c5) (m+1) (dsl (out.take m)++dsl [d]) rfl D2 L2 C2 rfl ?_ (dsl (out.drop m)) ?_ (oJ _) ?_ ?_ ?_ ?_);go_must (exact HO5.out);go_must (exact tz (vk HK5.out) hc3 hm HD2.out.1 HD2.out.2.1);go_must (unfold maxLen;omega);go_must (omega);go_must (exact Nat.le_trans hs4 (Nat.le_trans (by simp) hs5));go_must (intro v6 w6 hown6 hgr6 hat6;have hb6:=Lib.hid (fX (B:=w.heap.size) (a:=w) hb5.out hgr6 (fun j hj=>Nat.le_trans hsw (HO5.out.lt j hj).1) (Nat.le_trans hsw (Nat.le_trans hs4 (Nat.le_trans (by simp) hs5))));have HO6:=Lib.hid hown6;clear hown6 hgr6 hat6)))
       go_roundw
       case rel=>
        refine⟨k+1,by omega,by go_num,?_,hb6.out⟩
        rw[HY.out,HINS.out]
        refine xv (AD (AC HO6.out hsw) ?_) ?_
        ·have:=HD2.out.2.1;simp;omega
        ·rw[ie,show d::out.drop m=[d]++out.drop m from rfl,ie];simp
       case measure=>simp [intOf];omega
   ·have HY:=Lib.hid (show gr (l.take (k+1))=gr (l.take k) from FQ hlt (by simpa using hok))
    have hok2:okd l[k].x l[k].y l[k].d=false:=by simpa [Dom.ok] using hok
    clear hok
    go_wp2_with (go_at_call 41;refine(jF _ _ _ _).mono ?_;rintro e w1 ⟨rfl,hb1⟩)
    go_roundw
    case rel=>exact⟨k+1,by omega,by go_num,by rw[HY.out];((repeat(first |with_reducible assumption |with_reducible refine dW ?_ _ |with_reducible refine gd ?_ (by with_reducible assumption) |with_reducible refine gb ?_ |with_reducible refine fp ?_ _))),by((repeat(first |exact Below.refl _ _ |with_reducible assumption |refine Below.alloc0 ?_ _ |refine Below.step0 ?_ (by with_reducible assumption) |refine Below.step ?_ (by with_reducible assumption) ?_ |refine Below.alloc ?_ ?_ _ |refine Below.drew ?_ |refine bK ?_ _ |refine Below.setCell ?_ ?_ _))<;>(first |omega |exact hsz |exact Below.size (by with_reducible assumption) |(simp;done) |(simp;omega) |(simp at*;omega)))⟩
    case measure=>simp [intOf];omega
  ·obtain rfl:k=l.length:=by omega
   go_wp2
   go_ret
   rw[List.take_length]at hown
   exact⟨_,rfl,hown,hbw⟩
end Go.Proofs.YtonlghbbdcddoaaGreat
