/- Walks. -/
import Derived.Test.YtgmkkfdnmdohlaaGreatDoorC0
import Derived.Test.YtgmkkfdnmdohlaaGreatDoorClB
set_option linter.unusedSimpArgs false
set_option linter.unusedVariables false
namespace Go.Proofs.YtgmkkfdnmdohlaaGreatDoor
namespace Cl
open Go.ChangeShapes Go.WideShapes Go.ChangeAt Go.RowKit
set_option maxRecDepth 20000
def ik:List Int→Int→List Int
 | [],n=>[n]
 | a::L,n=>if a<n then a::ik L n else n::a::L
def srt (L:List Int):List Int:=L.foldl ik []
def LE (L:List Int):Prop:=L.Pairwise (· ≤ ·)
theorem qo (L:List Int) (n:Int):(ik L n).Perm (n::L):=by
  induction L with
  | nil=>exact List.Perm.refl _
  | cons a L ih=>
    unfold ik;split
    · exact(List.Perm.cons _ ih).trans (List.Perm.swap _ _ _)
    · exact List.Perm.refl _
theorem EZ (L:List Int) (n:Int):(ik L n).length=L.length+1:=by rw[(qo L n).length_eq];rfl
theorem HI {L:List Int} (h:LE L) (n:Int):LE (ik L n):=by
  induction L with
  | nil=>unfold ik LE;simp
  | cons a L ih=>
    obtain⟨h1,h2⟩:=List.pairwise_cons.1 h
    unfold ik;split
    · refine List.pairwise_cons.2 ⟨fun b hb=> ?_,ih h2⟩
      have:=(qo L n).mem_iff.1 hb
      rcases List.mem_cons.1 this with rfl |hb
      · omega
      · exact h1 b hb
    · refine List.pairwise_cons.2 ⟨fun b hb=> ?_,h⟩
      rcases List.mem_cons.1 hb with rfl |hb
      · omega
      · have:=h1 b hb;omega
theorem Io:∀ (L out:List Int),LE out→LE (L.foldl ik out)∧(L.foldl ik out).Perm (L++out):=by
  intro L
  induction L with
  | nil=>intro out h;exact⟨h,List.Perm.refl _⟩
  | cons a L ih=>
    intro out h
    obtain⟨h1,h2⟩:=ih (ik out a) (HI h a)
    exact⟨h1,h2.trans (((List.Perm.append_left L (qo out a)).trans List.perm_middle))⟩
theorem my (L:List Int):(srt L).Perm L:=by have:=(Io L [] List.Pairwise.nil).2;rw[List.append_nil]at this;exact this
theorem yD (L:List Int) (k:Nat) (h:k<L.length):srt (L.take (k+1))=ik (srt (L.take k)) (gI L k):=by
 unfold srt;rw[List.take_succ_eq_append_getElem h,List.foldl_append,dh h];rfl
theorem wJ (L:List Int):(srt L).length=L.length:=(my L).length_eq
theorem hU {L:List Int} {k:Nat} (h:k<L.length):L.take (k+1)=L.take k++[gI L k]:=by rw[List.take_succ_eq_append_getElem h,dh h]
theorem BU {L:List Int} {n:Int} (h:∀ x∈L,¬n≤x):ik L n=L++[n]:=by
 induction L with
 | nil=>rfl
 | cons a L ih=>unfold ik;rw[if_pos (by have:=h a (by simp);omega),ih (fun x hx=>h x (by simp [hx]))];rfl
theorem EY {L:List Int} {n:Int} (M:List Int) (h:∃ x∈L,n≤x):ik (L++M) n=ik L n++M:=by
  induction L with
  | nil=>obtain⟨x,hx,_⟩:=h;cases hx
  | cons a L ih=>
    rw[List.cons_append]
    unfold ik
    rcases Int.lt_or_le a n with hl |hl
    · have h2:∃ x∈L,n≤x:=by
        obtain⟨x,hx,hn⟩:=h
        rcases List.mem_cons.1 hx with rfl |hx
        · omega
        · exact⟨x,hx,hn⟩
      rw[if_pos hl,if_pos hl,ih h2];rfl
    · rw[if_neg (by omega),if_neg (by omega)];rfl
end Cl
end Go.Proofs.YtgmkkfdnmdohlaaGreatDoor
