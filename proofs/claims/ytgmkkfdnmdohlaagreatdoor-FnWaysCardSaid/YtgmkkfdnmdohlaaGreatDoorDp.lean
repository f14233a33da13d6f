/- Walks. -/
import Derived.Test.YtgmkkfdnmdohlaaGreatDoorPA
import Derived.Test.YtgmkkfdnmdohlaaGreatDoorGA
import Derived.Test.YtgmkkfdnmdohlaaGreatDoorCH
import Derived.Test.YtgmkkfdnmdohlaaGreatDoorSortS
import Derived.Test.YtgmkkfdnmdohlaaGreatDoorEA
import Derived.Test.YtgmkkfdnmdohlaaGreatDoorClB
set_option linter.unusedSimpArgs false
set_option linter.unusedVariables false
namespace Go.Proofs.YtgmkkfdnmdohlaaGreatDoor
namespace Cl
open Go.ChangeShapes Go.WideShapes Go.ChangeAt Go.RowKit
set_option maxRecDepth 20000
theorem Jl:∀ (a b:List Dom),SS a→SS b→(∀ d,d∈a↔d∈b)→a=b:=by
  intro a
  induction a with
  | nil=>
    intro b _ _ h
    cases b with
    | nil=>rfl
    | cons x b=>exact absurd ((h x).2 (by simp)) (by simp)
  | cons x a ih=>
    intro b ha hb h
    cases b with
    | nil=>exact absurd ((h x).1 (by simp)) (by simp)
    | cons y b=>
      unfold SS at ha hb
      rw[List.pairwise_cons]at ha hb
      have hxy:x=y:=by
        rcases List.mem_cons.1 ((h x).1 (by simp))with h1 |h1
        · exact h1
        · rcases List.mem_cons.1 ((h y).2 (by simp))with h2 |h2
          · exact h2.symm
          · have h3:=hb.1 x h1
            have h4:=ha.1 y h2
            omega
      subst hxy
      congr 1
      refine ih b ha.2 hb.2 fun d=>⟨fun hd=> ?_,fun hd=> ?_⟩
      · rcases List.mem_cons.1 ((h d).1 (by simp [hd]))with rfl |h1
        · have:=ha.1 d hd;omega
        · exact h1
      · rcases List.mem_cons.1 ((h d).2 (by simp [hd]))with rfl |h1
        · have:=hb.1 d hd;omega
        · exact h1
theorem re (n:Int):sg n=1∨sg n= -1:=by unfold sg;split<;>simp
theorem oj (n:Int):sg (n+1)= -(sg n):=AW n
theorem Iv {s:Nat} {P:List Dom} (h:TilS s P) {d:Dom} (hd:d∈P):bO s (ca d)=true∧bO s (cb d)=true:=by
 have ho:=h.ok d hd
 have key:∀ c,okc c.x c.y=true→cin d (idx c)=true→bO s c=true:=fun c hc hi=>by
  have hp:=oG hd hi
  rw[h.cv]at hp
  unfold bO;rw[hc]
  cases hz:s.testBit (idx c)
  ·rw[hz]at hp;simp at hp
  ·rfl
 exact⟨key _ (md ho) (nD d),key _ (oY ho) (by unfold cin;simp)⟩
theorem DR {s:Nat} {P:List Dom} {c:Cel} (h:TilS s P) (hc:cS P c.x c.y=true) (d:Dom):
  d∈aR P c↔d=pr0 c (acB P c.x c.y)∨d=pr1 c (acB P c.x c.y)∨(d∈P∧d≠pr0 c (!(acB P c.x c.y))∧d≠pr1 c (!(acB P c.x c.y))):=by
 obtain⟨_,p2,_,_⟩:=eP h hc
 have e0:aR P c=lz P c:=by unfold aR;rw[if_pos hc]
 rw[e0,p2.mem_iff,List.mem_cons,List.mem_cons,List.mem_filter,uM]
 simp only[Bool.and_eq_true,bne_iff_ne]
end Cl
end Go.Proofs.YtgmkkfdnmdohlaaGreatDoor
