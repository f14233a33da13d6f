/- Walks. -/
import Derived.Test.YtgmkkfdnmdohlaaGreatDoorC1
import Derived.Test.YtgmkkfdnmdohlaaGreatDoorCels
import Derived.Test.YtgmkkfdnmdohlaaGreatDoorClB
set_option linter.unusedSimpArgs false
set_option linter.unusedVariables false
namespace Go.Proofs.YtgmkkfdnmdohlaaGreatDoor
namespace Cl
open Go.ChangeShapes Go.WideShapes Go.ChangeAt Go.RowKit
set_option maxRecDepth 20000
theorem Ay {b w:Cel}:w∈nbs b↔nbr b w=true:=by
 rw[←xN,List.mem_map]
 constructor
 ·rintro⟨k,hk,rfl⟩;exact(List.mem_filter.1 hk).2
 ·intro h
  have hw:okc w.x w.y=true:=by unfold nbr at h;simp only[Bool.and_eq_true]at h;exact h.1.2
  exact⟨idx w,List.mem_filter.2 ⟨by simpa using eV hw,by rw[pU hw];exact h⟩,pU hw⟩
theorem xE (z:Int):nQ (-z)=nQ z:=by unfold nQ;split<;>split<;>omega
theorem EB (a b:Cel):nbr a b=nbr b a:=by
 unfold nbr
 rw[show a.x-b.x= -(b.x-a.x) by omega,show a.y-b.y= -(b.y-a.y) by omega,xE,xE,Bool.and_comm (okc a.x a.y)]
theorem iG {a b:Cel} (ha:okc a.x a.y=true) (hb:okc b.x b.y=true) (h:idx a=idx b):a=b:=by
 rw[←pU ha,←pU hb,h]
theorem rk (s:Nat) (p:Cel→Bool):(bM s).filter p=((List.range 64).filter (fun i=>s.testBit i&&p (cN i))).map cN:=by
 unfold bM
 rw[List.filter_map,List.filter_filter]
 congr 1
 exact List.filter_congr fun k _=>by simp [Bool.and_comm]
theorem uv (s:Nat) (j:Nat) (n:Nat):((List.range n).filter (s|||2^ j).testBit).length=((List.range n).filter s.testBit).length+(if s.testBit j=false∧j<n then 1 else 0):=by
  induction n with
  | zero=>simp
  | succ n ih=>
    rw[List.range_succ,List.filter_append,List.filter_append,List.length_append,List.length_append,ih]
    have hb:(s|||2^ j).testBit n=(s.testBit n||decide (j=n)):=by rw[Nat.testBit_or,Nat.testBit_two_pow]
    by_cases hj:j=n
    · subst hj
      rw[List.filter_cons,List.filter_cons,hb];simp only[decide_true,Bool.or_true,if_true,List.filter_nil]
      cases h:s.testBit j<;>simp
    · have h1:(j<n+1)=(j<n):=by rw[eq_iff_iff];omega
      cases h:s.testBit n<;>simp [hb,h,hj,h1]<;>omega
end Cl
end Go.Proofs.YtgmkkfdnmdohlaaGreatDoor
