
import Derived.Test.YtgmkkfdnmdohlaaGreatDoorInts
import Derived.Test.YtgmkkfdnmdohlaaGreatDoorClA
set_option linter.unusedSimpArgs false
set_option linter.unusedVariables false
namespace Go.Proofs.YtgmkkfdnmdohlaaGreatDoor
open Go.ChangeShapes Go.WideShapes Go.ChangeAt Go.RowKit
def dEq (x y:Int) (d:Bool) (x' y':Int) (d':Bool):Bool:=decide (x=x'∧y=y'∧d=d')
theorem em (a b:Dom):dEq a.x a.y a.d b.x b.y b.d=decide (a=b):=by
 unfold dEq;cases a;cases b;simp
theorem cw (x y:Int) (d:Bool) (x' y':Int) (d':Bool) (w:World):
  (binOp .neq 62 (.agg #[.int .i64 x,.int .i64 y,.bool d]) (.agg #[.int .i64 x',.int .i64 y',.bool d'])).run Tryz.prog w= .ok (.bool (!dEq x y d x' y' d')) w:=by
 have h1:=Tryz.underlying62
 simp only[binOp]
 simp [Op.equal,Op.maxDepth,go_sem,h1]
 unfold dEq
 by_cases e1:x=x'<;>by_cases e2:y=y'<;>by_cases e3:d=d'<;>simp [e1,e2,e3]
theorem ga (x y:Int) (d:Bool) (x' y':Int) (d':Bool) (w:World):
  (binOp .eql 62 (.agg #[.int .i64 x,.int .i64 y,.bool d]) (.agg #[.int .i64 x',.int .i64 y',.bool d'])).run Tryz.prog w= .ok (.bool (dEq x y d x' y' d')) w:=by
 have h1:=Tryz.underlying62
 simp only[binOp]
 simp [Op.equal,Op.maxDepth,go_sem,h1]
 unfold dEq
 by_cases e1:x=x'<;>by_cases e2:y=y'<;>by_cases e3:d=d'<;>simp [e1,e2,e3]
theorem xF:(Tryz.prog.info? 62).map (fun i=>(i.zero,i.size,i.bytes))=some (some (.agg #[.int .i64 0,.int .i64 0,.bool false]),3,24):=by kernel_rfl
def dom0:Dom:=⟨0,0,false⟩
theorem GH (l:List Dom) (k:Nat) (d:Dom) (h:k<l.length):
    (((dsl l).set (k*3) (.int .i64 d.x)).set (k*3+1) (.int .i64 d.y)).set (k*3+2) (.bool d.d)=dsl (l.set k d):=by
  induction l generalizing k with
  | nil=>simp at h
  | cons a l ih=>
    cases k with
    | zero=>simp [dsl,Dom.cs]
    | succ k=>
      have:=ih k (by simpa using h)
      simp only[dsl,List.flatMap_cons,List.set_cons_succ]at this⊢
      rw[←this]
      simp only[Dom.cs,List.cons_append,List.nil_append]
      rw[show(k+1)*3=k*3+3 by omega]
      simp
theorem sW {w:World} {B e n c g:Nat} {ys:List Dom} (h:w.ownsRow B e 3 (.slice (some ⟨g,0,none⟩) n c) n (dsl ys)) {k:Nat} (hk:k<ys.length):
  ∃ z:Dom,w.cell? ⟨g,k*3,none⟩=some (.int .i64 z.x)∧w.cell? ⟨g,k*3+1,none⟩=some (.int .i64 z.y)∧w.cell? ⟨g,k*3+2,none⟩=some (.bool z.d)∧
   w.frozen? ⟨g,k*3,none⟩=false∧w.frozen? ⟨g,k*3+1,none⟩=false∧w.frozen? ⟨g,k*3+2,none⟩=false∧
   ∀ x y b,(((w.setCell ⟨g,k*3,none⟩ (.int .i64 x)).setCell ⟨g,k*3+1,none⟩ (.int .i64 y)).setCell ⟨g,k*3+2,none⟩ (.bool b)).ownsRow B e 3 (.slice (some ⟨g,0,none⟩) n c) n (dsl (ys.set k ⟨x,y,b⟩)):=by
 obtain⟨g',off',he,_,d0,d1,d2⟩:=(nV h).doms hk
 injection he with he
 injection he with he1 he2
 subst he1;subst he2
 simp only[Nat.zero_add]at d0 d1 d2
 refine⟨ys[k],d0,d1,d2,h.frozenAt _,h.frozenAt _,h.frozenAt _,fun x y b=> ?_⟩
 have h3:=(((h.stored (k*3) (.int .i64 x)).1.stored (k*3+1) (.int .i64 y)).1.stored (k*3+2) (.bool b)).1
 rw[GH _ k ⟨x,y,b⟩ hk]at h3
 exact h3
end Go.Proofs.YtgmkkfdnmdohlaaGreatDoor
