
import Derived.Test.YtgmkkfdnmdohlaaGreatDoorInts
import Derived.Test.YtgmkkfdnmdohlaaGreatDoorClA
set_option linter.unusedSimpArgs false
set_option linter.unusedVariables false
namespace Go.Proofs.YtgmkkfdnmdohlaaGreatDoor
open Go.ChangeShapes Go.WideShapes Go.ChangeAt Go.RowKit
def cEq (x y x' y':Int):Bool:=decide (x=x'∧y=y')
theorem mE (a b:Cel):cEq a.x a.y b.x b.y=decide (a=b):=by
 unfold cEq;cases a;cases b;simp
theorem jO (x y x' y':Int) (w:World):
  (binOp .eql 70 (.agg #[.int .i64 x,.int .i64 y]) (.agg #[.int .i64 x',.int .i64 y'])).run Tryz.prog w= .ok (.bool (cEq x y x' y')) w:=by
 have h1:=Tryz.underlying70
 simp only[binOp]
 simp [Op.equal,Op.maxDepth,go_sem,h1]
 unfold cEq
 by_cases e1:x=x'<;>by_cases e2:y=y'<;>simp [e1,e2]
theorem Ej:(Tryz.prog.info? 70).map (fun i=>(i.zero,i.size,i.bytes))=some (some (.agg #[.int .i64 0,.int .i64 0]),2,16):=by kernel_rfl
end Go.Proofs.YtgmkkfdnmdohlaaGreatDoor
