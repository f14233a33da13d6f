
import Derived.Test.YtonlghbbdcddoaaGreatInts
import Derived.Test.YtonlghbbdcddoaaGreatClA
namespace Go.Proofs.YtonlghbbdcddoaaGreat
open Go.ChangeShapes Go.WideShapes Go.ChangeAt Go.RowKit
def dEq (x y:Int) (d:Bool) (x' y':Int) (d':Bool):Bool:=decide (x=x'∧y=y'∧d=d')
theorem jE (a b:Dom):dEq a.x a.y a.d b.x b.y b.d=decide (a=b):=by
 unfold dEq;cases a;cases b;simp
theorem lG (x y:Int) (d:Bool) (x' y':Int) (d':Bool) (w:World):
  (binOp .neq 54 (.agg #[.int .i64 x,.int .i64 y,.bool d]) (.agg #[.int .i64 x',.int .i64 y',.bool d'])).run Tryz.prog w= .ok (.bool (!dEq x y d x' y' d')) w:=by
 have h1:=Tryz.underlying54
 simp only[binOp]
 simp [Op.equal,Op.maxDepth,go_sem,h1]
 unfold dEq
 by_cases e1:x=x'<;>by_cases e2:y=y'<;>by_cases e3:d=d'<;>simp [e1,e2,e3]
theorem oo (x y:Int) (d:Bool) (x' y':Int) (d':Bool) (w:World):
  (binOp .eql 54 (.agg #[.int .i64 x,.int .i64 y,.bool d]) (.agg #[.int .i64 x',.int .i64 y',.bool d'])).run Tryz.prog w= .ok (.bool (dEq x y d x' y' d')) w:=by
 have h1:=Tryz.underlying54
 simp only[binOp]
 simp [Op.equal,Op.maxDepth,go_sem,h1]
 unfold dEq
 by_cases e1:x=x'<;>by_cases e2:y=y'<;>by_cases e3:d=d'<;>simp [e1,e2,e3]
theorem Hh:(Tryz.prog.info? 54).map (fun i=>(i.zero,i.size,i.bytes))=some (some (.agg #[.int .i64 0,.int .i64 0,.bool false]),3,24):=by kernel_rfl
end Go.Proofs.YtonlghbbdcddoaaGreat
