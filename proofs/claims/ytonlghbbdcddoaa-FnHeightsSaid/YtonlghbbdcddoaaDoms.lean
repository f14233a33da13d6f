
/- The law's own helpers over []Domino: toDomino, toDominoS, eqDomino, eqDominoS, szDominoS, markDominoS, heldDominoS, each by a contract. -/
import Derived.Test.YtonlghbbdcddoaaInts
import Derived.Test.YtonlghbbdcddoaaClA
namespace Go.Proofs.Ytonlghbbdcddoaa
open Go.ChangeShapes Go.WideShapes Go.ChangeAt Go.RowKit

def dEq (x y : Int) (d : Bool) (x' y' : Int) (d' : Bool) : Bool := decide (x = x' ∧ y = y' ∧ d = d')
theorem dEq_dom (a b : Dom) : dEq a.x a.y a.d b.x b.y b.d = decide (a = b) := by
  unfold dEq; cases a; cases b; simp
theorem run_neq_dom (x y : Int) (d : Bool) (x' y' : Int) (d' : Bool) (w : World) :
    (binOp .neq 57 (.agg #[.int .i64 x, .int .i64 y, .bool d]) (.agg #[.int .i64 x', .int .i64 y', .bool d'])).run Try.prog w = .ok (.bool (!dEq x y d x' y' d')) w := by
  have h1 := Try.underlying57
  simp only [binOp]
  simp [Op.equal, Op.maxDepth, go_sem, h1]
  unfold dEq
  by_cases e1 : x = x' <;> by_cases e2 : y = y' <;> by_cases e3 : d = d' <;> simp [e1, e2, e3]
theorem run_eql_dom (x y : Int) (d : Bool) (x' y' : Int) (d' : Bool) (w : World) :
    (binOp .eql 57 (.agg #[.int .i64 x, .int .i64 y, .bool d]) (.agg #[.int .i64 x', .int .i64 y', .bool d'])).run Try.prog w = .ok (.bool (dEq x y d x' y' d')) w := by
  have h1 := Try.underlying57
  simp only [binOp]
  simp [Op.equal, Op.maxDepth, go_sem, h1]
  unfold dEq
  by_cases e1 : x = x' <;> by_cases e2 : y = y' <;> by_cases e3 : d = d' <;> simp [e1, e2, e3]
theorem info_dom : (Try.prog.info? 57).map (fun i => (i.zero, i.size, i.bytes)) = some (some (.agg #[.int .i64 0, .int .i64 0, .bool false]), 3, 24) := by kernel_rfl
end Go.Proofs.Ytonlghbbdcddoaa
