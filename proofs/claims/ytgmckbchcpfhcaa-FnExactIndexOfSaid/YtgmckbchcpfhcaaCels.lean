
/- The law's own helpers over cells: toCell, toCellS, eqCell, eqCellS, szCellS, markCellS, heldCellS, each by a contract. -/
import Derived.Test.YtgmckbchcpfhcaaInts
import Derived.Test.YtgmckbchcpfhcaaCells
namespace Go.Proofs.Ytgmckbchcpfhcaa
open Go.ChangeShapes Go.WideShapes Go.ChangeAt Go.RowKit

def cEq (x y x' y' : Int) : Bool := decide (x = x' ∧ y = y')
theorem cEq_cel (a b : Cel) : cEq a.x a.y b.x b.y = decide (a = b) := by
  unfold cEq; cases a; cases b; simp
theorem run_neq_cel (x y x' y' : Int) (w : World) :
    (binOp .neq 67 (.agg #[.int .i64 x, .int .i64 y]) (.agg #[.int .i64 x', .int .i64 y'])).run Try.prog w = .ok (.bool (!cEq x y x' y')) w := by
  have h1 := Try.underlying67
  simp only [binOp]
  simp [Op.equal, Op.maxDepth, go_sem, h1]
  unfold cEq
  by_cases e1 : x = x' <;> by_cases e2 : y = y' <;> simp [e1, e2]
theorem run_eql_cel (x y x' y' : Int) (w : World) :
    (binOp .eql 67 (.agg #[.int .i64 x, .int .i64 y]) (.agg #[.int .i64 x', .int .i64 y'])).run Try.prog w = .ok (.bool (cEq x y x' y')) w := by
  have h1 := Try.underlying67
  simp only [binOp]
  simp [Op.equal, Op.maxDepth, go_sem, h1]
  unfold cEq
  by_cases e1 : x = x' <;> by_cases e2 : y = y' <;> simp [e1, e2]
theorem info_cel : (Try.prog.info? 67).map (fun i => (i.zero, i.size, i.bytes)) = some (some (.agg #[.int .i64 0, .int .i64 0]), 2, 16) := by kernel_rfl
def cel0 : Cel := ⟨0, 0⟩
theorem made_cels (n : Nat) : (madeCells (Value.agg #[.int .i64 0, .int .i64 0]).cells (n * 2)).toList = csl (List.replicate n cel0) := by
  apply List.ext_getElem?
  intro i
  by_cases hi : i < n * 2
  · have hk : i / 2 < n := by omega
    have h := flatMap_get Cel.cs 2 (fun _ => rfl) (List.replicate n cel0) (i / 2) (i % 2) (by simpa using hk) (by omega)
    rw [show i / 2 * 2 + i % 2 = i by omega] at h
    unfold csl
    rw [h]
    have hm : i % 2 = 0 ∨ i % 2 = 1 := by omega
    simp only [madeCells, Value.cells]
    rcases hm with hm | hm <;> simp [hi, hm, cel0, Cel.cs, List.getElem?_eq_getElem, Array.getElem_toList]
  · rw [List.getElem?_eq_none (by simp [madeCells]; omega), List.getElem?_eq_none (by rw [csl_len]; simp; omega)]
theorem csl_set (l : List Cel) (k : Nat) (d : Cel) (h : k < l.length) :
    ((csl l).set (k*2) (.int .i64 d.x)).set (k*2+1) (.int .i64 d.y) = csl (l.set k d) := by
  induction l generalizing k with
  | nil => simp at h
  | cons a l ih =>
    cases k with
    | zero => simp [csl, Cel.cs]
    | succ k =>
      have := ih k (by simpa using h)
      simp only [csl, List.flatMap_cons, List.set_cons_succ] at this ⊢
      rw [← this]
      simp only [Cel.cs, List.cons_append, List.nil_append]
      rw [show (k+1)*2 = k*2+2 by omega]
      simp

def seqC (k : Int) (n : Nat) : List Cel := (List.range n).map fun (i : Nat) => ⟨k + 2 * (i : Int), k + 2 * (i : Int) + 1⟩
theorem seqC_len (k : Int) (n : Nat) : (seqC k n).length = n := by simp [seqC]
theorem seqC_get (k : Int) (n i : Nat) (h : i < (seqC k n).length) : (seqC k n)[i] = ⟨k + 2 * (i : Int), k + 2 * (i : Int) + 1⟩ := by simp [seqC]
end Go.Proofs.Ytgmckbchcpfhcaa
