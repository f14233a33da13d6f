/-
  No cell of these rows narrows 'for every input' (looked for: loops, veiled, ifaces, maps, wideKeys, modest, calm, conditions, laid).
  DERIVED. THE GIVEN ROWS OF THIS SEAT. 6 by the template 'for every input the law returns true; each argument reads behind the call as it read before'; 0 by the template 'total and deterministic' (their statements: YtffifeljpegknaaTotals.lean).
  GIVEN WITH THE SEED: the statements are not yours to turn. If you find one false, say at which input.
  Laid BY PROGRAM, IN A SANDBOX (cutbox-rows.mjs): the forced cells as the released guide's own fill.sh prints them over the translation 899ce52cb90ca4b6… (all of the seat's roots in one cut). By AI agents, Wed Nov 11 2026. No macro, syntax, notation, axiom, sorry.
-/
import Derived.Test.YtffifeljpegknaaChecked
import GoSem.Claim
import GoSem.ClaimJoined
import GoSem.ClaimMapViews
import Derived.JoinedTies
import Derived.KernelRfl
namespace Go.Proofs.Ytffifeljpegknaa
/- THE CELL 'sum', in the pinned program and in every row, IS THE sha256 OF THE DUMP (.gsa) THAT YtffifeljpegknaaProg.lean LOADS. Nothing in Lean hashes anything: it is a label: what it is worth is what the hold of that sum in a sandbox is worth. -/
noncomputable def Try.pinned : Pinned := { name := "ytffifeljpegknaa", sum := "899ce52cb90ca4b693003168c307ed1f44368d23cfa1021fd826e1da9dbd333e", checked := Try.checked }
namespace Rows
def none {H : Type} : Left H := { results := [], args := [] }

/-- 'laws.FnExactDiamondCount': WHATEVER THE INPUT: true; the input reads as it did. -/
def fnExactDiamondCountSpec : ChangeSpec := { name := "fnExactDiamondCount", fn := fun _ => fun
  | [d] => { results := [.lit (.bool true)], args := [d] }
  | _ => none }
def fnExactDiamondCountRow : OpenClaim := { program := "ytffifeljpegknaa", sum := "899ce52cb90ca4b693003168c307ed1f44368d23cfa1021fd826e1da9dbd333e", func := "loop.example/g03300/laws.FnExactDiamondCount", spec := "fnExactDiamondCount", apart := false }
def FnExactDiamondCountSaid : Prop := fnExactDiamondCountRow.holds Try.pinned (OpenSpec.ofChange fnExactDiamondCountSpec)

/-- ITS FALSE NEIGHBOUR: 'it returns false'. Refute it at one input. -/
def fnExactDiamondCountWrong : ChangeSpec := { name := "fnExactDiamondCount", fn := fun _ => fun
  | [d] => { results := [.lit (.bool false)], args := [d] }
  | _ => none }
def FnExactDiamondCountWrongFalsely : Prop := fnExactDiamondCountRow.holds Try.pinned (OpenSpec.ofChange fnExactDiamondCountWrong)

/-- 'laws.FnExactHeightSum': WHATEVER THE INPUT: true; the input reads as it did. -/
def fnExactHeightSumSpec : ChangeSpec := { name := "fnExactHeightSum", fn := fun _ => fun
  | [d] => { results := [.lit (.bool true)], args := [d] }
  | _ => none }
def fnExactHeightSumRow : OpenClaim := { program := "ytffifeljpegknaa", sum := "899ce52cb90ca4b693003168c307ed1f44368d23cfa1021fd826e1da9dbd333e", func := "loop.example/g03300/laws.FnExactHeightSum", spec := "fnExactHeightSum", apart := false }
def FnExactHeightSumSaid : Prop := fnExactHeightSumRow.holds Try.pinned (OpenSpec.ofChange fnExactHeightSumSpec)

/-- ITS FALSE NEIGHBOUR: 'it returns false'. Refute it at one input. -/
def fnExactHeightSumWrong : ChangeSpec := { name := "fnExactHeightSum", fn := fun _ => fun
  | [d] => { results := [.lit (.bool false)], args := [d] }
  | _ => none }
def FnExactHeightSumWrongFalsely : Prop := fnExactHeightSumRow.holds Try.pinned (OpenSpec.ofChange fnExactHeightSumWrong)

/-- 'laws.FnExactEdgeStep': WHATEVER THE INPUT: true; the input reads as it did. -/
def fnExactEdgeStepSpec : ChangeSpec := { name := "fnExactEdgeStep", fn := fun _ => fun
  | [d1, d2, d3, d4] => { results := [.lit (.bool true)], args := [d1, d2, d3, d4] }
  | _ => none }
def fnExactEdgeStepRow : OpenClaim := { program := "ytffifeljpegknaa", sum := "899ce52cb90ca4b693003168c307ed1f44368d23cfa1021fd826e1da9dbd333e", func := "loop.example/g03300/laws.FnExactEdgeStep", spec := "fnExactEdgeStep", apart := false }
def FnExactEdgeStepSaid : Prop := fnExactEdgeStepRow.holds Try.pinned (OpenSpec.ofChange fnExactEdgeStepSpec)

/-- ITS FALSE NEIGHBOUR: 'it returns false'. Refute it at one input. -/
def fnExactEdgeStepWrong : ChangeSpec := { name := "fnExactEdgeStep", fn := fun _ => fun
  | [d1, d2, d3, d4] => { results := [.lit (.bool false)], args := [d1, d2, d3, d4] }
  | _ => none }
def FnExactEdgeStepWrongFalsely : Prop := fnExactEdgeStepRow.holds Try.pinned (OpenSpec.ofChange fnExactEdgeStepWrong)

/-- 'laws.FnExactSameDominoes': WHATEVER THE INPUT: true; the input reads as it did. -/
def fnExactSameDominoesSpec : ChangeSpec := { name := "fnExactSameDominoes", fn := fun _ => fun
  | [d1, d2] => { results := [.lit (.bool true)], args := [d1, d2] }
  | _ => none }
def fnExactSameDominoesRow : OpenClaim := { program := "ytffifeljpegknaa", sum := "899ce52cb90ca4b693003168c307ed1f44368d23cfa1021fd826e1da9dbd333e", func := "loop.example/g03300/laws.FnExactSameDominoes", spec := "fnExactSameDominoes", apart := false }
def FnExactSameDominoesSaid : Prop := fnExactSameDominoesRow.holds Try.pinned (OpenSpec.ofChange fnExactSameDominoesSpec)

/-- ITS FALSE NEIGHBOUR: 'it returns false'. Refute it at one input. -/
def fnExactSameDominoesWrong : ChangeSpec := { name := "fnExactSameDominoes", fn := fun _ => fun
  | [d1, d2] => { results := [.lit (.bool false)], args := [d1, d2] }
  | _ => none }
def FnExactSameDominoesWrongFalsely : Prop := fnExactSameDominoesRow.holds Try.pinned (OpenSpec.ofChange fnExactSameDominoesWrong)

/-- 'laws.FnExactCountDown': WHATEVER THE INPUT: true; the input reads as it did. -/
def fnExactCountDownSpec : ChangeSpec := { name := "fnExactCountDown", fn := fun _ => fun
  | [d] => { results := [.lit (.bool true)], args := [d] }
  | _ => none }
def fnExactCountDownRow : OpenClaim := { program := "ytffifeljpegknaa", sum := "899ce52cb90ca4b693003168c307ed1f44368d23cfa1021fd826e1da9dbd333e", func := "loop.example/g03300/laws.FnExactCountDown", spec := "fnExactCountDown", apart := false }
def FnExactCountDownSaid : Prop := fnExactCountDownRow.holds Try.pinned (OpenSpec.ofChange fnExactCountDownSpec)

/-- ITS FALSE NEIGHBOUR: 'it returns false'. Refute it at one input. -/
def fnExactCountDownWrong : ChangeSpec := { name := "fnExactCountDown", fn := fun _ => fun
  | [d] => { results := [.lit (.bool false)], args := [d] }
  | _ => none }
def FnExactCountDownWrongFalsely : Prop := fnExactCountDownRow.holds Try.pinned (OpenSpec.ofChange fnExactCountDownWrong)

/-- 'laws.FnExactDiamondRegion': WHATEVER THE INPUT: true; the input reads as it did. -/
def fnExactDiamondRegionSpec : ChangeSpec := { name := "fnExactDiamondRegion", fn := fun _ => fun
  | [d] => { results := [.lit (.bool true)], args := [d] }
  | _ => none }
def fnExactDiamondRegionRow : OpenClaim := { program := "ytffifeljpegknaa", sum := "899ce52cb90ca4b693003168c307ed1f44368d23cfa1021fd826e1da9dbd333e", func := "loop.example/g03300/laws.FnExactDiamondRegion", spec := "fnExactDiamondRegion", apart := false }
def FnExactDiamondRegionSaid : Prop := fnExactDiamondRegionRow.holds Try.pinned (OpenSpec.ofChange fnExactDiamondRegionSpec)

/-- ITS FALSE NEIGHBOUR: 'it returns false'. Refute it at one input. -/
def fnExactDiamondRegionWrong : ChangeSpec := { name := "fnExactDiamondRegion", fn := fun _ => fun
  | [d] => { results := [.lit (.bool false)], args := [d] }
  | _ => none }
def FnExactDiamondRegionWrongFalsely : Prop := fnExactDiamondRegionRow.holds Try.pinned (OpenSpec.ofChange fnExactDiamondRegionWrong)

/- THE SECOND FORM. 'bulk': how many values and letters a reading holds, each counted each time it is reached (what is shared counts as often as it is met; a slice's spare places count too). A statement '..UptoSaid' is the law's where the arguments, and the package variables that the reading takes, are together of bulk at most 1048576: NARROWER than '..Said'. Prove '..Said' where nothing that the law and all that it calls make is longer than what came in: it says more and counts as full. Else prove '..UptoSaid'. A law counts once. -/
mutual
def uptoBulk {H : Type} : DataW H → Nat
  | .lit (.string bytes) => bytes.length + 1
  | .lit _ => 1
  | .nil => 1
  | .ptr d => uptoBulk d + 1
  | .slice elems spare => uptoBulkAll elems + uptoBulkAll spare + 1
  | .agg parts => uptoBulkAll parts + 1
  | .iface _ d => uptoBulk d + 1
  | .map entries => uptoBulkEntries entries + 1
  | .held _ => 1
def uptoBulkAll {H : Type} : List (DataW H) → Nat
  | [] => 0
  | d :: r => uptoBulk d + uptoBulkAll r
def uptoBulkEntries {H : Type} : List (Lit × DataW H) → Nat
  | [] => 0
  | x :: r => uptoBulkEntry x + uptoBulkEntries r
def uptoBulkEntry {H : Type} : Lit × DataW H → Nat
  | (.string bytes, d) => bytes.length + uptoBulk d + 1
  | (_, d) => uptoBulk d + 1
 end
def uptoSmall : (H : Type) → List (DataW H) → Bool := fun _ ds => decide (uptoBulkAll ds ≤ 1048576)
def OpenSpec.upto (s : _root_.Go.ChangeSpec) : _root_.Go.OpenSpec := { _root_.Go.OpenSpec.ofChange s with cond := some uptoSmall }

/-- 'laws.FnExactDiamondCount', WHERE WHAT IT READS IS OF BULK AT MOST 1048576: true; the input reads as it did. -/
def fnExactDiamondCountUptoRow : OpenClaim := { program := "ytffifeljpegknaa", sum := "899ce52cb90ca4b693003168c307ed1f44368d23cfa1021fd826e1da9dbd333e", func := "loop.example/g03300/laws.FnExactDiamondCount", spec := "fnExactDiamondCount", apart := false, narrowed := true }
def FnExactDiamondCountUptoSaid : Prop := fnExactDiamondCountUptoRow.holds Try.pinned (OpenSpec.upto fnExactDiamondCountSpec)

/-- 'laws.FnExactHeightSum', WHERE WHAT IT READS IS OF BULK AT MOST 1048576: true; the input reads as it did. -/
def fnExactHeightSumUptoRow : OpenClaim := { program := "ytffifeljpegknaa", sum := "899ce52cb90ca4b693003168c307ed1f44368d23cfa1021fd826e1da9dbd333e", func := "loop.example/g03300/laws.FnExactHeightSum", spec := "fnExactHeightSum", apart := false, narrowed := true }
def FnExactHeightSumUptoSaid : Prop := fnExactHeightSumUptoRow.holds Try.pinned (OpenSpec.upto fnExactHeightSumSpec)

/-- 'laws.FnExactEdgeStep', WHERE WHAT IT READS IS OF BULK AT MOST 1048576: true; the input reads as it did. -/
def fnExactEdgeStepUptoRow : OpenClaim := { program := "ytffifeljpegknaa", sum := "899ce52cb90ca4b693003168c307ed1f44368d23cfa1021fd826e1da9dbd333e", func := "loop.example/g03300/laws.FnExactEdgeStep", spec := "fnExactEdgeStep", apart := false, narrowed := true }
def FnExactEdgeStepUptoSaid : Prop := fnExactEdgeStepUptoRow.holds Try.pinned (OpenSpec.upto fnExactEdgeStepSpec)

/-- 'laws.FnExactSameDominoes', WHERE WHAT IT READS IS OF BULK AT MOST 1048576: true; the input reads as it did. -/
def fnExactSameDominoesUptoRow : OpenClaim := { program := "ytffifeljpegknaa", sum := "899ce52cb90ca4b693003168c307ed1f44368d23cfa1021fd826e1da9dbd333e", func := "loop.example/g03300/laws.FnExactSameDominoes", spec := "fnExactSameDominoes", apart := false, narrowed := true }
def FnExactSameDominoesUptoSaid : Prop := fnExactSameDominoesUptoRow.holds Try.pinned (OpenSpec.upto fnExactSameDominoesSpec)

/-- 'laws.FnExactCountDown', WHERE WHAT IT READS IS OF BULK AT MOST 1048576: true; the input reads as it did. -/
def fnExactCountDownUptoRow : OpenClaim := { program := "ytffifeljpegknaa", sum := "899ce52cb90ca4b693003168c307ed1f44368d23cfa1021fd826e1da9dbd333e", func := "loop.example/g03300/laws.FnExactCountDown", spec := "fnExactCountDown", apart := false, narrowed := true }
def FnExactCountDownUptoSaid : Prop := fnExactCountDownUptoRow.holds Try.pinned (OpenSpec.upto fnExactCountDownSpec)

/-- 'laws.FnExactDiamondRegion', WHERE WHAT IT READS IS OF BULK AT MOST 1048576: true; the input reads as it did. -/
def fnExactDiamondRegionUptoRow : OpenClaim := { program := "ytffifeljpegknaa", sum := "899ce52cb90ca4b693003168c307ed1f44368d23cfa1021fd826e1da9dbd333e", func := "loop.example/g03300/laws.FnExactDiamondRegion", spec := "fnExactDiamondRegion", apart := false, narrowed := true }
def FnExactDiamondRegionUptoSaid : Prop := fnExactDiamondRegionUptoRow.holds Try.pinned (OpenSpec.upto fnExactDiamondRegionSpec)

end Rows
end Go.Proofs.Ytffifeljpegknaa
