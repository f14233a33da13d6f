/-
  No cell of these rows narrows 'for every input' (looked for: loops, veiled, ifaces, maps, wideKeys, modest, calm, conditions, laid).
  DERIVED. THE GIVEN ROWS OF THIS SEAT. 5 by the template 'for every input the law returns true; each argument reads behind the call as it read before'; 0 by the template 'total and deterministic' (their statements: YthnaalmoedjjkaaTotals.lean).
  GIVEN WITH THE SEED: the statements are not yours to turn. If you find one false, say at which input.
  Laid BY PROGRAM, IN A SANDBOX (cutbox-rows.mjs): the forced cells as the released guide's own fill.sh prints them over the translation 0eab954ee36d05e3… (all of the seat's roots in one cut). By AI agents, Wed Nov 11 2026. No macro, syntax, notation, axiom, sorry.
-/
import Derived.Test.YthnaalmoedjjkaaChecked
import GoSem.Claim
import GoSem.ClaimJoined
import GoSem.ClaimMapViews
import Derived.JoinedTies
import Derived.KernelRfl
namespace Go.Proofs.Ythnaalmoedjjkaa
/- THE CELL 'sum', in the pinned program and in every row, IS THE sha256 OF THE DUMP (.gsa) THAT YthnaalmoedjjkaaProg.lean LOADS. Nothing in Lean hashes anything: it is a label: what it is worth is what the hold of that sum in a sandbox is worth. -/
noncomputable def Try.pinned : Pinned := { name := "ythnaalmoedjjkaa", sum := "0eab954ee36d05e3c829df3d84d2fab879928731f68d574cf4108309572c559a", checked := Try.checked }
namespace Rows
def none {H : Type} : Left H := { results := [], args := [] }

/-- 'laws.FnExactSquareOk': WHATEVER THE INPUT: true; the input reads as it did. -/
def fnExactSquareOkSpec : ChangeSpec := { name := "fnExactSquareOk", fn := fun _ => fun
  | [d] => { results := [.lit (.bool true)], args := [d] }
  | _ => none }
def fnExactSquareOkRow : OpenClaim := { program := "ythnaalmoedjjkaa", sum := "0eab954ee36d05e3c829df3d84d2fab879928731f68d574cf4108309572c559a", func := "loop.example/g03300/laws.FnExactSquareOk", spec := "fnExactSquareOk", apart := false }
def FnExactSquareOkSaid : Prop := fnExactSquareOkRow.holds Try.pinned (OpenSpec.ofChange fnExactSquareOkSpec)

/-- ITS FALSE NEIGHBOUR: 'it returns false'. Refute it at one input. -/
def fnExactSquareOkWrong : ChangeSpec := { name := "fnExactSquareOk", fn := fun _ => fun
  | [d] => { results := [.lit (.bool false)], args := [d] }
  | _ => none }
def FnExactSquareOkWrongFalsely : Prop := fnExactSquareOkRow.holds Try.pinned (OpenSpec.ofChange fnExactSquareOkWrong)

/-- 'laws.FnExactDeterminantOf': WHATEVER THE INPUT: true; the input reads as it did. -/
def fnExactDeterminantOfSpec : ChangeSpec := { name := "fnExactDeterminantOf", fn := fun _ => fun
  | [d] => { results := [.lit (.bool true)], args := [d] }
  | _ => none }
def fnExactDeterminantOfRow : OpenClaim := { program := "ythnaalmoedjjkaa", sum := "0eab954ee36d05e3c829df3d84d2fab879928731f68d574cf4108309572c559a", func := "loop.example/g03300/laws.FnExactDeterminantOf", spec := "fnExactDeterminantOf", apart := false }
def FnExactDeterminantOfSaid : Prop := fnExactDeterminantOfRow.holds Try.pinned (OpenSpec.ofChange fnExactDeterminantOfSpec)

/-- ITS FALSE NEIGHBOUR: 'it returns false'. Refute it at one input. -/
def fnExactDeterminantOfWrong : ChangeSpec := { name := "fnExactDeterminantOf", fn := fun _ => fun
  | [d] => { results := [.lit (.bool false)], args := [d] }
  | _ => none }
def FnExactDeterminantOfWrongFalsely : Prop := fnExactDeterminantOfRow.holds Try.pinned (OpenSpec.ofChange fnExactDeterminantOfWrong)

/-- 'laws.FnExactSignMatrix': WHATEVER THE INPUT: true; the input reads as it did. -/
def fnExactSignMatrixSpec : ChangeSpec := { name := "fnExactSignMatrix", fn := fun _ => fun
  | [d] => { results := [.lit (.bool true)], args := [d] }
  | _ => none }
def fnExactSignMatrixRow : OpenClaim := { program := "ythnaalmoedjjkaa", sum := "0eab954ee36d05e3c829df3d84d2fab879928731f68d574cf4108309572c559a", func := "loop.example/g03300/laws.FnExactSignMatrix", spec := "fnExactSignMatrix", apart := false }
def FnExactSignMatrixSaid : Prop := fnExactSignMatrixRow.holds Try.pinned (OpenSpec.ofChange fnExactSignMatrixSpec)

/-- ITS FALSE NEIGHBOUR: 'it returns false'. Refute it at one input. -/
def fnExactSignMatrixWrong : ChangeSpec := { name := "fnExactSignMatrix", fn := fun _ => fun
  | [d] => { results := [.lit (.bool false)], args := [d] }
  | _ => none }
def FnExactSignMatrixWrongFalsely : Prop := fnExactSignMatrixRow.holds Try.pinned (OpenSpec.ofChange fnExactSignMatrixWrong)

/-- 'laws.FnExactCountBySigns': WHATEVER THE INPUT: true; the input reads as it did. -/
def fnExactCountBySignsSpec : ChangeSpec := { name := "fnExactCountBySigns", fn := fun _ => fun
  | [d] => { results := [.lit (.bool true)], args := [d] }
  | _ => none }
def fnExactCountBySignsRow : OpenClaim := { program := "ythnaalmoedjjkaa", sum := "0eab954ee36d05e3c829df3d84d2fab879928731f68d574cf4108309572c559a", func := "loop.example/g03300/laws.FnExactCountBySigns", spec := "fnExactCountBySigns", apart := false }
def FnExactCountBySignsSaid : Prop := fnExactCountBySignsRow.holds Try.pinned (OpenSpec.ofChange fnExactCountBySignsSpec)

/-- ITS FALSE NEIGHBOUR: 'it returns false'. Refute it at one input. -/
def fnExactCountBySignsWrong : ChangeSpec := { name := "fnExactCountBySigns", fn := fun _ => fun
  | [d] => { results := [.lit (.bool false)], args := [d] }
  | _ => none }
def FnExactCountBySignsWrongFalsely : Prop := fnExactCountBySignsRow.holds Try.pinned (OpenSpec.ofChange fnExactCountBySignsWrong)

/-- 'laws.FnExactCountByExpansion': WHATEVER THE INPUT: true; the input reads as it did. -/
def fnExactCountByExpansionSpec : ChangeSpec := { name := "fnExactCountByExpansion", fn := fun _ => fun
  | [d] => { results := [.lit (.bool true)], args := [d] }
  | _ => none }
def fnExactCountByExpansionRow : OpenClaim := { program := "ythnaalmoedjjkaa", sum := "0eab954ee36d05e3c829df3d84d2fab879928731f68d574cf4108309572c559a", func := "loop.example/g03300/laws.FnExactCountByExpansion", spec := "fnExactCountByExpansion", recurses := true, apart := false }
def FnExactCountByExpansionSaid : Prop := fnExactCountByExpansionRow.holds Try.pinned (OpenSpec.ofChange fnExactCountByExpansionSpec)

/-- ITS FALSE NEIGHBOUR: 'it returns false'. Refute it at one input. -/
def fnExactCountByExpansionWrong : ChangeSpec := { name := "fnExactCountByExpansion", fn := fun _ => fun
  | [d] => { results := [.lit (.bool false)], args := [d] }
  | _ => none }
def FnExactCountByExpansionWrongFalsely : Prop := fnExactCountByExpansionRow.holds Try.pinned (OpenSpec.ofChange fnExactCountByExpansionWrong)

/- THE SECOND FORM. 'bulk': how many values and letters a reading holds, each counted each time it is reached (what is shared counts as often as it is met; a slice's spare places count too). A statement '..UptoSaid' is the law's where the arguments, and the package variables that the reading takes, are together of bulk at most 1048576: NARROWER than '..Said'. Prove '..Said' where nothing that the law and all that it calls make is longer than what came in: it says more and counts as full. Else prove '..UptoSaid'. A law counts once. -/
mutual
def uptoBulk {H : Type} : DataW H → Nat
  | .lit (.string bytes) => bytes.length + 1
  | .lit _ => 1
  | .nil => 1
  | .ptr d => uptoBulk d + 1
  | .slice elems spare => uptoBulkAll elems + uptoBulkAll spare + 1
  | .agg parts => uptoBulkAll parts + 1
  | .iface _ d => uptoBulk d + 1
  | .map entries => uptoBulkEntries entries + 1
  | .held _ => 1
def uptoBulkAll {H : Type} : List (DataW H) → Nat
  | [] => 0
  | d :: r => uptoBulk d + uptoBulkAll r
def uptoBulkEntries {H : Type} : List (Lit × DataW H) → Nat
  | [] => 0
  | x :: r => uptoBulkEntry x + uptoBulkEntries r
def uptoBulkEntry {H : Type} : Lit × DataW H → Nat
  | (.string bytes, d) => bytes.length + uptoBulk d + 1
  | (_, d) => uptoBulk d + 1
 end
def uptoSmall : (H : Type) → List (DataW H) → Bool := fun _ ds => decide (uptoBulkAll ds ≤ 1048576)
def OpenSpec.upto (s : _root_.Go.ChangeSpec) : _root_.Go.OpenSpec := { _root_.Go.OpenSpec.ofChange s with cond := some uptoSmall }

/-- 'laws.FnExactSquareOk', WHERE WHAT IT READS IS OF BULK AT MOST 1048576: true; the input reads as it did. -/
def fnExactSquareOkUptoRow : OpenClaim := { program := "ythnaalmoedjjkaa", sum := "0eab954ee36d05e3c829df3d84d2fab879928731f68d574cf4108309572c559a", func := "loop.example/g03300/laws.FnExactSquareOk", spec := "fnExactSquareOk", apart := false, narrowed := true }
def FnExactSquareOkUptoSaid : Prop := fnExactSquareOkUptoRow.holds Try.pinned (OpenSpec.upto fnExactSquareOkSpec)

/-- 'laws.FnExactDeterminantOf', WHERE WHAT IT READS IS OF BULK AT MOST 1048576: true; the input reads as it did. -/
def fnExactDeterminantOfUptoRow : OpenClaim := { program := "ythnaalmoedjjkaa", sum := "0eab954ee36d05e3c829df3d84d2fab879928731f68d574cf4108309572c559a", func := "loop.example/g03300/laws.FnExactDeterminantOf", spec := "fnExactDeterminantOf", apart := false, narrowed := true }
def FnExactDeterminantOfUptoSaid : Prop := fnExactDeterminantOfUptoRow.holds Try.pinned (OpenSpec.upto fnExactDeterminantOfSpec)

/-- 'laws.FnExactSignMatrix', WHERE WHAT IT READS IS OF BULK AT MOST 1048576: true; the input reads as it did. -/
def fnExactSignMatrixUptoRow : OpenClaim := { program := "ythnaalmoedjjkaa", sum := "0eab954ee36d05e3c829df3d84d2fab879928731f68d574cf4108309572c559a", func := "loop.example/g03300/laws.FnExactSignMatrix", spec := "fnExactSignMatrix", apart := false, narrowed := true }
def FnExactSignMatrixUptoSaid : Prop := fnExactSignMatrixUptoRow.holds Try.pinned (OpenSpec.upto fnExactSignMatrixSpec)

/-- 'laws.FnExactCountBySigns', WHERE WHAT IT READS IS OF BULK AT MOST 1048576: true; the input reads as it did. -/
def fnExactCountBySignsUptoRow : OpenClaim := { program := "ythnaalmoedjjkaa", sum := "0eab954ee36d05e3c829df3d84d2fab879928731f68d574cf4108309572c559a", func := "loop.example/g03300/laws.FnExactCountBySigns", spec := "fnExactCountBySigns", apart := false, narrowed := true }
def FnExactCountBySignsUptoSaid : Prop := fnExactCountBySignsUptoRow.holds Try.pinned (OpenSpec.upto fnExactCountBySignsSpec)

/-- 'laws.FnExactCountByExpansion', WHERE WHAT IT READS IS OF BULK AT MOST 1048576: true; the input reads as it did. -/
def fnExactCountByExpansionUptoRow : OpenClaim := { program := "ythnaalmoedjjkaa", sum := "0eab954ee36d05e3c829df3d84d2fab879928731f68d574cf4108309572c559a", func := "loop.example/g03300/laws.FnExactCountByExpansion", spec := "fnExactCountByExpansion", recurses := true, apart := false, narrowed := true }
def FnExactCountByExpansionUptoSaid : Prop := fnExactCountByExpansionUptoRow.holds Try.pinned (OpenSpec.upto fnExactCountByExpansionSpec)

end Rows
end Go.Proofs.Ythnaalmoedjjkaa
