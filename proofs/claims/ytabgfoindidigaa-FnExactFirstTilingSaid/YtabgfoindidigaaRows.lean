/-
  No cell of these rows narrows 'for every input' (looked for: loops, veiled, ifaces, maps, wideKeys, modest, calm, conditions, laid).
  DERIVED. THE GIVEN ROWS OF THIS SEAT. 6 by the template 'for every input the law returns true; each argument reads behind the call as it read before'; 0 by the template 'total and deterministic' (their statements: YtabgfoindidigaaTotals.lean).
  GIVEN WITH THE SEED: the statements are not yours to turn. If you find one false, say at which input.
  Laid BY PROGRAM, IN A SANDBOX (cutbox-rows.mjs): the forced cells as the released guide's own fill.sh prints them over the translation b4a1aac7d9d57a66… (all of the seat's roots in one cut). By AI agents, Wed Nov 11 2026. No macro, syntax, notation, axiom, sorry.
-/
import Derived.Test.YtabgfoindidigaaChecked
import GoSem.Claim
import GoSem.ClaimJoined
import GoSem.ClaimMapViews
import Derived.JoinedTies
import Derived.KernelRfl
namespace Go.Proofs.Ytabgfoindidigaa
/- THE CELL 'sum', in the pinned program and in every row, IS THE sha256 OF THE DUMP (.gsa) THAT YtabgfoindidigaaProg.lean LOADS. Nothing in Lean hashes anything: it is a label: what it is worth is what the hold of that sum in a sandbox is worth. -/
noncomputable def Try.pinned : Pinned := { name := "ytabgfoindidigaa", sum := "b4a1aac7d9d57a6672a1f75a574ad26a33072d643bccc27689af5d45fa1a52dc", checked := Try.checked }
namespace Rows
def none {H : Type} : Left H := { results := [], args := [] }

/-- 'laws.FnExactShareOf': WHATEVER THE INPUT: true; the input reads as it did. -/
def fnExactShareOfSpec : ChangeSpec := { name := "fnExactShareOf", fn := fun _ => fun
  | [d1, d2] => { results := [.lit (.bool true)], args := [d1, d2] }
  | _ => none }
def fnExactShareOfRow : OpenClaim := { program := "ytabgfoindidigaa", sum := "b4a1aac7d9d57a6672a1f75a574ad26a33072d643bccc27689af5d45fa1a52dc", func := "loop.example/g03300/laws.FnExactShareOf", spec := "fnExactShareOf", unfollowed := true, recurses := true, apart := false }
def FnExactShareOfSaid : Prop := fnExactShareOfRow.holds Try.pinned (OpenSpec.ofChange fnExactShareOfSpec)

/-- ITS FALSE NEIGHBOUR: 'it returns false'. Refute it at one input. -/
def fnExactShareOfWrong : ChangeSpec := { name := "fnExactShareOf", fn := fun _ => fun
  | [d1, d2] => { results := [.lit (.bool false)], args := [d1, d2] }
  | _ => none }
def FnExactShareOfWrongFalsely : Prop := fnExactShareOfRow.holds Try.pinned (OpenSpec.ofChange fnExactShareOfWrong)

/-- 'laws.FnExactCountOver': WHATEVER THE INPUT: true; the input reads as it did. -/
def fnExactCountOverSpec : ChangeSpec := { name := "fnExactCountOver", fn := fun _ => fun
  | [d1, d2] => { results := [.lit (.bool true)], args := [d1, d2] }
  | _ => none }
def fnExactCountOverRow : OpenClaim := { program := "ytabgfoindidigaa", sum := "b4a1aac7d9d57a6672a1f75a574ad26a33072d643bccc27689af5d45fa1a52dc", func := "loop.example/g03300/laws.FnExactCountOver", spec := "fnExactCountOver", unfollowed := true, recurses := true, apart := false }
def FnExactCountOverSaid : Prop := fnExactCountOverRow.holds Try.pinned (OpenSpec.ofChange fnExactCountOverSpec)

/-- ITS FALSE NEIGHBOUR: 'it returns false'. Refute it at one input. -/
def fnExactCountOverWrong : ChangeSpec := { name := "fnExactCountOver", fn := fun _ => fun
  | [d1, d2] => { results := [.lit (.bool false)], args := [d1, d2] }
  | _ => none }
def FnExactCountOverWrongFalsely : Prop := fnExactCountOverRow.holds Try.pinned (OpenSpec.ofChange fnExactCountOverWrong)

/-- 'laws.FnExactPossibleDominoes': WHATEVER THE INPUT: true; the input reads as it did. -/
def fnExactPossibleDominoesSpec : ChangeSpec := { name := "fnExactPossibleDominoes", fn := fun _ => fun
  | [d] => { results := [.lit (.bool true)], args := [d] }
  | _ => none }
def fnExactPossibleDominoesRow : OpenClaim := { program := "ytabgfoindidigaa", sum := "b4a1aac7d9d57a6672a1f75a574ad26a33072d643bccc27689af5d45fa1a52dc", func := "loop.example/g03300/laws.FnExactPossibleDominoes", spec := "fnExactPossibleDominoes", unfollowed := true, recurses := true, apart := false }
def FnExactPossibleDominoesSaid : Prop := fnExactPossibleDominoesRow.holds Try.pinned (OpenSpec.ofChange fnExactPossibleDominoesSpec)

/-- ITS FALSE NEIGHBOUR: 'it returns false'. Refute it at one input. -/
def fnExactPossibleDominoesWrong : ChangeSpec := { name := "fnExactPossibleDominoes", fn := fun _ => fun
  | [d] => { results := [.lit (.bool false)], args := [d] }
  | _ => none }
def FnExactPossibleDominoesWrongFalsely : Prop := fnExactPossibleDominoesRow.holds Try.pinned (OpenSpec.ofChange fnExactPossibleDominoesWrong)

/-- 'laws.FnExactForcedDominoes': WHATEVER THE INPUT: true; the input reads as it did. -/
def fnExactForcedDominoesSpec : ChangeSpec := { name := "fnExactForcedDominoes", fn := fun _ => fun
  | [d] => { results := [.lit (.bool true)], args := [d] }
  | _ => none }
def fnExactForcedDominoesRow : OpenClaim := { program := "ytabgfoindidigaa", sum := "b4a1aac7d9d57a6672a1f75a574ad26a33072d643bccc27689af5d45fa1a52dc", func := "loop.example/g03300/laws.FnExactForcedDominoes", spec := "fnExactForcedDominoes", unfollowed := true, recurses := true, apart := false }
def FnExactForcedDominoesSaid : Prop := fnExactForcedDominoesRow.holds Try.pinned (OpenSpec.ofChange fnExactForcedDominoesSpec)

/-- ITS FALSE NEIGHBOUR: 'it returns false'. Refute it at one input. -/
def fnExactForcedDominoesWrong : ChangeSpec := { name := "fnExactForcedDominoes", fn := fun _ => fun
  | [d] => { results := [.lit (.bool false)], args := [d] }
  | _ => none }
def FnExactForcedDominoesWrongFalsely : Prop := fnExactForcedDominoesRow.holds Try.pinned (OpenSpec.ofChange fnExactForcedDominoesWrong)

/-- 'laws.FnExactFirstTiling': WHATEVER THE INPUT: true; the input reads as it did. -/
def fnExactFirstTilingSpec : ChangeSpec := { name := "fnExactFirstTiling", fn := fun _ => fun
  | [d] => { results := [.lit (.bool true)], args := [d] }
  | _ => none }
def fnExactFirstTilingRow : OpenClaim := { program := "ytabgfoindidigaa", sum := "b4a1aac7d9d57a6672a1f75a574ad26a33072d643bccc27689af5d45fa1a52dc", func := "loop.example/g03300/laws.FnExactFirstTiling", spec := "fnExactFirstTiling", unfollowed := true, recurses := true, apart := false }
def FnExactFirstTilingSaid : Prop := fnExactFirstTilingRow.holds Try.pinned (OpenSpec.ofChange fnExactFirstTilingSpec)

/-- ITS FALSE NEIGHBOUR: 'it returns false'. Refute it at one input. -/
def fnExactFirstTilingWrong : ChangeSpec := { name := "fnExactFirstTiling", fn := fun _ => fun
  | [d] => { results := [.lit (.bool false)], args := [d] }
  | _ => none }
def FnExactFirstTilingWrongFalsely : Prop := fnExactFirstTilingRow.holds Try.pinned (OpenSpec.ofChange fnExactFirstTilingWrong)

/-- 'laws.FnExactGrowDiamond': WHATEVER THE INPUT: true; the input reads as it did. -/
def fnExactGrowDiamondSpec : ChangeSpec := { name := "fnExactGrowDiamond", fn := fun _ => fun
  | [d1, d2] => { results := [.lit (.bool true)], args := [d1, d2] }
  | _ => none }
def fnExactGrowDiamondRow : OpenClaim := { program := "ytabgfoindidigaa", sum := "b4a1aac7d9d57a6672a1f75a574ad26a33072d643bccc27689af5d45fa1a52dc", func := "loop.example/g03300/laws.FnExactGrowDiamond", spec := "fnExactGrowDiamond", apart := false }
def FnExactGrowDiamondSaid : Prop := fnExactGrowDiamondRow.holds Try.pinned (OpenSpec.ofChange fnExactGrowDiamondSpec)

/-- ITS FALSE NEIGHBOUR: 'it returns false'. Refute it at one input. -/
def fnExactGrowDiamondWrong : ChangeSpec := { name := "fnExactGrowDiamond", fn := fun _ => fun
  | [d1, d2] => { results := [.lit (.bool false)], args := [d1, d2] }
  | _ => none }
def FnExactGrowDiamondWrongFalsely : Prop := fnExactGrowDiamondRow.holds Try.pinned (OpenSpec.ofChange fnExactGrowDiamondWrong)

/- THE SECOND FORM. 'bulk': how many values and letters a reading holds, each counted each time it is reached (what is shared counts as often as it is met; a slice's spare places count too). A statement '..UptoSaid' is the law's where the arguments, and the package variables that the reading takes, are together of bulk at most 1048576: NARROWER than '..Said'. Prove '..Said' where nothing that the law and all that it calls make is longer than what came in: it says more and counts as full. Else prove '..UptoSaid'. A law counts once. -/
mutual
def uptoBulk {H : Type} : DataW H → Nat
  | .lit (.string bytes) => bytes.length + 1
  | .lit _ => 1
  | .nil => 1
  | .ptr d => uptoBulk d + 1
  | .slice elems spare => uptoBulkAll elems + uptoBulkAll spare + 1
  | .agg parts => uptoBulkAll parts + 1
  | .iface _ d => uptoBulk d + 1
  | .map entries => uptoBulkEntries entries + 1
  | .held _ => 1
def uptoBulkAll {H : Type} : List (DataW H) → Nat
  | [] => 0
  | d :: r => uptoBulk d + uptoBulkAll r
def uptoBulkEntries {H : Type} : List (Lit × DataW H) → Nat
  | [] => 0
  | x :: r => uptoBulkEntry x + uptoBulkEntries r
def uptoBulkEntry {H : Type} : Lit × DataW H → Nat
  | (.string bytes, d) => bytes.length + uptoBulk d + 1
  | (_, d) => uptoBulk d + 1
 end
def uptoSmall : (H : Type) → List (DataW H) → Bool := fun _ ds => decide (uptoBulkAll ds ≤ 1048576)
def OpenSpec.upto (s : _root_.Go.ChangeSpec) : _root_.Go.OpenSpec := { _root_.Go.OpenSpec.ofChange s with cond := some uptoSmall }

/-- 'laws.FnExactShareOf', WHERE WHAT IT READS IS OF BULK AT MOST 1048576: true; the input reads as it did. -/
def fnExactShareOfUptoRow : OpenClaim := { program := "ytabgfoindidigaa", sum := "b4a1aac7d9d57a6672a1f75a574ad26a33072d643bccc27689af5d45fa1a52dc", func := "loop.example/g03300/laws.FnExactShareOf", spec := "fnExactShareOf", unfollowed := true, recurses := true, apart := false, narrowed := true }
def FnExactShareOfUptoSaid : Prop := fnExactShareOfUptoRow.holds Try.pinned (OpenSpec.upto fnExactShareOfSpec)

/-- 'laws.FnExactCountOver', WHERE WHAT IT READS IS OF BULK AT MOST 1048576: true; the input reads as it did. -/
def fnExactCountOverUptoRow : OpenClaim := { program := "ytabgfoindidigaa", sum := "b4a1aac7d9d57a6672a1f75a574ad26a33072d643bccc27689af5d45fa1a52dc", func := "loop.example/g03300/laws.FnExactCountOver", spec := "fnExactCountOver", unfollowed := true, recurses := true, apart := false, narrowed := true }
def FnExactCountOverUptoSaid : Prop := fnExactCountOverUptoRow.holds Try.pinned (OpenSpec.upto fnExactCountOverSpec)

/-- 'laws.FnExactPossibleDominoes', WHERE WHAT IT READS IS OF BULK AT MOST 1048576: true; the input reads as it did. -/
def fnExactPossibleDominoesUptoRow : OpenClaim := { program := "ytabgfoindidigaa", sum := "b4a1aac7d9d57a6672a1f75a574ad26a33072d643bccc27689af5d45fa1a52dc", func := "loop.example/g03300/laws.FnExactPossibleDominoes", spec := "fnExactPossibleDominoes", unfollowed := true, recurses := true, apart := false, narrowed := true }
def FnExactPossibleDominoesUptoSaid : Prop := fnExactPossibleDominoesUptoRow.holds Try.pinned (OpenSpec.upto fnExactPossibleDominoesSpec)

/-- 'laws.FnExactForcedDominoes', WHERE WHAT IT READS IS OF BULK AT MOST 1048576: true; the input reads as it did. -/
def fnExactForcedDominoesUptoRow : OpenClaim := { program := "ytabgfoindidigaa", sum := "b4a1aac7d9d57a6672a1f75a574ad26a33072d643bccc27689af5d45fa1a52dc", func := "loop.example/g03300/laws.FnExactForcedDominoes", spec := "fnExactForcedDominoes", unfollowed := true, recurses := true, apart := false, narrowed := true }
def FnExactForcedDominoesUptoSaid : Prop := fnExactForcedDominoesUptoRow.holds Try.pinned (OpenSpec.upto fnExactForcedDominoesSpec)

/-- 'laws.FnExactFirstTiling', WHERE WHAT IT READS IS OF BULK AT MOST 1048576: true; the input reads as it did. -/
def fnExactFirstTilingUptoRow : OpenClaim := { program := "ytabgfoindidigaa", sum := "b4a1aac7d9d57a6672a1f75a574ad26a33072d643bccc27689af5d45fa1a52dc", func := "loop.example/g03300/laws.FnExactFirstTiling", spec := "fnExactFirstTiling", unfollowed := true, recurses := true, apart := false, narrowed := true }
def FnExactFirstTilingUptoSaid : Prop := fnExactFirstTilingUptoRow.holds Try.pinned (OpenSpec.upto fnExactFirstTilingSpec)

/-- 'laws.FnExactGrowDiamond', WHERE WHAT IT READS IS OF BULK AT MOST 1048576: true; the input reads as it did. -/
def fnExactGrowDiamondUptoRow : OpenClaim := { program := "ytabgfoindidigaa", sum := "b4a1aac7d9d57a6672a1f75a574ad26a33072d643bccc27689af5d45fa1a52dc", func := "loop.example/g03300/laws.FnExactGrowDiamond", spec := "fnExactGrowDiamond", apart := false, narrowed := true }
def FnExactGrowDiamondUptoSaid : Prop := fnExactGrowDiamondUptoRow.holds Try.pinned (OpenSpec.upto fnExactGrowDiamondSpec)

end Rows
end Go.Proofs.Ytabgfoindidigaa
