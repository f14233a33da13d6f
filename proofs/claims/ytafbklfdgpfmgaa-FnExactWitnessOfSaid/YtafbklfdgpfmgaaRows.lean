/-
  No cell of these rows narrows 'for every input' (looked for: loops, veiled, ifaces, maps, wideKeys, modest, calm, conditions, laid).
  DERIVED. THE GIVEN ROWS OF THIS SEAT. 6 by the template 'for every input the law returns true; each argument reads behind the call as it read before'; 0 by the template 'total and deterministic' (their statements: YtafbklfdgpfmgaaTotals.lean).
  GIVEN WITH THE SEED: the statements are not yours to turn. If you find one false, say at which input.
  Laid BY PROGRAM, IN A SANDBOX (cutbox-rows.mjs): the forced cells as the released guide's own fill.sh prints them over the translation af82ee09a8ec0b03… (all of the seat's roots in one cut). By AI agents, Wed Nov 11 2026. No macro, syntax, notation, axiom, sorry.
-/
import Derived.Test.YtafbklfdgpfmgaaChecked
import GoSem.Claim
import GoSem.ClaimJoined
import GoSem.ClaimMapViews
import Derived.JoinedTies
import Derived.KernelRfl
namespace Go.Proofs.Ytafbklfdgpfmgaa
/- THE CELL 'sum', in the pinned program and in every row, IS THE sha256 OF THE DUMP (.gsa) THAT YtafbklfdgpfmgaaProg.lean LOADS. Nothing in Lean hashes anything: it is a label: what it is worth is what the hold of that sum in a sandbox is worth. -/
noncomputable def Try.pinned : Pinned := { name := "ytafbklfdgpfmgaa", sum := "af82ee09a8ec0b03baba285d364565f2f7f8e74294867e8dfe88b90bd537f95d", checked := Try.checked }
namespace Rows
def none {H : Type} : Left H := { results := [], args := [] }

/-- 'laws.FnExactCanExtend': WHATEVER THE INPUT: true; the input reads as it did. -/
def fnExactCanExtendSpec : ChangeSpec := { name := "fnExactCanExtend", fn := fun _ => fun
  | [d1, d2] => { results := [.lit (.bool true)], args := [d1, d2] }
  | _ => none }
def fnExactCanExtendRow : OpenClaim := { program := "ytafbklfdgpfmgaa", sum := "af82ee09a8ec0b03baba285d364565f2f7f8e74294867e8dfe88b90bd537f95d", func := "loop.example/g03300/laws.FnExactCanExtend", spec := "fnExactCanExtend", apart := false }
def FnExactCanExtendSaid : Prop := fnExactCanExtendRow.holds Try.pinned (OpenSpec.ofChange fnExactCanExtendSpec)

/-- ITS FALSE NEIGHBOUR: 'it returns false'. Refute it at one input. -/
def fnExactCanExtendWrong : ChangeSpec := { name := "fnExactCanExtend", fn := fun _ => fun
  | [d1, d2] => { results := [.lit (.bool false)], args := [d1, d2] }
  | _ => none }
def FnExactCanExtendWrongFalsely : Prop := fnExactCanExtendRow.holds Try.pinned (OpenSpec.ofChange fnExactCanExtendWrong)

/-- 'laws.FnExactMostDominoes': WHATEVER THE INPUT: true; the input reads as it did. -/
def fnExactMostDominoesSpec : ChangeSpec := { name := "fnExactMostDominoes", fn := fun _ => fun
  | [d] => { results := [.lit (.bool true)], args := [d] }
  | _ => none }
def fnExactMostDominoesRow : OpenClaim := { program := "ytafbklfdgpfmgaa", sum := "af82ee09a8ec0b03baba285d364565f2f7f8e74294867e8dfe88b90bd537f95d", func := "loop.example/g03300/laws.FnExactMostDominoes", spec := "fnExactMostDominoes", unfollowed := true, recurses := true, apart := false }
def FnExactMostDominoesSaid : Prop := fnExactMostDominoesRow.holds Try.pinned (OpenSpec.ofChange fnExactMostDominoesSpec)

/-- ITS FALSE NEIGHBOUR: 'it returns false'. Refute it at one input. -/
def fnExactMostDominoesWrong : ChangeSpec := { name := "fnExactMostDominoes", fn := fun _ => fun
  | [d] => { results := [.lit (.bool false)], args := [d] }
  | _ => none }
def FnExactMostDominoesWrongFalsely : Prop := fnExactMostDominoesRow.holds Try.pinned (OpenSpec.ofChange fnExactMostDominoesWrong)

/-- 'laws.FnExactFreeBlacks': WHATEVER THE INPUT: true; the input reads as it did. -/
def fnExactFreeBlacksSpec : ChangeSpec := { name := "fnExactFreeBlacks", fn := fun _ => fun
  | [d] => { results := [.lit (.bool true)], args := [d] }
  | _ => none }
def fnExactFreeBlacksRow : OpenClaim := { program := "ytafbklfdgpfmgaa", sum := "af82ee09a8ec0b03baba285d364565f2f7f8e74294867e8dfe88b90bd537f95d", func := "loop.example/g03300/laws.FnExactFreeBlacks", spec := "fnExactFreeBlacks", unfollowed := true, recurses := true, apart := false }
def FnExactFreeBlacksSaid : Prop := fnExactFreeBlacksRow.holds Try.pinned (OpenSpec.ofChange fnExactFreeBlacksSpec)

/-- ITS FALSE NEIGHBOUR: 'it returns false'. Refute it at one input. -/
def fnExactFreeBlacksWrong : ChangeSpec := { name := "fnExactFreeBlacks", fn := fun _ => fun
  | [d] => { results := [.lit (.bool false)], args := [d] }
  | _ => none }
def FnExactFreeBlacksWrongFalsely : Prop := fnExactFreeBlacksRow.holds Try.pinned (OpenSpec.ofChange fnExactFreeBlacksWrong)

/-- 'laws.FnExactMatchRegion': WHATEVER THE INPUT: true; the input reads as it did. -/
def fnExactMatchRegionSpec : ChangeSpec := { name := "fnExactMatchRegion", fn := fun _ => fun
  | [d] => { results := [.lit (.bool true)], args := [d] }
  | _ => none }
def fnExactMatchRegionRow : OpenClaim := { program := "ytafbklfdgpfmgaa", sum := "af82ee09a8ec0b03baba285d364565f2f7f8e74294867e8dfe88b90bd537f95d", func := "loop.example/g03300/laws.FnExactMatchRegion", spec := "fnExactMatchRegion", unfollowed := true, recurses := true, apart := false }
def FnExactMatchRegionSaid : Prop := fnExactMatchRegionRow.holds Try.pinned (OpenSpec.ofChange fnExactMatchRegionSpec)

/-- ITS FALSE NEIGHBOUR: 'it returns false'. Refute it at one input. -/
def fnExactMatchRegionWrong : ChangeSpec := { name := "fnExactMatchRegion", fn := fun _ => fun
  | [d] => { results := [.lit (.bool false)], args := [d] }
  | _ => none }
def FnExactMatchRegionWrongFalsely : Prop := fnExactMatchRegionRow.holds Try.pinned (OpenSpec.ofChange fnExactMatchRegionWrong)

/-- 'laws.FnExactWitnessOf': WHATEVER THE INPUT: true; the input reads as it did. -/
def fnExactWitnessOfSpec : ChangeSpec := { name := "fnExactWitnessOf", fn := fun _ => fun
  | [d] => { results := [.lit (.bool true)], args := [d] }
  | _ => none }
def fnExactWitnessOfRow : OpenClaim := { program := "ytafbklfdgpfmgaa", sum := "af82ee09a8ec0b03baba285d364565f2f7f8e74294867e8dfe88b90bd537f95d", func := "loop.example/g03300/laws.FnExactWitnessOf", spec := "fnExactWitnessOf", unfollowed := true, recurses := true, apart := false }
def FnExactWitnessOfSaid : Prop := fnExactWitnessOfRow.holds Try.pinned (OpenSpec.ofChange fnExactWitnessOfSpec)

/-- ITS FALSE NEIGHBOUR: 'it returns false'. Refute it at one input. -/
def fnExactWitnessOfWrong : ChangeSpec := { name := "fnExactWitnessOf", fn := fun _ => fun
  | [d] => { results := [.lit (.bool false)], args := [d] }
  | _ => none }
def FnExactWitnessOfWrongFalsely : Prop := fnExactWitnessOfRow.holds Try.pinned (OpenSpec.ofChange fnExactWitnessOfWrong)

/-- 'laws.FnExactIsMostPartial': WHATEVER THE INPUT: true; the input reads as it did. -/
def fnExactIsMostPartialSpec : ChangeSpec := { name := "fnExactIsMostPartial", fn := fun _ => fun
  | [d1, d2] => { results := [.lit (.bool true)], args := [d1, d2] }
  | _ => none }
def fnExactIsMostPartialRow : OpenClaim := { program := "ytafbklfdgpfmgaa", sum := "af82ee09a8ec0b03baba285d364565f2f7f8e74294867e8dfe88b90bd537f95d", func := "loop.example/g03300/laws.FnExactIsMostPartial", spec := "fnExactIsMostPartial", unfollowed := true, recurses := true, apart := false }
def FnExactIsMostPartialSaid : Prop := fnExactIsMostPartialRow.holds Try.pinned (OpenSpec.ofChange fnExactIsMostPartialSpec)

/-- ITS FALSE NEIGHBOUR: 'it returns false'. Refute it at one input. -/
def fnExactIsMostPartialWrong : ChangeSpec := { name := "fnExactIsMostPartial", fn := fun _ => fun
  | [d1, d2] => { results := [.lit (.bool false)], args := [d1, d2] }
  | _ => none }
def FnExactIsMostPartialWrongFalsely : Prop := fnExactIsMostPartialRow.holds Try.pinned (OpenSpec.ofChange fnExactIsMostPartialWrong)

/- THE SECOND FORM. 'bulk': how many values and letters a reading holds, each counted each time it is reached (what is shared counts as often as it is met; a slice's spare places count too). A statement '..UptoSaid' is the law's where the arguments, and the package variables that the reading takes, are together of bulk at most 1048576: NARROWER than '..Said'. Prove '..Said' where nothing that the law and all that it calls make is longer than what came in: it says more and counts as full. Else prove '..UptoSaid'. A law counts once. -/
mutual
def uptoBulk {H : Type} : DataW H → Nat
  | .lit (.string bytes) => bytes.length + 1
  | .lit _ => 1
  | .nil => 1
  | .ptr d => uptoBulk d + 1
  | .slice elems spare => uptoBulkAll elems + uptoBulkAll spare + 1
  | .agg parts => uptoBulkAll parts + 1
  | .iface _ d => uptoBulk d + 1
  | .map entries => uptoBulkEntries entries + 1
  | .held _ => 1
def uptoBulkAll {H : Type} : List (DataW H) → Nat
  | [] => 0
  | d :: r => uptoBulk d + uptoBulkAll r
def uptoBulkEntries {H : Type} : List (Lit × DataW H) → Nat
  | [] => 0
  | x :: r => uptoBulkEntry x + uptoBulkEntries r
def uptoBulkEntry {H : Type} : Lit × DataW H → Nat
  | (.string bytes, d) => bytes.length + uptoBulk d + 1
  | (_, d) => uptoBulk d + 1
 end
def uptoSmall : (H : Type) → List (DataW H) → Bool := fun _ ds => decide (uptoBulkAll ds ≤ 1048576)
def OpenSpec.upto (s : _root_.Go.ChangeSpec) : _root_.Go.OpenSpec := { _root_.Go.OpenSpec.ofChange s with cond := some uptoSmall }

/-- 'laws.FnExactCanExtend', WHERE WHAT IT READS IS OF BULK AT MOST 1048576: true; the input reads as it did. -/
def fnExactCanExtendUptoRow : OpenClaim := { program := "ytafbklfdgpfmgaa", sum := "af82ee09a8ec0b03baba285d364565f2f7f8e74294867e8dfe88b90bd537f95d", func := "loop.example/g03300/laws.FnExactCanExtend", spec := "fnExactCanExtend", apart := false, narrowed := true }
def FnExactCanExtendUptoSaid : Prop := fnExactCanExtendUptoRow.holds Try.pinned (OpenSpec.upto fnExactCanExtendSpec)

/-- 'laws.FnExactMostDominoes', WHERE WHAT IT READS IS OF BULK AT MOST 1048576: true; the input reads as it did. -/
def fnExactMostDominoesUptoRow : OpenClaim := { program := "ytafbklfdgpfmgaa", sum := "af82ee09a8ec0b03baba285d364565f2f7f8e74294867e8dfe88b90bd537f95d", func := "loop.example/g03300/laws.FnExactMostDominoes", spec := "fnExactMostDominoes", unfollowed := true, recurses := true, apart := false, narrowed := true }
def FnExactMostDominoesUptoSaid : Prop := fnExactMostDominoesUptoRow.holds Try.pinned (OpenSpec.upto fnExactMostDominoesSpec)

/-- 'laws.FnExactFreeBlacks', WHERE WHAT IT READS IS OF BULK AT MOST 1048576: true; the input reads as it did. -/
def fnExactFreeBlacksUptoRow : OpenClaim := { program := "ytafbklfdgpfmgaa", sum := "af82ee09a8ec0b03baba285d364565f2f7f8e74294867e8dfe88b90bd537f95d", func := "loop.example/g03300/laws.FnExactFreeBlacks", spec := "fnExactFreeBlacks", unfollowed := true, recurses := true, apart := false, narrowed := true }
def FnExactFreeBlacksUptoSaid : Prop := fnExactFreeBlacksUptoRow.holds Try.pinned (OpenSpec.upto fnExactFreeBlacksSpec)

/-- 'laws.FnExactMatchRegion', WHERE WHAT IT READS IS OF BULK AT MOST 1048576: true; the input reads as it did. -/
def fnExactMatchRegionUptoRow : OpenClaim := { program := "ytafbklfdgpfmgaa", sum := "af82ee09a8ec0b03baba285d364565f2f7f8e74294867e8dfe88b90bd537f95d", func := "loop.example/g03300/laws.FnExactMatchRegion", spec := "fnExactMatchRegion", unfollowed := true, recurses := true, apart := false, narrowed := true }
def FnExactMatchRegionUptoSaid : Prop := fnExactMatchRegionUptoRow.holds Try.pinned (OpenSpec.upto fnExactMatchRegionSpec)

/-- 'laws.FnExactWitnessOf', WHERE WHAT IT READS IS OF BULK AT MOST 1048576: true; the input reads as it did. -/
def fnExactWitnessOfUptoRow : OpenClaim := { program := "ytafbklfdgpfmgaa", sum := "af82ee09a8ec0b03baba285d364565f2f7f8e74294867e8dfe88b90bd537f95d", func := "loop.example/g03300/laws.FnExactWitnessOf", spec := "fnExactWitnessOf", unfollowed := true, recurses := true, apart := false, narrowed := true }
def FnExactWitnessOfUptoSaid : Prop := fnExactWitnessOfUptoRow.holds Try.pinned (OpenSpec.upto fnExactWitnessOfSpec)

/-- 'laws.FnExactIsMostPartial', WHERE WHAT IT READS IS OF BULK AT MOST 1048576: true; the input reads as it did. -/
def fnExactIsMostPartialUptoRow : OpenClaim := { program := "ytafbklfdgpfmgaa", sum := "af82ee09a8ec0b03baba285d364565f2f7f8e74294867e8dfe88b90bd537f95d", func := "loop.example/g03300/laws.FnExactIsMostPartial", spec := "fnExactIsMostPartial", unfollowed := true, recurses := true, apart := false, narrowed := true }
def FnExactIsMostPartialUptoSaid : Prop := fnExactIsMostPartialUptoRow.holds Try.pinned (OpenSpec.upto fnExactIsMostPartialSpec)

end Rows
end Go.Proofs.Ytafbklfdgpfmgaa
