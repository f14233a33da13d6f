/-
  No cell of these rows narrows 'for every input' (looked for: loops, veiled, ifaces, maps, wideKeys, modest, calm, conditions, laid).
  DERIVED. THE GIVEN ROWS OF THIS SEAT. 6 by the template 'for every input the law returns true; each argument reads behind the call as it read before'; 0 by the template 'total and deterministic' (their statements: YtjlcphpabeamaaaTotals.lean).
  GIVEN WITH THE SEED: the statements are not yours to turn. If you find one false, say at which input.
  Laid BY PROGRAM, IN A SANDBOX (cutbox-rows.mjs): the forced cells as the released guide's own fill.sh prints them over the translation 8a3bd52e28af3417… (all of the seat's roots in one cut). By AI agents, Wed Nov 11 2026. No macro, syntax, notation, axiom, sorry.
-/
import Derived.Test.YtjlcphpabeamaaaChecked
import GoSem.Claim
import GoSem.ClaimJoined
import GoSem.ClaimMapViews
import Derived.JoinedTies
import Derived.KernelRfl
namespace Go.Proofs.Ytjlcphpabeamaaa
/- THE CELL 'sum', in the pinned program and in every row, IS THE sha256 OF THE DUMP (.gsa) THAT YtjlcphpabeamaaaProg.lean LOADS. Nothing in Lean hashes anything: it is a label: what it is worth is what the hold of that sum in a sandbox is worth. -/
noncomputable def Try.pinned : Pinned := { name := "ytjlcphpabeamaaa", sum := "8a3bd52e28af34178d63c2cad615b376d1c6ba2685a462aff40f93bb207cfdc3", checked := Try.checked }
namespace Rows
def none {H : Type} : Left H := { results := [], args := [] }

/-- 'laws.FnExactCanFlip': WHATEVER THE INPUT: true; the input reads as it did. -/
def fnExactCanFlipSpec : ChangeSpec := { name := "fnExactCanFlip", fn := fun _ => fun
  | [d1, d2] => { results := [.lit (.bool true)], args := [d1, d2] }
  | _ => none }
def fnExactCanFlipRow : OpenClaim := { program := "ytjlcphpabeamaaa", sum := "8a3bd52e28af34178d63c2cad615b376d1c6ba2685a462aff40f93bb207cfdc3", func := "loop.example/g03300/laws.FnExactCanFlip", spec := "fnExactCanFlip", apart := false }
def FnExactCanFlipSaid : Prop := fnExactCanFlipRow.holds Try.pinned (OpenSpec.ofChange fnExactCanFlipSpec)

/-- ITS FALSE NEIGHBOUR: 'it returns false'. Refute it at one input. -/
def fnExactCanFlipWrong : ChangeSpec := { name := "fnExactCanFlip", fn := fun _ => fun
  | [d1, d2] => { results := [.lit (.bool false)], args := [d1, d2] }
  | _ => none }
def FnExactCanFlipWrongFalsely : Prop := fnExactCanFlipRow.holds Try.pinned (OpenSpec.ofChange fnExactCanFlipWrong)

/-- 'laws.FnExactFlipsOf': WHATEVER THE INPUT: true; the input reads as it did. -/
def fnExactFlipsOfSpec : ChangeSpec := { name := "fnExactFlipsOf", fn := fun _ => fun
  | [d] => { results := [.lit (.bool true)], args := [d] }
  | _ => none }
def fnExactFlipsOfRow : OpenClaim := { program := "ytjlcphpabeamaaa", sum := "8a3bd52e28af34178d63c2cad615b376d1c6ba2685a462aff40f93bb207cfdc3", func := "loop.example/g03300/laws.FnExactFlipsOf", spec := "fnExactFlipsOf", apart := false }
def FnExactFlipsOfSaid : Prop := fnExactFlipsOfRow.holds Try.pinned (OpenSpec.ofChange fnExactFlipsOfSpec)

/-- ITS FALSE NEIGHBOUR: 'it returns false'. Refute it at one input. -/
def fnExactFlipsOfWrong : ChangeSpec := { name := "fnExactFlipsOf", fn := fun _ => fun
  | [d] => { results := [.lit (.bool false)], args := [d] }
  | _ => none }
def FnExactFlipsOfWrongFalsely : Prop := fnExactFlipsOfRow.holds Try.pinned (OpenSpec.ofChange fnExactFlipsOfWrong)

/-- 'laws.FnExactFlipAt': WHATEVER THE INPUT: true; the input reads as it did. -/
def fnExactFlipAtSpec : ChangeSpec := { name := "fnExactFlipAt", fn := fun _ => fun
  | [d1, d2] => { results := [.lit (.bool true)], args := [d1, d2] }
  | _ => none }
def fnExactFlipAtRow : OpenClaim := { program := "ytjlcphpabeamaaa", sum := "8a3bd52e28af34178d63c2cad615b376d1c6ba2685a462aff40f93bb207cfdc3", func := "loop.example/g03300/laws.FnExactFlipAt", spec := "fnExactFlipAt", apart := false }
def FnExactFlipAtSaid : Prop := fnExactFlipAtRow.holds Try.pinned (OpenSpec.ofChange fnExactFlipAtSpec)

/-- ITS FALSE NEIGHBOUR: 'it returns false'. Refute it at one input. -/
def fnExactFlipAtWrong : ChangeSpec := { name := "fnExactFlipAt", fn := fun _ => fun
  | [d1, d2] => { results := [.lit (.bool false)], args := [d1, d2] }
  | _ => none }
def FnExactFlipAtWrongFalsely : Prop := fnExactFlipAtRow.holds Try.pinned (OpenSpec.ofChange fnExactFlipAtWrong)

/-- 'laws.FnExactFlipAll': WHATEVER THE INPUT: true; the input reads as it did. -/
def fnExactFlipAllSpec : ChangeSpec := { name := "fnExactFlipAll", fn := fun _ => fun
  | [d1, d2] => { results := [.lit (.bool true)], args := [d1, d2] }
  | _ => none }
def fnExactFlipAllRow : OpenClaim := { program := "ytjlcphpabeamaaa", sum := "8a3bd52e28af34178d63c2cad615b376d1c6ba2685a462aff40f93bb207cfdc3", func := "loop.example/g03300/laws.FnExactFlipAll", spec := "fnExactFlipAll", apart := false }
def FnExactFlipAllSaid : Prop := fnExactFlipAllRow.holds Try.pinned (OpenSpec.ofChange fnExactFlipAllSpec)

/-- ITS FALSE NEIGHBOUR: 'it returns false'. Refute it at one input. -/
def fnExactFlipAllWrong : ChangeSpec := { name := "fnExactFlipAll", fn := fun _ => fun
  | [d1, d2] => { results := [.lit (.bool false)], args := [d1, d2] }
  | _ => none }
def FnExactFlipAllWrongFalsely : Prop := fnExactFlipAllRow.holds Try.pinned (OpenSpec.ofChange fnExactFlipAllWrong)

/-- 'laws.FnExactSquareOk': WHATEVER THE INPUT: true; the input reads as it did. -/
def fnExactSquareOkSpec : ChangeSpec := { name := "fnExactSquareOk", fn := fun _ => fun
  | [d] => { results := [.lit (.bool true)], args := [d] }
  | _ => none }
def fnExactSquareOkRow : OpenClaim := { program := "ytjlcphpabeamaaa", sum := "8a3bd52e28af34178d63c2cad615b376d1c6ba2685a462aff40f93bb207cfdc3", func := "loop.example/g03300/laws.FnExactSquareOk", spec := "fnExactSquareOk", apart := false }
def FnExactSquareOkSaid : Prop := fnExactSquareOkRow.holds Try.pinned (OpenSpec.ofChange fnExactSquareOkSpec)

/-- ITS FALSE NEIGHBOUR: 'it returns false'. Refute it at one input. -/
def fnExactSquareOkWrong : ChangeSpec := { name := "fnExactSquareOk", fn := fun _ => fun
  | [d] => { results := [.lit (.bool false)], args := [d] }
  | _ => none }
def FnExactSquareOkWrongFalsely : Prop := fnExactSquareOkRow.holds Try.pinned (OpenSpec.ofChange fnExactSquareOkWrong)

/-- 'laws.FnExactDeterminantOf': WHATEVER THE INPUT: true; the input reads as it did. -/
def fnExactDeterminantOfSpec : ChangeSpec := { name := "fnExactDeterminantOf", fn := fun _ => fun
  | [d] => { results := [.lit (.bool true)], args := [d] }
  | _ => none }
def fnExactDeterminantOfRow : OpenClaim := { program := "ytjlcphpabeamaaa", sum := "8a3bd52e28af34178d63c2cad615b376d1c6ba2685a462aff40f93bb207cfdc3", func := "loop.example/g03300/laws.FnExactDeterminantOf", spec := "fnExactDeterminantOf", apart := false }
def FnExactDeterminantOfSaid : Prop := fnExactDeterminantOfRow.holds Try.pinned (OpenSpec.ofChange fnExactDeterminantOfSpec)

/-- ITS FALSE NEIGHBOUR: 'it returns false'. Refute it at one input. -/
def fnExactDeterminantOfWrong : ChangeSpec := { name := "fnExactDeterminantOf", fn := fun _ => fun
  | [d] => { results := [.lit (.bool false)], args := [d] }
  | _ => none }
def FnExactDeterminantOfWrongFalsely : Prop := fnExactDeterminantOfRow.holds Try.pinned (OpenSpec.ofChange fnExactDeterminantOfWrong)

/- THE SECOND FORM. 'bulk': how many values and letters a reading holds, each counted each time it is reached (what is shared counts as often as it is met; a slice's spare places count too). A statement '..UptoSaid' is the law's where the arguments, and the package variables that the reading takes, are together of bulk at most 1048576: NARROWER than '..Said'. Prove '..Said' where nothing that the law and all that it calls make is longer than what came in: it says more and counts as full. Else prove '..UptoSaid'. A law counts once. -/
mutual
def uptoBulk {H : Type} : DataW H → Nat
  | .lit (.string bytes) => bytes.length + 1
  | .lit _ => 1
  | .nil => 1
  | .ptr d => uptoBulk d + 1
  | .slice elems spare => uptoBulkAll elems + uptoBulkAll spare + 1
  | .agg parts => uptoBulkAll parts + 1
  | .iface _ d => uptoBulk d + 1
  | .map entries => uptoBulkEntries entries + 1
  | .held _ => 1
def uptoBulkAll {H : Type} : List (DataW H) → Nat
  | [] => 0
  | d :: r => uptoBulk d + uptoBulkAll r
def uptoBulkEntries {H : Type} : List (Lit × DataW H) → Nat
  | [] => 0
  | x :: r => uptoBulkEntry x + uptoBulkEntries r
def uptoBulkEntry {H : Type} : Lit × DataW H → Nat
  | (.string bytes, d) => bytes.length + uptoBulk d + 1
  | (_, d) => uptoBulk d + 1
 end
def uptoSmall : (H : Type) → List (DataW H) → Bool := fun _ ds => decide (uptoBulkAll ds ≤ 1048576)
def OpenSpec.upto (s : _root_.Go.ChangeSpec) : _root_.Go.OpenSpec := { _root_.Go.OpenSpec.ofChange s with cond := some uptoSmall }

/-- 'laws.FnExactCanFlip', WHERE WHAT IT READS IS OF BULK AT MOST 1048576: true; the input reads as it did. -/
def fnExactCanFlipUptoRow : OpenClaim := { program := "ytjlcphpabeamaaa", sum := "8a3bd52e28af34178d63c2cad615b376d1c6ba2685a462aff40f93bb207cfdc3", func := "loop.example/g03300/laws.FnExactCanFlip", spec := "fnExactCanFlip", apart := false, narrowed := true }
def FnExactCanFlipUptoSaid : Prop := fnExactCanFlipUptoRow.holds Try.pinned (OpenSpec.upto fnExactCanFlipSpec)

/-- 'laws.FnExactFlipsOf', WHERE WHAT IT READS IS OF BULK AT MOST 1048576: true; the input reads as it did. -/
def fnExactFlipsOfUptoRow : OpenClaim := { program := "ytjlcphpabeamaaa", sum := "8a3bd52e28af34178d63c2cad615b376d1c6ba2685a462aff40f93bb207cfdc3", func := "loop.example/g03300/laws.FnExactFlipsOf", spec := "fnExactFlipsOf", apart := false, narrowed := true }
def FnExactFlipsOfUptoSaid : Prop := fnExactFlipsOfUptoRow.holds Try.pinned (OpenSpec.upto fnExactFlipsOfSpec)

/-- 'laws.FnExactFlipAt', WHERE WHAT IT READS IS OF BULK AT MOST 1048576: true; the input reads as it did. -/
def fnExactFlipAtUptoRow : OpenClaim := { program := "ytjlcphpabeamaaa", sum := "8a3bd52e28af34178d63c2cad615b376d1c6ba2685a462aff40f93bb207cfdc3", func := "loop.example/g03300/laws.FnExactFlipAt", spec := "fnExactFlipAt", apart := false, narrowed := true }
def FnExactFlipAtUptoSaid : Prop := fnExactFlipAtUptoRow.holds Try.pinned (OpenSpec.upto fnExactFlipAtSpec)

/-- 'laws.FnExactFlipAll', WHERE WHAT IT READS IS OF BULK AT MOST 1048576: true; the input reads as it did. -/
def fnExactFlipAllUptoRow : OpenClaim := { program := "ytjlcphpabeamaaa", sum := "8a3bd52e28af34178d63c2cad615b376d1c6ba2685a462aff40f93bb207cfdc3", func := "loop.example/g03300/laws.FnExactFlipAll", spec := "fnExactFlipAll", apart := false, narrowed := true }
def FnExactFlipAllUptoSaid : Prop := fnExactFlipAllUptoRow.holds Try.pinned (OpenSpec.upto fnExactFlipAllSpec)

/-- 'laws.FnExactSquareOk', WHERE WHAT IT READS IS OF BULK AT MOST 1048576: true; the input reads as it did. -/
def fnExactSquareOkUptoRow : OpenClaim := { program := "ytjlcphpabeamaaa", sum := "8a3bd52e28af34178d63c2cad615b376d1c6ba2685a462aff40f93bb207cfdc3", func := "loop.example/g03300/laws.FnExactSquareOk", spec := "fnExactSquareOk", apart := false, narrowed := true }
def FnExactSquareOkUptoSaid : Prop := fnExactSquareOkUptoRow.holds Try.pinned (OpenSpec.upto fnExactSquareOkSpec)

/-- 'laws.FnExactDeterminantOf', WHERE WHAT IT READS IS OF BULK AT MOST 1048576: true; the input reads as it did. -/
def fnExactDeterminantOfUptoRow : OpenClaim := { program := "ytjlcphpabeamaaa", sum := "8a3bd52e28af34178d63c2cad615b376d1c6ba2685a462aff40f93bb207cfdc3", func := "loop.example/g03300/laws.FnExactDeterminantOf", spec := "fnExactDeterminantOf", apart := false, narrowed := true }
def FnExactDeterminantOfUptoSaid : Prop := fnExactDeterminantOfUptoRow.holds Try.pinned (OpenSpec.upto fnExactDeterminantOfSpec)

end Rows
end Go.Proofs.Ytjlcphpabeamaaa
