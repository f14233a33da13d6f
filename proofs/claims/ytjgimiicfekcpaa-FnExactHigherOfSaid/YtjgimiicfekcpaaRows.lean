/-
  No cell of these rows narrows 'for every input' (looked for: loops, veiled, ifaces, maps, wideKeys, modest, calm, conditions, laid).
  DERIVED. THE GIVEN ROWS OF THIS SEAT. 3 by the template 'for every input the law returns true; each argument reads behind the call as it read before'; 0 by the template 'total and deterministic' (their statements: YtjgimiicfekcpaaTotals.lean).
  GIVEN WITH THE SEED: the statements are not yours to turn. If you find one false, say at which input.
  Laid BY PROGRAM, IN A SANDBOX (cutbox-rows.mjs): the forced cells as the released guide's own fill.sh prints them over the translation 5d25988997ae4156… (all of the seat's roots in one cut). By AI agents, Wed Nov 11 2026. No macro, syntax, notation, axiom, sorry.
-/
import Derived.Test.YtjgimiicfekcpaaChecked
import GoSem.Claim
import GoSem.ClaimJoined
import GoSem.ClaimMapViews
import Derived.JoinedTies
import Derived.KernelRfl
namespace Go.Proofs.Ytjgimiicfekcpaa
/- THE CELL 'sum', in the pinned program and in every row, IS THE sha256 OF THE DUMP (.gsa) THAT YtjgimiicfekcpaaProg.lean LOADS. Nothing in Lean hashes anything: it is a label: what it is worth is what the hold of that sum in a sandbox is worth. -/
noncomputable def Try.pinned : Pinned := { name := "ytjgimiicfekcpaa", sum := "5d25988997ae4156e6d93b314cefbe5e4951f89638e7e57ccc7ac93923c768fe", checked := Try.checked }
namespace Rows
def none {H : Type} : Left H := { results := [], args := [] }

/-- 'laws.FnExactTilingFrom': WHATEVER THE INPUT: true; the input reads as it did. -/
def fnExactTilingFromSpec : ChangeSpec := { name := "fnExactTilingFrom", fn := fun _ => fun
  | [d1, d2] => { results := [.lit (.bool true)], args := [d1, d2] }
  | _ => none }
def fnExactTilingFromRow : OpenClaim := { program := "ytjgimiicfekcpaa", sum := "5d25988997ae4156e6d93b314cefbe5e4951f89638e7e57ccc7ac93923c768fe", func := "loop.example/g03300/laws.FnExactTilingFrom", spec := "fnExactTilingFrom", unfollowed := true, recurses := true, apart := false }
def FnExactTilingFromSaid : Prop := fnExactTilingFromRow.holds Try.pinned (OpenSpec.ofChange fnExactTilingFromSpec)

/-- ITS FALSE NEIGHBOUR: 'it returns false'. Refute it at one input. -/
def fnExactTilingFromWrong : ChangeSpec := { name := "fnExactTilingFrom", fn := fun _ => fun
  | [d1, d2] => { results := [.lit (.bool false)], args := [d1, d2] }
  | _ => none }
def FnExactTilingFromWrongFalsely : Prop := fnExactTilingFromRow.holds Try.pinned (OpenSpec.ofChange fnExactTilingFromWrong)

/-- 'laws.FnExactHigherOf': WHATEVER THE INPUT: true; the input reads as it did. -/
def fnExactHigherOfSpec : ChangeSpec := { name := "fnExactHigherOf", fn := fun _ => fun
  | [d1, d2, d3] => { results := [.lit (.bool true)], args := [d1, d2, d3] }
  | _ => none }
def fnExactHigherOfRow : OpenClaim := { program := "ytjgimiicfekcpaa", sum := "5d25988997ae4156e6d93b314cefbe5e4951f89638e7e57ccc7ac93923c768fe", func := "loop.example/g03300/laws.FnExactHigherOf", spec := "fnExactHigherOf", unfollowed := true, recurses := true, apart := false }
def FnExactHigherOfSaid : Prop := fnExactHigherOfRow.holds Try.pinned (OpenSpec.ofChange fnExactHigherOfSpec)

/-- ITS FALSE NEIGHBOUR: 'it returns false'. Refute it at one input. -/
def fnExactHigherOfWrong : ChangeSpec := { name := "fnExactHigherOf", fn := fun _ => fun
  | [d1, d2, d3] => { results := [.lit (.bool false)], args := [d1, d2, d3] }
  | _ => none }
def FnExactHigherOfWrongFalsely : Prop := fnExactHigherOfRow.holds Try.pinned (OpenSpec.ofChange fnExactHigherOfWrong)

/-- 'laws.FnExactLowerOf': WHATEVER THE INPUT: true; the input reads as it did. -/
def fnExactLowerOfSpec : ChangeSpec := { name := "fnExactLowerOf", fn := fun _ => fun
  | [d1, d2, d3] => { results := [.lit (.bool true)], args := [d1, d2, d3] }
  | _ => none }
def fnExactLowerOfRow : OpenClaim := { program := "ytjgimiicfekcpaa", sum := "5d25988997ae4156e6d93b314cefbe5e4951f89638e7e57ccc7ac93923c768fe", func := "loop.example/g03300/laws.FnExactLowerOf", spec := "fnExactLowerOf", unfollowed := true, recurses := true, apart := false }
def FnExactLowerOfSaid : Prop := fnExactLowerOfRow.holds Try.pinned (OpenSpec.ofChange fnExactLowerOfSpec)

/-- ITS FALSE NEIGHBOUR: 'it returns false'. Refute it at one input. -/
def fnExactLowerOfWrong : ChangeSpec := { name := "fnExactLowerOf", fn := fun _ => fun
  | [d1, d2, d3] => { results := [.lit (.bool false)], args := [d1, d2, d3] }
  | _ => none }
def FnExactLowerOfWrongFalsely : Prop := fnExactLowerOfRow.holds Try.pinned (OpenSpec.ofChange fnExactLowerOfWrong)

/- THE SECOND FORM. 'bulk': how many values and letters a reading holds, each counted each time it is reached (what is shared counts as often as it is met; a slice's spare places count too). A statement '..UptoSaid' is the law's where the arguments, and the package variables that the reading takes, are together of bulk at most 1048576: NARROWER than '..Said'. Prove '..Said' where nothing that the law and all that it calls make is longer than what came in: it says more and counts as full. Else prove '..UptoSaid'. A law counts once. -/
mutual
def uptoBulk {H : Type} : DataW H → Nat
  | .lit (.string bytes) => bytes.length + 1
  | .lit _ => 1
  | .nil => 1
  | .ptr d => uptoBulk d + 1
  | .slice elems spare => uptoBulkAll elems + uptoBulkAll spare + 1
  | .agg parts => uptoBulkAll parts + 1
  | .iface _ d => uptoBulk d + 1
  | .map entries => uptoBulkEntries entries + 1
  | .held _ => 1
def uptoBulkAll {H : Type} : List (DataW H) → Nat
  | [] => 0
  | d :: r => uptoBulk d + uptoBulkAll r
def uptoBulkEntries {H : Type} : List (Lit × DataW H) → Nat
  | [] => 0
  | x :: r => uptoBulkEntry x + uptoBulkEntries r
def uptoBulkEntry {H : Type} : Lit × DataW H → Nat
  | (.string bytes, d) => bytes.length + uptoBulk d + 1
  | (_, d) => uptoBulk d + 1
 end
def uptoSmall : (H : Type) → List (DataW H) → Bool := fun _ ds => decide (uptoBulkAll ds ≤ 1048576)
def OpenSpec.upto (s : _root_.Go.ChangeSpec) : _root_.Go.OpenSpec := { _root_.Go.OpenSpec.ofChange s with cond := some uptoSmall }

/-- 'laws.FnExactTilingFrom', WHERE WHAT IT READS IS OF BULK AT MOST 1048576: true; the input reads as it did. -/
def fnExactTilingFromUptoRow : OpenClaim := { program := "ytjgimiicfekcpaa", sum := "5d25988997ae4156e6d93b314cefbe5e4951f89638e7e57ccc7ac93923c768fe", func := "loop.example/g03300/laws.FnExactTilingFrom", spec := "fnExactTilingFrom", unfollowed := true, recurses := true, apart := false, narrowed := true }
def FnExactTilingFromUptoSaid : Prop := fnExactTilingFromUptoRow.holds Try.pinned (OpenSpec.upto fnExactTilingFromSpec)

/-- 'laws.FnExactHigherOf', WHERE WHAT IT READS IS OF BULK AT MOST 1048576: true; the input reads as it did. -/
def fnExactHigherOfUptoRow : OpenClaim := { program := "ytjgimiicfekcpaa", sum := "5d25988997ae4156e6d93b314cefbe5e4951f89638e7e57ccc7ac93923c768fe", func := "loop.example/g03300/laws.FnExactHigherOf", spec := "fnExactHigherOf", unfollowed := true, recurses := true, apart := false, narrowed := true }
def FnExactHigherOfUptoSaid : Prop := fnExactHigherOfUptoRow.holds Try.pinned (OpenSpec.upto fnExactHigherOfSpec)

/-- 'laws.FnExactLowerOf', WHERE WHAT IT READS IS OF BULK AT MOST 1048576: true; the input reads as it did. -/
def fnExactLowerOfUptoRow : OpenClaim := { program := "ytjgimiicfekcpaa", sum := "5d25988997ae4156e6d93b314cefbe5e4951f89638e7e57ccc7ac93923c768fe", func := "loop.example/g03300/laws.FnExactLowerOf", spec := "fnExactLowerOf", unfollowed := true, recurses := true, apart := false, narrowed := true }
def FnExactLowerOfUptoSaid : Prop := fnExactLowerOfUptoRow.holds Try.pinned (OpenSpec.upto fnExactLowerOfSpec)

end Rows
end Go.Proofs.Ytjgimiicfekcpaa
