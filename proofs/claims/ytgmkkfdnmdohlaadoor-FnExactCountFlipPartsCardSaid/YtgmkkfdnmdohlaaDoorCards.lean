/-
  DERIVED. GIVEN WITH THE SEED: THE CARDS: each row of YtgmkkfdnmdohlaaDoorRows.lean that lists a variable, with what it lists TIED to the program's text (the seventh form; the later family's looks); each row that meets fmt, with fmt's text TOLD by the authors' own Lean function (tested against real Go, not proved from fmt's source: count such statements apart). THE CARD IS WHAT COUNTS. Prove the row's statement (the work); the ties are given (YtgmkkfdnmdohlaaDoorTie.lean); close each card by the builder's one call (the guide's Derived/Test/ToyasCard.lean, 'card_holds'). Laid BY PROGRAM, IN A SANDBOX (cutbox-door.mjs). By AI agents, Wed Nov 11 2026. No macro, syntax, notation, axiom, sorry.
-/
import Derived.Test.YtgmkkfdnmdohlaaDoorRows
import GoSem.ClaimSeven
namespace Go.Proofs.YtgmkkfdnmdohlaaDoor
namespace Rows

/-- THE TIED CARD OF 'laws.FnExactCountFlipParts'. -/
def fnExactCountFlipPartsCard : Claim7 := { stood := { row := fnExactCountFlipPartsRow, standIns := [], harness := (true, "715961f51674854ebcd012f913e312b6aa677c32eb6609b6676b1a4acda8b773"), looks := false }, kinds := [], alts := [], laidByText := true, laidKinds := [.data, .data, .data], laidTests := true, laidLooks := .later }
def FnExactCountFlipPartsCardSaid : Prop := Claim7.holds Tryd.pinned (.plain (OpenSpec.ofChange fnExactCountFlipPartsSpec)) fnExactCountFlipPartsCard

/-- THE SECOND FORM's CARD OF 'laws.FnExactCountFlipParts'. -/
def fnExactCountFlipPartsUptoCard : Claim7 := { stood := { row := fnExactCountFlipPartsUptoRow, standIns := [], harness := (true, "715961f51674854ebcd012f913e312b6aa677c32eb6609b6676b1a4acda8b773"), looks := false }, kinds := [], alts := [], laidByText := true, laidKinds := [.data, .data, .data], laidTests := true, laidLooks := .later }
def FnExactCountFlipPartsUptoCardSaid : Prop := Claim7.holds Tryd.pinned (.plain (OpenSpec.upto fnExactCountFlipPartsSpec)) fnExactCountFlipPartsUptoCard
end Rows
end Go.Proofs.YtgmkkfdnmdohlaaDoor
