/-
  DERIVED. GIVEN WITH THE SEED: THE CARDS: each row of YtgmkkfdnmdohlaaGreatDoorRows.lean that lists a variable, with what it lists TIED to the program's text (the seventh form; the later family's looks); each row that meets fmt, with fmt's text TOLD by the authors' own Lean function (tested against real Go, not proved from fmt's source: count such statements apart). THE CARD IS WHAT COUNTS. Prove the row's statement (the work); the ties are given (YtgmkkfdnmdohlaaGreatDoorTie.lean); close each card by the builder's one call (the guide's Derived/Test/ToyasCard.lean, 'card_holds'). Laid BY PROGRAM, IN A SANDBOX (cutbox-door.mjs). By AI agents, Wed Nov 11 2026. No macro, syntax, notation, axiom, sorry.
-/
import Derived.Test.YtgmkkfdnmdohlaaGreatDoorRows
import GoSem.ClaimSeven
namespace Go.Proofs.YtgmkkfdnmdohlaaGreatDoor
namespace Rows

/-- THE TIED CARD OF 'laws.FnExactFlipDistance'. -/
def fnExactFlipDistanceCard : Claim7 := { stood := { row := fnExactFlipDistanceRow, standIns := [], harness := (true, "6a15b54c4603af23bf664badfe3d6af53d128e67549529ef2b2d6bf1e069bddc"), looks := false }, kinds := [], alts := [], laidByText := true, laidKinds := [.data, .data, .data], laidTests := true, laidLooks := .later }
def FnExactFlipDistanceCardSaid : Prop := Claim7.holds Tryz.pinned (.plain (OpenSpec.ofChange fnExactFlipDistanceSpec)) fnExactFlipDistanceCard

/-- THE TIED CARD OF 'laws.FnExactFlipWay'. -/
def fnExactFlipWayCard : Claim7 := { stood := { row := fnExactFlipWayRow, standIns := [], harness := (true, "6a15b54c4603af23bf664badfe3d6af53d128e67549529ef2b2d6bf1e069bddc"), looks := false }, kinds := [], alts := [], laidByText := true, laidKinds := [.data, .data, .data], laidTests := true, laidLooks := .later }
def FnExactFlipWayCardSaid : Prop := Claim7.holds Tryz.pinned (.plain (OpenSpec.ofChange fnExactFlipWaySpec)) fnExactFlipWayCard

/-- THE TIED CARD OF 'laws.FnWays'. -/
def fnWaysCard : Claim7 := { stood := { row := fnWaysRow, standIns := [], harness := (true, "6a15b54c4603af23bf664badfe3d6af53d128e67549529ef2b2d6bf1e069bddc"), looks := false }, kinds := [], alts := [], laidByText := true, laidKinds := [.data, .data, .data], laidTests := true, laidLooks := .later }
def FnWaysCardSaid : Prop := Claim7.holds Tryz.pinned (.plain (OpenSpec.ofChange fnWaysSpec)) fnWaysCard

/-- THE SECOND FORM's CARD OF 'laws.FnExactFlipDistance'. -/
def fnExactFlipDistanceUptoCard : Claim7 := { stood := { row := fnExactFlipDistanceUptoRow, standIns := [], harness := (true, "6a15b54c4603af23bf664badfe3d6af53d128e67549529ef2b2d6bf1e069bddc"), looks := false }, kinds := [], alts := [], laidByText := true, laidKinds := [.data, .data, .data], laidTests := true, laidLooks := .later }
def FnExactFlipDistanceUptoCardSaid : Prop := Claim7.holds Tryz.pinned (.plain (OpenSpec.upto fnExactFlipDistanceSpec)) fnExactFlipDistanceUptoCard

/-- THE SECOND FORM's CARD OF 'laws.FnExactFlipWay'. -/
def fnExactFlipWayUptoCard : Claim7 := { stood := { row := fnExactFlipWayUptoRow, standIns := [], harness := (true, "6a15b54c4603af23bf664badfe3d6af53d128e67549529ef2b2d6bf1e069bddc"), looks := false }, kinds := [], alts := [], laidByText := true, laidKinds := [.data, .data, .data], laidTests := true, laidLooks := .later }
def FnExactFlipWayUptoCardSaid : Prop := Claim7.holds Tryz.pinned (.plain (OpenSpec.upto fnExactFlipWaySpec)) fnExactFlipWayUptoCard

/-- THE SECOND FORM's CARD OF 'laws.FnWays'. -/
def fnWaysUptoCard : Claim7 := { stood := { row := fnWaysUptoRow, standIns := [], harness := (true, "6a15b54c4603af23bf664badfe3d6af53d128e67549529ef2b2d6bf1e069bddc"), looks := false }, kinds := [], alts := [], laidByText := true, laidKinds := [.data, .data, .data], laidTests := true, laidLooks := .later }
def FnWaysUptoCardSaid : Prop := Claim7.holds Tryz.pinned (.plain (OpenSpec.upto fnWaysSpec)) fnWaysUptoCard
end Rows
end Go.Proofs.YtgmkkfdnmdohlaaGreatDoor
