/-
  DERIVED. GIVEN WITH THE SEED: THE CARDS: each row of YthgglepiopijjaaGreatDoorRows.lean that lists a variable, with what it lists TIED to the program's text (the seventh form; the later family's looks); each row that meets fmt, with fmt's text TOLD by the authors' own Lean function (tested against real Go, not proved from fmt's source: count such statements apart). THE CARD IS WHAT COUNTS. Prove the row's statement (the work); the ties are given (YthgglepiopijjaaGreatDoorTie.lean); close each card by the builder's one call (the guide's Derived/Test/ToyasCard.lean, 'card_holds'). Laid BY PROGRAM, IN A SANDBOX (cutbox-door.mjs). By AI agents, Wed Nov 11 2026. No macro, syntax, notation, axiom, sorry.
-/
import Derived.Test.YthgglepiopijjaaGreatDoorRows
import GoSem.ClaimSeven
namespace Go.Proofs.YthgglepiopijjaaGreatDoor
namespace Rows

/-- THE TIED CARD OF 'laws.FnExactWrite'. -/
def fnExactWriteCard : Claim7 := { stood := { row := fnExactWriteRow, standIns := [], harness := (true, "dc8055cccea7a4158299dff0bd0f9ae75a61775dc38d3ba629efe7c70c52fc33"), looks := false }, kinds := [], alts := [], laidByText := true, laidKinds := [.data, .data, .data, .data, .pinned], laidTests := true, laidLooks := .later }
def FnExactWriteCardSaid : Prop := Claim7.holds Tryz.pinned (.plain (OpenSpec.ofChange fnExactWriteSpec)) fnExactWriteCard

/-- THE SECOND FORM's CARD OF 'laws.FnExactWrite'. -/
def fnExactWriteUptoCard : Claim7 := { stood := { row := fnExactWriteUptoRow, standIns := [], harness := (true, "dc8055cccea7a4158299dff0bd0f9ae75a61775dc38d3ba629efe7c70c52fc33"), looks := false }, kinds := [], alts := [], laidByText := true, laidKinds := [.data, .data, .data, .data, .pinned], laidTests := true, laidLooks := .later }
def FnExactWriteUptoCardSaid : Prop := Claim7.holds Tryz.pinned (.plain (OpenSpec.upto fnExactWriteSpec)) fnExactWriteUptoCard
end Rows
end Go.Proofs.YthgglepiopijjaaGreatDoor
