/-
  DERIVED. GIVEN WITH THE SEED: THE CARDS: each row of YtdpioibndfpjfaaGreatDoorRows.lean that lists a variable, with what it lists TIED to the program's text (the seventh form; the later family's looks); each row that meets fmt, with fmt's text TOLD by the authors' own Lean function (tested against real Go, not proved from fmt's source: count such statements apart). THE CARD IS WHAT COUNTS. Prove the row's statement (the work); the ties are given (YtdpioibndfpjfaaGreatDoorTie.lean); close each card by the builder's one call (the guide's Derived/Test/ToyasCard.lean, 'card_holds'). Laid BY PROGRAM, IN A SANDBOX (cutbox-door.mjs). By AI agents, Wed Nov 11 2026. No macro, syntax, notation, axiom, sorry.
-/
import Derived.Test.YtdpioibndfpjfaaGreatDoorRows
import GoSem.ClaimSeven
namespace Go.Proofs.YtdpioibndfpjfaaGreatDoor
namespace Rows

/-- THE TIED CARD OF 'laws.FnExactMachOk'. -/
def fnExactMachOkCard : Claim7 := { stood := { row := fnExactMachOkRow, standIns := [], harness := (true, "cd9d92762ecd62603b1d5324db741127ff194625e2cfb555f557716f7a1cb0ef"), looks := true }, kinds := [], alts := [], laidByText := true, laidKinds := [.data, .data, .data, .data, .sentinel, .sentinel, .pinned], laidTests := true, laidLooks := .later }
def FnExactMachOkCardSaid : Prop := Claim7.holds Tryz.pinned (.plain (OpenSpec.ofChange fnExactMachOkSpec)) fnExactMachOkCard

/-- THE SECOND FORM's CARD OF 'laws.FnExactMachOk'. -/
def fnExactMachOkUptoCard : Claim7 := { stood := { row := fnExactMachOkUptoRow, standIns := [], harness := (true, "cd9d92762ecd62603b1d5324db741127ff194625e2cfb555f557716f7a1cb0ef"), looks := true }, kinds := [], alts := [], laidByText := true, laidKinds := [.data, .data, .data, .data, .sentinel, .sentinel, .pinned], laidTests := true, laidLooks := .later }
def FnExactMachOkUptoCardSaid : Prop := Claim7.holds Tryz.pinned (.plain (OpenSpec.upto fnExactMachOkSpec)) fnExactMachOkUptoCard
end Rows
end Go.Proofs.YtdpioibndfpjfaaGreatDoor
