/-
  DERIVED. GIVEN WITH THE SEED: THE CARDS: each row of YtehefologhfdhaaDoorRows.lean that lists a variable, with what it lists TIED to the program's text (the seventh form; the later family's looks); each row that meets fmt, with fmt's text TOLD by the authors' own Lean function (tested against real Go, not proved from fmt's source: count such statements apart). THE CARD IS WHAT COUNTS. Prove the row's statement (the work); the ties are given (YtehefologhfdhaaDoorTie.lean); close each card by the builder's one call (the guide's Derived/Test/ToyasCard.lean, 'card_holds'). Laid BY PROGRAM, IN A SANDBOX (cutbox-door.mjs). By AI agents, Wed Nov 11 2026. No macro, syntax, notation, axiom, sorry.
-/
import Derived.Test.YtehefologhfdhaaDoorRows
import GoSem.ClaimSeven
namespace Go.Proofs.YtehefologhfdhaaDoor
namespace Rows

/-- THE TIED CARD OF 'laws.FnExactFields'. -/
def fnExactFieldsCard : Claim7 := { stood := { row := fnExactFieldsRow, standIns := [], harness := (true, "cae955552473e63d0c970cd82a2098605e52f884fff3d1ce6f64d1af3fed1328"), looks := false }, kinds := [], alts := [], laidByText := true, laidKinds := [.data, .pinned], laidTests := true, laidLooks := .later }
def FnExactFieldsCardSaid : Prop := Claim7.holds Tryd.pinned (.plain (OpenSpec.ofChange fnExactFieldsSpec)) fnExactFieldsCard

/-- THE TIED CARD OF 'laws.FnFieldsJoin'. -/
def fnFieldsJoinCard : Claim7 := { stood := { row := fnFieldsJoinRow, standIns := [], harness := (true, "cae955552473e63d0c970cd82a2098605e52f884fff3d1ce6f64d1af3fed1328"), looks := false }, kinds := [], alts := [], laidByText := true, laidKinds := [.data, .pinned], laidTests := true, laidLooks := .later }
def FnFieldsJoinCardSaid : Prop := Claim7.holds Tryd.pinned (.plain (OpenSpec.ofChange fnFieldsJoinSpec)) fnFieldsJoinCard

/-- THE SECOND FORM's CARD OF 'laws.FnExactFields'. -/
def fnExactFieldsUptoCard : Claim7 := { stood := { row := fnExactFieldsUptoRow, standIns := [], harness := (true, "cae955552473e63d0c970cd82a2098605e52f884fff3d1ce6f64d1af3fed1328"), looks := false }, kinds := [], alts := [], laidByText := true, laidKinds := [.data, .pinned], laidTests := true, laidLooks := .later }
def FnExactFieldsUptoCardSaid : Prop := Claim7.holds Tryd.pinned (.plain (OpenSpec.upto fnExactFieldsSpec)) fnExactFieldsUptoCard

/-- THE SECOND FORM's CARD OF 'laws.FnFieldsJoin'. -/
def fnFieldsJoinUptoCard : Claim7 := { stood := { row := fnFieldsJoinUptoRow, standIns := [], harness := (true, "cae955552473e63d0c970cd82a2098605e52f884fff3d1ce6f64d1af3fed1328"), looks := false }, kinds := [], alts := [], laidByText := true, laidKinds := [.data, .pinned], laidTests := true, laidLooks := .later }
def FnFieldsJoinUptoCardSaid : Prop := Claim7.holds Tryd.pinned (.plain (OpenSpec.upto fnFieldsJoinSpec)) fnFieldsJoinUptoCard
end Rows
end Go.Proofs.YtehefologhfdhaaDoor
