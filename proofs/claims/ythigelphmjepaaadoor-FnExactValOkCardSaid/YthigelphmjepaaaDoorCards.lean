/-
  DERIVED. GIVEN WITH THE SEED: THE CARDS: each row of YthigelphmjepaaaDoorRows.lean that lists a variable, with what it lists TIED to the program's text (the seventh form; the later family's looks); each row that meets fmt, with fmt's text TOLD by the authors' own Lean function (tested against real Go, not proved from fmt's source: count such statements apart). THE CARD IS WHAT COUNTS. Prove the row's statement (the work); the ties are given (YthigelphmjepaaaDoorTie.lean); close each card by the builder's one call (the guide's Derived/Test/ToyasCard.lean, 'card_holds'). Laid BY PROGRAM, IN A SANDBOX (cutbox-door.mjs). By AI agents, Wed Nov 11 2026. No macro, syntax, notation, axiom, sorry.
-/
import Derived.Test.YthigelphmjepaaaDoorRows
import GoSem.ClaimSeven
namespace Go.Proofs.YthigelphmjepaaaDoor
namespace Rows

/-- THE TIED CARD OF 'laws.FnExactDecText'. -/
def fnExactDecTextCard : Claim7 := { stood := { row := fnExactDecTextRow, standIns := [], harness := (true, "f97ada2b300b7cb8f5615e84fd574cb51fe6dc60b5d44d38fcff4861beff245c"), looks := true }, kinds := [], alts := [], laidByText := true, laidKinds := [.data, .data, .data, .data, .pinned], laidTests := true, laidLooks := .later }
def FnExactDecTextCardSaid : Prop := Claim7.holds Tryd.pinned (.plain (OpenSpec.ofChange fnExactDecTextSpec)) fnExactDecTextCard

/-- THE TIED CARD OF 'laws.FnExactToText'. -/
def fnExactToTextCard : Claim7 := { stood := { row := fnExactToTextRow, standIns := [], harness := (true, "f97ada2b300b7cb8f5615e84fd574cb51fe6dc60b5d44d38fcff4861beff245c"), looks := true }, kinds := [], alts := [], laidByText := true, laidKinds := [.data, .data, .data, .data, .pinned], laidTests := true, laidLooks := .later }
def FnExactToTextCardSaid : Prop := Claim7.holds Tryd.pinned (.plain (OpenSpec.ofChange fnExactToTextSpec)) fnExactToTextCard

/-- THE TIED CARD OF 'laws.FnExactOpText'. -/
def fnExactOpTextCard : Claim7 := { stood := { row := fnExactOpTextRow, standIns := [], harness := (true, "f97ada2b300b7cb8f5615e84fd574cb51fe6dc60b5d44d38fcff4861beff245c"), looks := true }, kinds := [], alts := [], laidByText := true, laidKinds := [.data, .data, .data, .data, .pinned], laidTests := true, laidLooks := .later }
def FnExactOpTextCardSaid : Prop := Claim7.holds Tryd.pinned (.plain (OpenSpec.ofChange fnExactOpTextSpec)) fnExactOpTextCard

/-- THE TIED CARD OF 'laws.FnExactDecFront'. -/
def fnExactDecFrontCard : Claim7 := { stood := { row := fnExactDecFrontRow, standIns := [], harness := (true, "f97ada2b300b7cb8f5615e84fd574cb51fe6dc60b5d44d38fcff4861beff245c"), looks := true }, kinds := [], alts := [], laidByText := true, laidKinds := [.data, .data, .data, .data, .sentinel, .sentinel, .pinned], laidTests := true, laidLooks := .later }
def FnExactDecFrontCardSaid : Prop := Claim7.holds Tryd.pinned (.plain (OpenSpec.ofChange fnExactDecFrontSpec)) fnExactDecFrontCard

/-- THE TIED CARD OF 'laws.FnExactToNum'. -/
def fnExactToNumCard : Claim7 := { stood := { row := fnExactToNumRow, standIns := [], harness := (true, "f97ada2b300b7cb8f5615e84fd574cb51fe6dc60b5d44d38fcff4861beff245c"), looks := true }, kinds := [], alts := [], laidByText := true, laidKinds := [.data, .data, .data, .data, .sentinel, .sentinel, .pinned], laidTests := true, laidLooks := .later }
def FnExactToNumCardSaid : Prop := Claim7.holds Tryd.pinned (.plain (OpenSpec.ofChange fnExactToNumSpec)) fnExactToNumCard

/-- THE TIED CARD OF 'laws.FnExactDecLooks'. -/
def fnExactDecLooksCard : Claim7 := { stood := { row := fnExactDecLooksRow, standIns := [], harness := (true, "f97ada2b300b7cb8f5615e84fd574cb51fe6dc60b5d44d38fcff4861beff245c"), looks := true }, kinds := [], alts := [], laidByText := true, laidKinds := [.data, .data, .data, .data, .sentinel, .sentinel, .pinned], laidTests := true, laidLooks := .later }
def FnExactDecLooksCardSaid : Prop := Claim7.holds Tryd.pinned (.plain (OpenSpec.ofChange fnExactDecLooksSpec)) fnExactDecLooksCard

/-- THE TIED CARD OF 'laws.FnExactValOk'. -/
def fnExactValOkCard : Claim7 := { stood := { row := fnExactValOkRow, standIns := [], harness := (true, "f97ada2b300b7cb8f5615e84fd574cb51fe6dc60b5d44d38fcff4861beff245c"), looks := true }, kinds := [], alts := [], laidByText := true, laidKinds := [.data, .data, .data, .data, .sentinel, .sentinel, .pinned], laidTests := true, laidLooks := .later }
def FnExactValOkCardSaid : Prop := Claim7.holds Tryd.pinned (.plain (OpenSpec.ofChange fnExactValOkSpec)) fnExactValOkCard

/-- THE SECOND FORM's CARD OF 'laws.FnExactDecText'. -/
def fnExactDecTextUptoCard : Claim7 := { stood := { row := fnExactDecTextUptoRow, standIns := [], harness := (true, "f97ada2b300b7cb8f5615e84fd574cb51fe6dc60b5d44d38fcff4861beff245c"), looks := true }, kinds := [], alts := [], laidByText := true, laidKinds := [.data, .data, .data, .data, .pinned], laidTests := true, laidLooks := .later }
def FnExactDecTextUptoCardSaid : Prop := Claim7.holds Tryd.pinned (.plain (OpenSpec.upto fnExactDecTextSpec)) fnExactDecTextUptoCard

/-- THE SECOND FORM's CARD OF 'laws.FnExactToText'. -/
def fnExactToTextUptoCard : Claim7 := { stood := { row := fnExactToTextUptoRow, standIns := [], harness := (true, "f97ada2b300b7cb8f5615e84fd574cb51fe6dc60b5d44d38fcff4861beff245c"), looks := true }, kinds := [], alts := [], laidByText := true, laidKinds := [.data, .data, .data, .data, .pinned], laidTests := true, laidLooks := .later }
def FnExactToTextUptoCardSaid : Prop := Claim7.holds Tryd.pinned (.plain (OpenSpec.upto fnExactToTextSpec)) fnExactToTextUptoCard

/-- THE SECOND FORM's CARD OF 'laws.FnExactOpText'. -/
def fnExactOpTextUptoCard : Claim7 := { stood := { row := fnExactOpTextUptoRow, standIns := [], harness := (true, "f97ada2b300b7cb8f5615e84fd574cb51fe6dc60b5d44d38fcff4861beff245c"), looks := true }, kinds := [], alts := [], laidByText := true, laidKinds := [.data, .data, .data, .data, .pinned], laidTests := true, laidLooks := .later }
def FnExactOpTextUptoCardSaid : Prop := Claim7.holds Tryd.pinned (.plain (OpenSpec.upto fnExactOpTextSpec)) fnExactOpTextUptoCard

/-- THE SECOND FORM's CARD OF 'laws.FnExactDecFront'. -/
def fnExactDecFrontUptoCard : Claim7 := { stood := { row := fnExactDecFrontUptoRow, standIns := [], harness := (true, "f97ada2b300b7cb8f5615e84fd574cb51fe6dc60b5d44d38fcff4861beff245c"), looks := true }, kinds := [], alts := [], laidByText := true, laidKinds := [.data, .data, .data, .data, .sentinel, .sentinel, .pinned], laidTests := true, laidLooks := .later }
def FnExactDecFrontUptoCardSaid : Prop := Claim7.holds Tryd.pinned (.plain (OpenSpec.upto fnExactDecFrontSpec)) fnExactDecFrontUptoCard

/-- THE SECOND FORM's CARD OF 'laws.FnExactToNum'. -/
def fnExactToNumUptoCard : Claim7 := { stood := { row := fnExactToNumUptoRow, standIns := [], harness := (true, "f97ada2b300b7cb8f5615e84fd574cb51fe6dc60b5d44d38fcff4861beff245c"), looks := true }, kinds := [], alts := [], laidByText := true, laidKinds := [.data, .data, .data, .data, .sentinel, .sentinel, .pinned], laidTests := true, laidLooks := .later }
def FnExactToNumUptoCardSaid : Prop := Claim7.holds Tryd.pinned (.plain (OpenSpec.upto fnExactToNumSpec)) fnExactToNumUptoCard

/-- THE SECOND FORM's CARD OF 'laws.FnExactDecLooks'. -/
def fnExactDecLooksUptoCard : Claim7 := { stood := { row := fnExactDecLooksUptoRow, standIns := [], harness := (true, "f97ada2b300b7cb8f5615e84fd574cb51fe6dc60b5d44d38fcff4861beff245c"), looks := true }, kinds := [], alts := [], laidByText := true, laidKinds := [.data, .data, .data, .data, .sentinel, .sentinel, .pinned], laidTests := true, laidLooks := .later }
def FnExactDecLooksUptoCardSaid : Prop := Claim7.holds Tryd.pinned (.plain (OpenSpec.upto fnExactDecLooksSpec)) fnExactDecLooksUptoCard

/-- THE SECOND FORM's CARD OF 'laws.FnExactValOk'. -/
def fnExactValOkUptoCard : Claim7 := { stood := { row := fnExactValOkUptoRow, standIns := [], harness := (true, "f97ada2b300b7cb8f5615e84fd574cb51fe6dc60b5d44d38fcff4861beff245c"), looks := true }, kinds := [], alts := [], laidByText := true, laidKinds := [.data, .data, .data, .data, .sentinel, .sentinel, .pinned], laidTests := true, laidLooks := .later }
def FnExactValOkUptoCardSaid : Prop := Claim7.holds Tryd.pinned (.plain (OpenSpec.upto fnExactValOkSpec)) fnExactValOkUptoCard
end Rows
end Go.Proofs.YthigelphmjepaaaDoor
