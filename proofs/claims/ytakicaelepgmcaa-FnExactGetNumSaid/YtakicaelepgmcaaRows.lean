/-
  NARROWER THAN 'FOR EVERY INPUT', by the rows' own cells (each row's printed sentence says how): FnExactDeep: loops.
  DERIVED. THE GIVEN ROWS OF THIS SEAT. 12 by the template 'for every input the law returns true; each argument reads behind the call as it read before'; 0 by the template 'total and deterministic' (their statements: YtakicaelepgmcaaTotals.lean).
  GIVEN WITH THE SEED: the statements are not yours to turn. If you find one false, say at which input.
  Laid BY PROGRAM, IN A SANDBOX (cutbox-rows.mjs): the forced cells as the released guide's own fill.sh prints them over the translation 8827c2529b63e85e… (all of the seat's roots in one cut). By AI agents, Wed Nov 11 2026. No macro, syntax, notation, axiom, sorry.
-/
import Derived.Test.YtakicaelepgmcaaChecked
import GoSem.Claim
import GoSem.ClaimJoined
import GoSem.ClaimMapViews
import Derived.JoinedTies
import Derived.KernelRfl
namespace Go.Proofs.Ytakicaelepgmcaa
/- THE CELL 'sum', in the pinned program and in every row, IS THE sha256 OF THE DUMP (.gsa) THAT YtakicaelepgmcaaProg.lean LOADS. Nothing in Lean hashes anything: it is a label: what it is worth is what the hold of that sum in a sandbox is worth. -/
noncomputable def Try.pinned : Pinned := { name := "ytakicaelepgmcaa", sum := "8827c2529b63e85efb52ae1967c092b69bd1c6a2449d0b24d7c0d4d13b31b23e", checked := Try.checked }
namespace Rows
def none {H : Type} : Left H := { results := [], args := [] }

/-- 'laws.FnExactConstants': WHATEVER THE INPUT: true; the input reads as it did. -/
def fnExactConstantsSpec : ChangeSpec := { name := "fnExactConstants", fn := fun _ => fun
  | [] => { results := [.lit (.bool true)], args := [] }
  | _ => none }
def fnExactConstantsRow : OpenClaim := { program := "ytakicaelepgmcaa", sum := "8827c2529b63e85efb52ae1967c092b69bd1c6a2449d0b24d7c0d4d13b31b23e", func := "loop.example/g00289/laws.FnExactConstants", spec := "fnExactConstants", apart := false }
def FnExactConstantsSaid : Prop := fnExactConstantsRow.holds Try.pinned (OpenSpec.ofChange fnExactConstantsSpec)

/-- ITS FALSE NEIGHBOUR: 'it returns false'. Refute it at one input. -/
def fnExactConstantsWrong : ChangeSpec := { name := "fnExactConstants", fn := fun _ => fun
  | [] => { results := [.lit (.bool false)], args := [] }
  | _ => none }
def FnExactConstantsWrongFalsely : Prop := fnExactConstantsRow.holds Try.pinned (OpenSpec.ofChange fnExactConstantsWrong)

/-- 'laws.FnExactDecInt': WHATEVER THE INPUT: true; the input reads as it did. -/
def fnExactDecIntSpec : ChangeSpec := { name := "fnExactDecInt", fn := fun _ => fun
  | [d] => { results := [.lit (.bool true)], args := [d] }
  | _ => none }
def fnExactDecIntRow : OpenClaim := { program := "ytakicaelepgmcaa", sum := "8827c2529b63e85efb52ae1967c092b69bd1c6a2449d0b24d7c0d4d13b31b23e", func := "loop.example/g00289/laws.FnExactDecInt", spec := "fnExactDecInt", apart := false }
def FnExactDecIntSaid : Prop := fnExactDecIntRow.holds Try.pinned (OpenSpec.ofChange fnExactDecIntSpec)

/-- ITS FALSE NEIGHBOUR: 'it returns false'. Refute it at one input. -/
def fnExactDecIntWrong : ChangeSpec := { name := "fnExactDecInt", fn := fun _ => fun
  | [d] => { results := [.lit (.bool false)], args := [d] }
  | _ => none }
def FnExactDecIntWrongFalsely : Prop := fnExactDecIntRow.holds Try.pinned (OpenSpec.ofChange fnExactDecIntWrong)

/-- 'laws.FnExactDecOk': WHATEVER THE INPUT: true; the input reads as it did. -/
def fnExactDecOkSpec : ChangeSpec := { name := "fnExactDecOk", fn := fun _ => fun
  | [d] => { results := [.lit (.bool true)], args := [d] }
  | _ => none }
def fnExactDecOkRow : OpenClaim := { program := "ytakicaelepgmcaa", sum := "8827c2529b63e85efb52ae1967c092b69bd1c6a2449d0b24d7c0d4d13b31b23e", func := "loop.example/g00289/laws.FnExactDecOk", spec := "fnExactDecOk", apart := false }
def FnExactDecOkSaid : Prop := fnExactDecOkRow.holds Try.pinned (OpenSpec.ofChange fnExactDecOkSpec)

/-- ITS FALSE NEIGHBOUR: 'it returns false'. Refute it at one input. -/
def fnExactDecOkWrong : ChangeSpec := { name := "fnExactDecOk", fn := fun _ => fun
  | [d] => { results := [.lit (.bool false)], args := [d] }
  | _ => none }
def FnExactDecOkWrongFalsely : Prop := fnExactDecOkRow.holds Try.pinned (OpenSpec.ofChange fnExactDecOkWrong)

/-- 'laws.FnExactDecAdd': WHATEVER THE INPUT: true; the input reads as it did. -/
def fnExactDecAddSpec : ChangeSpec := { name := "fnExactDecAdd", fn := fun _ => fun
  | [d1, d2] => { results := [.lit (.bool true)], args := [d1, d2] }
  | _ => none }
def fnExactDecAddRow : OpenClaim := { program := "ytakicaelepgmcaa", sum := "8827c2529b63e85efb52ae1967c092b69bd1c6a2449d0b24d7c0d4d13b31b23e", func := "loop.example/g00289/laws.FnExactDecAdd", spec := "fnExactDecAdd", apart := false }
def FnExactDecAddSaid : Prop := fnExactDecAddRow.holds Try.pinned (OpenSpec.ofChange fnExactDecAddSpec)

/-- ITS FALSE NEIGHBOUR: 'it returns false'. Refute it at one input. -/
def fnExactDecAddWrong : ChangeSpec := { name := "fnExactDecAdd", fn := fun _ => fun
  | [d1, d2] => { results := [.lit (.bool false)], args := [d1, d2] }
  | _ => none }
def FnExactDecAddWrongFalsely : Prop := fnExactDecAddRow.holds Try.pinned (OpenSpec.ofChange fnExactDecAddWrong)

/-- 'laws.FnExactDecDiv': WHATEVER THE INPUT: true; the input reads as it did. -/
def fnExactDecDivSpec : ChangeSpec := { name := "fnExactDecDiv", fn := fun _ => fun
  | [d1, d2] => { results := [.lit (.bool true)], args := [d1, d2] }
  | _ => none }
def fnExactDecDivRow : OpenClaim := { program := "ytakicaelepgmcaa", sum := "8827c2529b63e85efb52ae1967c092b69bd1c6a2449d0b24d7c0d4d13b31b23e", func := "loop.example/g00289/laws.FnExactDecDiv", spec := "fnExactDecDiv", apart := false }
def FnExactDecDivSaid : Prop := fnExactDecDivRow.holds Try.pinned (OpenSpec.ofChange fnExactDecDivSpec)

/-- ITS FALSE NEIGHBOUR: 'it returns false'. Refute it at one input. -/
def fnExactDecDivWrong : ChangeSpec := { name := "fnExactDecDiv", fn := fun _ => fun
  | [d1, d2] => { results := [.lit (.bool false)], args := [d1, d2] }
  | _ => none }
def FnExactDecDivWrongFalsely : Prop := fnExactDecDivRow.holds Try.pinned (OpenSpec.ofChange fnExactDecDivWrong)

/-- 'laws.FnExactDecSub': WHATEVER THE INPUT: true; the input reads as it did. -/
def fnExactDecSubSpec : ChangeSpec := { name := "fnExactDecSub", fn := fun _ => fun
  | [d1, d2] => { results := [.lit (.bool true)], args := [d1, d2] }
  | _ => none }
def fnExactDecSubRow : OpenClaim := { program := "ytakicaelepgmcaa", sum := "8827c2529b63e85efb52ae1967c092b69bd1c6a2449d0b24d7c0d4d13b31b23e", func := "loop.example/g00289/laws.FnExactDecSub", spec := "fnExactDecSub", apart := false }
def FnExactDecSubSaid : Prop := fnExactDecSubRow.holds Try.pinned (OpenSpec.ofChange fnExactDecSubSpec)

/-- ITS FALSE NEIGHBOUR: 'it returns false'. Refute it at one input. -/
def fnExactDecSubWrong : ChangeSpec := { name := "fnExactDecSub", fn := fun _ => fun
  | [d1, d2] => { results := [.lit (.bool false)], args := [d1, d2] }
  | _ => none }
def FnExactDecSubWrongFalsely : Prop := fnExactDecSubRow.holds Try.pinned (OpenSpec.ofChange fnExactDecSubWrong)

/-- 'laws.FnExactKeyword': WHATEVER THE INPUT: true; the input reads as it did. -/
def fnExactKeywordSpec : ChangeSpec := { name := "fnExactKeyword", fn := fun _ => fun
  | [d] => { results := [.lit (.bool true)], args := [d] }
  | _ => none }
def fnExactKeywordRow : OpenClaim := { program := "ytakicaelepgmcaa", sum := "8827c2529b63e85efb52ae1967c092b69bd1c6a2449d0b24d7c0d4d13b31b23e", func := "loop.example/g00289/laws.FnExactKeyword", spec := "fnExactKeyword", apart := false }
def FnExactKeywordSaid : Prop := fnExactKeywordRow.holds Try.pinned (OpenSpec.ofChange fnExactKeywordSpec)

/-- ITS FALSE NEIGHBOUR: 'it returns false'. Refute it at one input. -/
def fnExactKeywordWrong : ChangeSpec := { name := "fnExactKeyword", fn := fun _ => fun
  | [d] => { results := [.lit (.bool false)], args := [d] }
  | _ => none }
def FnExactKeywordWrongFalsely : Prop := fnExactKeywordRow.holds Try.pinned (OpenSpec.ofChange fnExactKeywordWrong)

/-- 'laws.FnExactTruth': WHATEVER THE INPUT: true; the input reads as it did. -/
def fnExactTruthSpec : ChangeSpec := { name := "fnExactTruth", fn := fun _ => fun
  | [d] => { results := [.lit (.bool true)], args := [d] }
  | _ => none }
def fnExactTruthRow : OpenClaim := { program := "ytakicaelepgmcaa", sum := "8827c2529b63e85efb52ae1967c092b69bd1c6a2449d0b24d7c0d4d13b31b23e", func := "loop.example/g00289/laws.FnExactTruth", spec := "fnExactTruth", apart := false }
def FnExactTruthSaid : Prop := fnExactTruthRow.holds Try.pinned (OpenSpec.ofChange fnExactTruthSpec)

/-- ITS FALSE NEIGHBOUR: 'it returns false'. Refute it at one input. -/
def fnExactTruthWrong : ChangeSpec := { name := "fnExactTruth", fn := fun _ => fun
  | [d] => { results := [.lit (.bool false)], args := [d] }
  | _ => none }
def FnExactTruthWrongFalsely : Prop := fnExactTruthRow.holds Try.pinned (OpenSpec.ofChange fnExactTruthWrong)

/-- 'laws.FnExactPutNum': WHATEVER THE INPUT: true; the input reads as it did. -/
def fnExactPutNumSpec : ChangeSpec := { name := "fnExactPutNum", fn := fun _ => fun
  | [d] => { results := [.lit (.bool true)], args := [d] }
  | _ => none }
def fnExactPutNumRow : OpenClaim := { program := "ytakicaelepgmcaa", sum := "8827c2529b63e85efb52ae1967c092b69bd1c6a2449d0b24d7c0d4d13b31b23e", func := "loop.example/g00289/laws.FnExactPutNum", spec := "fnExactPutNum", apart := false }
def FnExactPutNumSaid : Prop := fnExactPutNumRow.holds Try.pinned (OpenSpec.ofChange fnExactPutNumSpec)

/-- ITS FALSE NEIGHBOUR: 'it returns false'. Refute it at one input. -/
def fnExactPutNumWrong : ChangeSpec := { name := "fnExactPutNum", fn := fun _ => fun
  | [d] => { results := [.lit (.bool false)], args := [d] }
  | _ => none }
def FnExactPutNumWrongFalsely : Prop := fnExactPutNumRow.holds Try.pinned (OpenSpec.ofChange fnExactPutNumWrong)

/-- 'laws.FnExactPutText': WHATEVER THE INPUT: true; the input reads as it did. -/
def fnExactPutTextSpec : ChangeSpec := { name := "fnExactPutText", fn := fun _ => fun
  | [d] => { results := [.lit (.bool true)], args := [d] }
  | _ => none }
def fnExactPutTextRow : OpenClaim := { program := "ytakicaelepgmcaa", sum := "8827c2529b63e85efb52ae1967c092b69bd1c6a2449d0b24d7c0d4d13b31b23e", func := "loop.example/g00289/laws.FnExactPutText", spec := "fnExactPutText", apart := false }
def FnExactPutTextSaid : Prop := fnExactPutTextRow.holds Try.pinned (OpenSpec.ofChange fnExactPutTextSpec)

/-- ITS FALSE NEIGHBOUR: 'it returns false'. Refute it at one input. -/
def fnExactPutTextWrong : ChangeSpec := { name := "fnExactPutText", fn := fun _ => fun
  | [d] => { results := [.lit (.bool false)], args := [d] }
  | _ => none }
def FnExactPutTextWrongFalsely : Prop := fnExactPutTextRow.holds Try.pinned (OpenSpec.ofChange fnExactPutTextWrong)

/-- 'laws.FnExactGetNum': WHATEVER THE INPUT: true; the input reads as it did. -/
def fnExactGetNumSpec : ChangeSpec := { name := "fnExactGetNum", fn := fun _ => fun
  | [d1, d2] => { results := [.lit (.bool true)], args := [d1, d2] }
  | _ => none }
def fnExactGetNumRow : OpenClaim := { program := "ytakicaelepgmcaa", sum := "8827c2529b63e85efb52ae1967c092b69bd1c6a2449d0b24d7c0d4d13b31b23e", func := "loop.example/g00289/laws.FnExactGetNum", spec := "fnExactGetNum", apart := false }
def FnExactGetNumSaid : Prop := fnExactGetNumRow.holds Try.pinned (OpenSpec.ofChange fnExactGetNumSpec)

/-- ITS FALSE NEIGHBOUR: 'it returns false'. Refute it at one input. -/
def fnExactGetNumWrong : ChangeSpec := { name := "fnExactGetNum", fn := fun _ => fun
  | [d1, d2] => { results := [.lit (.bool false)], args := [d1, d2] }
  | _ => none }
def FnExactGetNumWrongFalsely : Prop := fnExactGetNumRow.holds Try.pinned (OpenSpec.ofChange fnExactGetNumWrong)

/-- 'laws.FnExactDeep': WHATEVER THE INPUT: true; the input reads as it did. -/
def fnExactDeepSpec : ChangeSpec := { name := "fnExactDeep", fn := fun _ => fun
  | [d] => { results := [.lit (.bool true)], args := [d] }
  | _ => none }
def fnExactDeepRow : OpenClaim := { program := "ytakicaelepgmcaa", sum := "8827c2529b63e85efb52ae1967c092b69bd1c6a2449d0b24d7c0d4d13b31b23e", func := "loop.example/g00289/laws.FnExactDeep", spec := "fnExactDeep", recurses := true, loops := true, apart := false }
def FnExactDeepSaid : Prop := fnExactDeepRow.holds Try.pinned (OpenSpec.ofChange fnExactDeepSpec)

/-- ITS FALSE NEIGHBOUR: 'it returns false'. Refute it at one input. -/
def fnExactDeepWrong : ChangeSpec := { name := "fnExactDeep", fn := fun _ => fun
  | [d] => { results := [.lit (.bool false)], args := [d] }
  | _ => none }
def FnExactDeepWrongFalsely : Prop := fnExactDeepRow.holds Try.pinned (OpenSpec.ofChange fnExactDeepWrong)

/- THE SECOND FORM. 'bulk': how many values and letters a reading holds, each counted each time it is reached (what is shared counts as often as it is met; a slice's spare places count too). A statement '..UptoSaid' is the law's where the arguments, and the package variables that the reading takes, are together of bulk at most 1048576: NARROWER than '..Said'. Prove '..Said' where nothing that the law and all that it calls make is longer than what came in: it says more and counts as full. Else prove '..UptoSaid'. A law counts once. -/
mutual
def uptoBulk {H : Type} : DataW H → Nat
  | .lit (.string bytes) => bytes.length + 1
  | .lit _ => 1
  | .nil => 1
  | .ptr d => uptoBulk d + 1
  | .slice elems spare => uptoBulkAll elems + uptoBulkAll spare + 1
  | .agg parts => uptoBulkAll parts + 1
  | .iface _ d => uptoBulk d + 1
  | .map entries => uptoBulkEntries entries + 1
  | .held _ => 1
def uptoBulkAll {H : Type} : List (DataW H) → Nat
  | [] => 0
  | d :: r => uptoBulk d + uptoBulkAll r
def uptoBulkEntries {H : Type} : List (Lit × DataW H) → Nat
  | [] => 0
  | x :: r => uptoBulkEntry x + uptoBulkEntries r
def uptoBulkEntry {H : Type} : Lit × DataW H → Nat
  | (.string bytes, d) => bytes.length + uptoBulk d + 1
  | (_, d) => uptoBulk d + 1
 end
def uptoSmall : (H : Type) → List (DataW H) → Bool := fun _ ds => decide (uptoBulkAll ds ≤ 1048576)
def OpenSpec.upto (s : _root_.Go.ChangeSpec) : _root_.Go.OpenSpec := { _root_.Go.OpenSpec.ofChange s with cond := some uptoSmall }

/-- 'laws.FnExactConstants', WHERE WHAT IT READS IS OF BULK AT MOST 1048576: true; the input reads as it did. -/
def fnExactConstantsUptoRow : OpenClaim := { program := "ytakicaelepgmcaa", sum := "8827c2529b63e85efb52ae1967c092b69bd1c6a2449d0b24d7c0d4d13b31b23e", func := "loop.example/g00289/laws.FnExactConstants", spec := "fnExactConstants", apart := false, narrowed := true }
def FnExactConstantsUptoSaid : Prop := fnExactConstantsUptoRow.holds Try.pinned (OpenSpec.upto fnExactConstantsSpec)

/-- 'laws.FnExactDecInt', WHERE WHAT IT READS IS OF BULK AT MOST 1048576: true; the input reads as it did. -/
def fnExactDecIntUptoRow : OpenClaim := { program := "ytakicaelepgmcaa", sum := "8827c2529b63e85efb52ae1967c092b69bd1c6a2449d0b24d7c0d4d13b31b23e", func := "loop.example/g00289/laws.FnExactDecInt", spec := "fnExactDecInt", apart := false, narrowed := true }
def FnExactDecIntUptoSaid : Prop := fnExactDecIntUptoRow.holds Try.pinned (OpenSpec.upto fnExactDecIntSpec)

/-- 'laws.FnExactDecOk', WHERE WHAT IT READS IS OF BULK AT MOST 1048576: true; the input reads as it did. -/
def fnExactDecOkUptoRow : OpenClaim := { program := "ytakicaelepgmcaa", sum := "8827c2529b63e85efb52ae1967c092b69bd1c6a2449d0b24d7c0d4d13b31b23e", func := "loop.example/g00289/laws.FnExactDecOk", spec := "fnExactDecOk", apart := false, narrowed := true }
def FnExactDecOkUptoSaid : Prop := fnExactDecOkUptoRow.holds Try.pinned (OpenSpec.upto fnExactDecOkSpec)

/-- 'laws.FnExactDecAdd', WHERE WHAT IT READS IS OF BULK AT MOST 1048576: true; the input reads as it did. -/
def fnExactDecAddUptoRow : OpenClaim := { program := "ytakicaelepgmcaa", sum := "8827c2529b63e85efb52ae1967c092b69bd1c6a2449d0b24d7c0d4d13b31b23e", func := "loop.example/g00289/laws.FnExactDecAdd", spec := "fnExactDecAdd", apart := false, narrowed := true }
def FnExactDecAddUptoSaid : Prop := fnExactDecAddUptoRow.holds Try.pinned (OpenSpec.upto fnExactDecAddSpec)

/-- 'laws.FnExactDecDiv', WHERE WHAT IT READS IS OF BULK AT MOST 1048576: true; the input reads as it did. -/
def fnExactDecDivUptoRow : OpenClaim := { program := "ytakicaelepgmcaa", sum := "8827c2529b63e85efb52ae1967c092b69bd1c6a2449d0b24d7c0d4d13b31b23e", func := "loop.example/g00289/laws.FnExactDecDiv", spec := "fnExactDecDiv", apart := false, narrowed := true }
def FnExactDecDivUptoSaid : Prop := fnExactDecDivUptoRow.holds Try.pinned (OpenSpec.upto fnExactDecDivSpec)

/-- 'laws.FnExactDecSub', WHERE WHAT IT READS IS OF BULK AT MOST 1048576: true; the input reads as it did. -/
def fnExactDecSubUptoRow : OpenClaim := { program := "ytakicaelepgmcaa", sum := "8827c2529b63e85efb52ae1967c092b69bd1c6a2449d0b24d7c0d4d13b31b23e", func := "loop.example/g00289/laws.FnExactDecSub", spec := "fnExactDecSub", apart := false, narrowed := true }
def FnExactDecSubUptoSaid : Prop := fnExactDecSubUptoRow.holds Try.pinned (OpenSpec.upto fnExactDecSubSpec)

/-- 'laws.FnExactKeyword', WHERE WHAT IT READS IS OF BULK AT MOST 1048576: true; the input reads as it did. -/
def fnExactKeywordUptoRow : OpenClaim := { program := "ytakicaelepgmcaa", sum := "8827c2529b63e85efb52ae1967c092b69bd1c6a2449d0b24d7c0d4d13b31b23e", func := "loop.example/g00289/laws.FnExactKeyword", spec := "fnExactKeyword", apart := false, narrowed := true }
def FnExactKeywordUptoSaid : Prop := fnExactKeywordUptoRow.holds Try.pinned (OpenSpec.upto fnExactKeywordSpec)

/-- 'laws.FnExactTruth', WHERE WHAT IT READS IS OF BULK AT MOST 1048576: true; the input reads as it did. -/
def fnExactTruthUptoRow : OpenClaim := { program := "ytakicaelepgmcaa", sum := "8827c2529b63e85efb52ae1967c092b69bd1c6a2449d0b24d7c0d4d13b31b23e", func := "loop.example/g00289/laws.FnExactTruth", spec := "fnExactTruth", apart := false, narrowed := true }
def FnExactTruthUptoSaid : Prop := fnExactTruthUptoRow.holds Try.pinned (OpenSpec.upto fnExactTruthSpec)

/-- 'laws.FnExactPutNum', WHERE WHAT IT READS IS OF BULK AT MOST 1048576: true; the input reads as it did. -/
def fnExactPutNumUptoRow : OpenClaim := { program := "ytakicaelepgmcaa", sum := "8827c2529b63e85efb52ae1967c092b69bd1c6a2449d0b24d7c0d4d13b31b23e", func := "loop.example/g00289/laws.FnExactPutNum", spec := "fnExactPutNum", apart := false, narrowed := true }
def FnExactPutNumUptoSaid : Prop := fnExactPutNumUptoRow.holds Try.pinned (OpenSpec.upto fnExactPutNumSpec)

/-- 'laws.FnExactPutText', WHERE WHAT IT READS IS OF BULK AT MOST 1048576: true; the input reads as it did. -/
def fnExactPutTextUptoRow : OpenClaim := { program := "ytakicaelepgmcaa", sum := "8827c2529b63e85efb52ae1967c092b69bd1c6a2449d0b24d7c0d4d13b31b23e", func := "loop.example/g00289/laws.FnExactPutText", spec := "fnExactPutText", apart := false, narrowed := true }
def FnExactPutTextUptoSaid : Prop := fnExactPutTextUptoRow.holds Try.pinned (OpenSpec.upto fnExactPutTextSpec)

/-- 'laws.FnExactGetNum', WHERE WHAT IT READS IS OF BULK AT MOST 1048576: true; the input reads as it did. -/
def fnExactGetNumUptoRow : OpenClaim := { program := "ytakicaelepgmcaa", sum := "8827c2529b63e85efb52ae1967c092b69bd1c6a2449d0b24d7c0d4d13b31b23e", func := "loop.example/g00289/laws.FnExactGetNum", spec := "fnExactGetNum", apart := false, narrowed := true }
def FnExactGetNumUptoSaid : Prop := fnExactGetNumUptoRow.holds Try.pinned (OpenSpec.upto fnExactGetNumSpec)

/-- 'laws.FnExactDeep', WHERE WHAT IT READS IS OF BULK AT MOST 1048576: true; the input reads as it did. -/
def fnExactDeepUptoRow : OpenClaim := { program := "ytakicaelepgmcaa", sum := "8827c2529b63e85efb52ae1967c092b69bd1c6a2449d0b24d7c0d4d13b31b23e", func := "loop.example/g00289/laws.FnExactDeep", spec := "fnExactDeep", recurses := true, loops := true, apart := false, narrowed := true }
def FnExactDeepUptoSaid : Prop := fnExactDeepUptoRow.holds Try.pinned (OpenSpec.upto fnExactDeepSpec)

end Rows
end Go.Proofs.Ytakicaelepgmcaa
