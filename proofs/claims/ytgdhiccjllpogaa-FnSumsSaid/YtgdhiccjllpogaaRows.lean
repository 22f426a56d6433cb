/-
  No cell of these rows narrows 'for every input' (looked for: loops, veiled, ifaces, maps, wideKeys, modest, calm, conditions, laid).
  DERIVED. THE GIVEN ROWS OF THIS SEAT. 10 by the template 'for every input the law returns true; each argument reads behind the call as it read before'; 0 by the template 'total and deterministic' (their statements: YtgdhiccjllpogaaTotals.lean).
  GIVEN WITH THE SEED: the statements are not yours to turn. If you find one false, say at which input.
  Laid BY PROGRAM, IN A SANDBOX (cutbox-rows.mjs): the forced cells as the released guide's own fill.sh prints them over the translation 092fa5ae0e863140… (all of the seat's roots in one cut). By AI agents, Wed Nov 11 2026. No macro, syntax, notation, axiom, sorry.
-/
import Derived.Test.YtgdhiccjllpogaaChecked
import GoSem.Claim
import GoSem.ClaimJoined
import GoSem.ClaimMapViews
import Derived.JoinedTies
import Derived.KernelRfl
namespace Go.Proofs.Ytgdhiccjllpogaa
/- THE CELL 'sum', in the pinned program and in every row, IS THE sha256 OF THE DUMP (.gsa) THAT YtgdhiccjllpogaaProg.lean LOADS. Nothing in Lean hashes anything: it is a label: what it is worth is what the hold of that sum in a sandbox is worth. -/
noncomputable def Try.pinned : Pinned := { name := "ytgdhiccjllpogaa", sum := "092fa5ae0e863140f71395632f7b2f7b5ff8ccccc58eabe28139d1ceac700b5f", checked := Try.checked }
namespace Rows
def none {H : Type} : Left H := { results := [], args := [] }

/-- 'laws.FnExactNfaOk': WHATEVER THE INPUT: true; the input reads as it did. -/
def fnExactNfaOkSpec : ChangeSpec := { name := "fnExactNfaOk", fn := fun _ => fun
  | [d] => { results := [.lit (.bool true)], args := [d] }
  | _ => none }
def fnExactNfaOkRow : OpenClaim := { program := "ytgdhiccjllpogaa", sum := "092fa5ae0e863140f71395632f7b2f7b5ff8ccccc58eabe28139d1ceac700b5f", func := "loop.example/g00289/laws.FnExactNfaOk", spec := "fnExactNfaOk", apart := false }
def FnExactNfaOkSaid : Prop := fnExactNfaOkRow.holds Try.pinned (OpenSpec.ofChange fnExactNfaOkSpec)

/-- ITS FALSE NEIGHBOUR: 'it returns false'. Refute it at one input. -/
def fnExactNfaOkWrong : ChangeSpec := { name := "fnExactNfaOk", fn := fun _ => fun
  | [d] => { results := [.lit (.bool false)], args := [d] }
  | _ => none }
def FnExactNfaOkWrongFalsely : Prop := fnExactNfaOkRow.holds Try.pinned (OpenSpec.ofChange fnExactNfaOkWrong)

/-- 'laws.FnExactDecMul': WHATEVER THE INPUT: true; the input reads as it did. -/
def fnExactDecMulSpec : ChangeSpec := { name := "fnExactDecMul", fn := fun _ => fun
  | [d1, d2] => { results := [.lit (.bool true)], args := [d1, d2] }
  | _ => none }
def fnExactDecMulRow : OpenClaim := { program := "ytgdhiccjllpogaa", sum := "092fa5ae0e863140f71395632f7b2f7b5ff8ccccc58eabe28139d1ceac700b5f", func := "loop.example/g00289/laws.FnExactDecMul", spec := "fnExactDecMul", named := ["math/bits.divideError", "math/bits.overflowError"], apart := false }
def FnExactDecMulSaid : Prop := fnExactDecMulRow.holds Try.pinned (OpenSpec.ofChange fnExactDecMulSpec)

/-- ITS FALSE NEIGHBOUR: 'it returns false'. Refute it at one input. -/
def fnExactDecMulWrong : ChangeSpec := { name := "fnExactDecMul", fn := fun _ => fun
  | [d1, d2] => { results := [.lit (.bool false)], args := [d1, d2] }
  | _ => none }
def FnExactDecMulWrongFalsely : Prop := fnExactDecMulRow.holds Try.pinned (OpenSpec.ofChange fnExactDecMulWrong)

/-- 'laws.FnExactCmdOk': WHATEVER THE INPUT: true; the input reads as it did. -/
def fnExactCmdOkSpec : ChangeSpec := { name := "fnExactCmdOk", fn := fun _ => fun
  | [d] => { results := [.lit (.bool true)], args := [d] }
  | _ => none }
def fnExactCmdOkRow : OpenClaim := { program := "ytgdhiccjllpogaa", sum := "092fa5ae0e863140f71395632f7b2f7b5ff8ccccc58eabe28139d1ceac700b5f", func := "loop.example/g00289/laws.FnExactCmdOk", spec := "fnExactCmdOk", inPlace := ["internal/bytealg.IndexByteString", "internal/bytealg.IndexString"], named := ["internal/bytealg.MaxLen"], apart := false }
def FnExactCmdOkSaid : Prop := fnExactCmdOkRow.holds Try.pinned (OpenSpec.ofChange fnExactCmdOkSpec)

/-- ITS FALSE NEIGHBOUR: 'it returns false'. Refute it at one input. -/
def fnExactCmdOkWrong : ChangeSpec := { name := "fnExactCmdOk", fn := fun _ => fun
  | [d] => { results := [.lit (.bool false)], args := [d] }
  | _ => none }
def FnExactCmdOkWrongFalsely : Prop := fnExactCmdOkRow.holds Try.pinned (OpenSpec.ofChange fnExactCmdOkWrong)

/-- 'laws.FnExactStateNew': WHATEVER THE INPUT: true; the input reads as it did. -/
def fnExactStateNewSpec : ChangeSpec := { name := "fnExactStateNew", fn := fun _ => fun
  | [d] => { results := [.lit (.bool true)], args := [d] }
  | _ => none }
def fnExactStateNewRow : OpenClaim := { program := "ytgdhiccjllpogaa", sum := "092fa5ae0e863140f71395632f7b2f7b5ff8ccccc58eabe28139d1ceac700b5f", func := "loop.example/g00289/laws.FnExactStateNew", spec := "fnExactStateNew", apart := false }
def FnExactStateNewSaid : Prop := fnExactStateNewRow.holds Try.pinned (OpenSpec.ofChange fnExactStateNewSpec)

/-- ITS FALSE NEIGHBOUR: 'it returns false'. Refute it at one input. -/
def fnExactStateNewWrong : ChangeSpec := { name := "fnExactStateNew", fn := fun _ => fun
  | [d] => { results := [.lit (.bool false)], args := [d] }
  | _ => none }
def FnExactStateNewWrongFalsely : Prop := fnExactStateNewRow.holds Try.pinned (OpenSpec.ofChange fnExactStateNewWrong)

/-- 'laws.FnExactCellGet': WHATEVER THE INPUT: true; the input reads as it did. -/
def fnExactCellGetSpec : ChangeSpec := { name := "fnExactCellGet", fn := fun _ => fun
  | [d1, d2, d3] => { results := [.lit (.bool true)], args := [d1, d2, d3] }
  | _ => none }
def fnExactCellGetRow : OpenClaim := { program := "ytgdhiccjllpogaa", sum := "092fa5ae0e863140f71395632f7b2f7b5ff8ccccc58eabe28139d1ceac700b5f", func := "loop.example/g00289/laws.FnExactCellGet", spec := "fnExactCellGet", unfollowed := true, recurses := true, apart := false }
def FnExactCellGetSaid : Prop := fnExactCellGetRow.holds Try.pinned (OpenSpec.ofChange fnExactCellGetSpec)

/-- ITS FALSE NEIGHBOUR: 'it returns false'. Refute it at one input. -/
def fnExactCellGetWrong : ChangeSpec := { name := "fnExactCellGet", fn := fun _ => fun
  | [d1, d2, d3] => { results := [.lit (.bool false)], args := [d1, d2, d3] }
  | _ => none }
def FnExactCellGetWrongFalsely : Prop := fnExactCellGetRow.holds Try.pinned (OpenSpec.ofChange fnExactCellGetWrong)

/-- 'laws.FnSums': WHATEVER THE INPUT: true; the input reads as it did. -/
def fnSumsSpec : ChangeSpec := { name := "fnSums", fn := fun _ => fun
  | [d] => { results := [.lit (.bool true)], args := [d] }
  | _ => none }
def fnSumsRow : OpenClaim := { program := "ytgdhiccjllpogaa", sum := "092fa5ae0e863140f71395632f7b2f7b5ff8ccccc58eabe28139d1ceac700b5f", func := "loop.example/g00289/laws.FnSums", spec := "fnSums", named := ["math/bits.divideError", "math/bits.overflowError"], apart := false }
def FnSumsSaid : Prop := fnSumsRow.holds Try.pinned (OpenSpec.ofChange fnSumsSpec)

/-- ITS FALSE NEIGHBOUR: 'it returns false'. Refute it at one input. -/
def fnSumsWrong : ChangeSpec := { name := "fnSums", fn := fun _ => fun
  | [d] => { results := [.lit (.bool false)], args := [d] }
  | _ => none }
def FnSumsWrongFalsely : Prop := fnSumsRow.holds Try.pinned (OpenSpec.ofChange fnSumsWrong)

/-- 'laws.FnExactCellDrop': WHATEVER THE INPUT: true; the input reads as it did. -/
def fnExactCellDropSpec : ChangeSpec := { name := "fnExactCellDrop", fn := fun _ => fun
  | [d1, d2, d3] => { results := [.lit (.bool true)], args := [d1, d2, d3] }
  | _ => none }
def fnExactCellDropRow : OpenClaim := { program := "ytgdhiccjllpogaa", sum := "092fa5ae0e863140f71395632f7b2f7b5ff8ccccc58eabe28139d1ceac700b5f", func := "loop.example/g00289/laws.FnExactCellDrop", spec := "fnExactCellDrop", unfollowed := true, recurses := true, apart := false }
def FnExactCellDropSaid : Prop := fnExactCellDropRow.holds Try.pinned (OpenSpec.ofChange fnExactCellDropSpec)

/-- ITS FALSE NEIGHBOUR: 'it returns false'. Refute it at one input. -/
def fnExactCellDropWrong : ChangeSpec := { name := "fnExactCellDrop", fn := fun _ => fun
  | [d1, d2, d3] => { results := [.lit (.bool false)], args := [d1, d2, d3] }
  | _ => none }
def FnExactCellDropWrongFalsely : Prop := fnExactCellDropRow.holds Try.pinned (OpenSpec.ofChange fnExactCellDropWrong)

/-- 'laws.FnExactRexParse': WHATEVER THE INPUT: true; the input reads as it did. -/
def fnExactRexParseSpec : ChangeSpec := { name := "fnExactRexParse", fn := fun _ => fun
  | [d] => { results := [.lit (.bool true)], args := [d] }
  | _ => none }
def fnExactRexParseRow : OpenClaim := { program := "ytgdhiccjllpogaa", sum := "092fa5ae0e863140f71395632f7b2f7b5ff8ccccc58eabe28139d1ceac700b5f", func := "loop.example/g00289/laws.FnExactRexParse", spec := "fnExactRexParse", inPlace := ["internal/bytealg.IndexByteString"], recurses := true, apart := false }
def FnExactRexParseSaid : Prop := fnExactRexParseRow.holds Try.pinned (OpenSpec.ofChange fnExactRexParseSpec)

/-- ITS FALSE NEIGHBOUR: 'it returns false'. Refute it at one input. -/
def fnExactRexParseWrong : ChangeSpec := { name := "fnExactRexParse", fn := fun _ => fun
  | [d] => { results := [.lit (.bool false)], args := [d] }
  | _ => none }
def FnExactRexParseWrongFalsely : Prop := fnExactRexParseRow.holds Try.pinned (OpenSpec.ofChange fnExactRexParseWrong)

/-- 'laws.FnExactCellPut': WHATEVER THE INPUT: true; the input reads as it did. -/
def fnExactCellPutSpec : ChangeSpec := { name := "fnExactCellPut", fn := fun _ => fun
  | [d1, d2, d3, d4] => { results := [.lit (.bool true)], args := [d1, d2, d3, d4] }
  | _ => none }
def fnExactCellPutRow : OpenClaim := { program := "ytgdhiccjllpogaa", sum := "092fa5ae0e863140f71395632f7b2f7b5ff8ccccc58eabe28139d1ceac700b5f", func := "loop.example/g00289/laws.FnExactCellPut", spec := "fnExactCellPut", inPlace := ["internal/bytealg.abigen_runtime_cmpstring", "slices.overlaps[loop.example/g00289/impl.Cell]"], unfollowed := true, recurses := true, apart := false }
def FnExactCellPutSaid : Prop := fnExactCellPutRow.holds Try.pinned (OpenSpec.ofChange fnExactCellPutSpec)

/-- ITS FALSE NEIGHBOUR: 'it returns false'. Refute it at one input. -/
def fnExactCellPutWrong : ChangeSpec := { name := "fnExactCellPut", fn := fun _ => fun
  | [d1, d2, d3, d4] => { results := [.lit (.bool false)], args := [d1, d2, d3, d4] }
  | _ => none }
def FnExactCellPutWrongFalsely : Prop := fnExactCellPutRow.holds Try.pinned (OpenSpec.ofChange fnExactCellPutWrong)

/-- 'laws.FnExactOpsOk': WHATEVER THE INPUT: true; the input reads as it did. -/
def fnExactOpsOkSpec : ChangeSpec := { name := "fnExactOpsOk", fn := fun _ => fun
  | [d1, d2, d3] => { results := [.lit (.bool true)], args := [d1, d2, d3] }
  | _ => none }
def fnExactOpsOkRow : OpenClaim := { program := "ytgdhiccjllpogaa", sum := "092fa5ae0e863140f71395632f7b2f7b5ff8ccccc58eabe28139d1ceac700b5f", func := "loop.example/g00289/laws.FnExactOpsOk", spec := "fnExactOpsOk", inPlace := ["internal/bytealg.IndexByteString"], unfollowed := true, recurses := true, apart := false }
def FnExactOpsOkSaid : Prop := fnExactOpsOkRow.holds Try.pinned (OpenSpec.ofChange fnExactOpsOkSpec)

/-- ITS FALSE NEIGHBOUR: 'it returns false'. Refute it at one input. -/
def fnExactOpsOkWrong : ChangeSpec := { name := "fnExactOpsOk", fn := fun _ => fun
  | [d1, d2, d3] => { results := [.lit (.bool false)], args := [d1, d2, d3] }
  | _ => none }
def FnExactOpsOkWrongFalsely : Prop := fnExactOpsOkRow.holds Try.pinned (OpenSpec.ofChange fnExactOpsOkWrong)

/- THE SECOND FORM. 'bulk': how many values and letters a reading holds, each counted each time it is reached (what is shared counts as often as it is met; a slice's spare places count too). A statement '..UptoSaid' is the law's where the arguments, and the package variables that the reading takes, are together of bulk at most 1048576: NARROWER than '..Said'. Prove '..Said' where nothing that the law and all that it calls make is longer than what came in: it says more and counts as full. Else prove '..UptoSaid'. A law counts once. -/
mutual
def uptoBulk {H : Type} : DataW H → Nat
  | .lit (.string bytes) => bytes.length + 1
  | .lit _ => 1
  | .nil => 1
  | .ptr d => uptoBulk d + 1
  | .slice elems spare => uptoBulkAll elems + uptoBulkAll spare + 1
  | .agg parts => uptoBulkAll parts + 1
  | .iface _ d => uptoBulk d + 1
  | .map entries => uptoBulkEntries entries + 1
  | .held _ => 1
def uptoBulkAll {H : Type} : List (DataW H) → Nat
  | [] => 0
  | d :: r => uptoBulk d + uptoBulkAll r
def uptoBulkEntries {H : Type} : List (Lit × DataW H) → Nat
  | [] => 0
  | x :: r => uptoBulkEntry x + uptoBulkEntries r
def uptoBulkEntry {H : Type} : Lit × DataW H → Nat
  | (.string bytes, d) => bytes.length + uptoBulk d + 1
  | (_, d) => uptoBulk d + 1
 end
def uptoSmall : (H : Type) → List (DataW H) → Bool := fun _ ds => decide (uptoBulkAll ds ≤ 1048576)
def OpenSpec.upto (s : _root_.Go.ChangeSpec) : _root_.Go.OpenSpec := { _root_.Go.OpenSpec.ofChange s with cond := some uptoSmall }

/-- 'laws.FnExactNfaOk', WHERE WHAT IT READS IS OF BULK AT MOST 1048576: true; the input reads as it did. -/
def fnExactNfaOkUptoRow : OpenClaim := { program := "ytgdhiccjllpogaa", sum := "092fa5ae0e863140f71395632f7b2f7b5ff8ccccc58eabe28139d1ceac700b5f", func := "loop.example/g00289/laws.FnExactNfaOk", spec := "fnExactNfaOk", apart := false, narrowed := true }
def FnExactNfaOkUptoSaid : Prop := fnExactNfaOkUptoRow.holds Try.pinned (OpenSpec.upto fnExactNfaOkSpec)

/-- 'laws.FnExactDecMul', WHERE WHAT IT READS IS OF BULK AT MOST 1048576: true; the input reads as it did. -/
def fnExactDecMulUptoRow : OpenClaim := { program := "ytgdhiccjllpogaa", sum := "092fa5ae0e863140f71395632f7b2f7b5ff8ccccc58eabe28139d1ceac700b5f", func := "loop.example/g00289/laws.FnExactDecMul", spec := "fnExactDecMul", named := ["math/bits.divideError", "math/bits.overflowError"], apart := false, narrowed := true }
def FnExactDecMulUptoSaid : Prop := fnExactDecMulUptoRow.holds Try.pinned (OpenSpec.upto fnExactDecMulSpec)

/-- 'laws.FnExactCmdOk', WHERE WHAT IT READS IS OF BULK AT MOST 1048576: true; the input reads as it did. -/
def fnExactCmdOkUptoRow : OpenClaim := { program := "ytgdhiccjllpogaa", sum := "092fa5ae0e863140f71395632f7b2f7b5ff8ccccc58eabe28139d1ceac700b5f", func := "loop.example/g00289/laws.FnExactCmdOk", spec := "fnExactCmdOk", inPlace := ["internal/bytealg.IndexByteString", "internal/bytealg.IndexString"], named := ["internal/bytealg.MaxLen"], apart := false, narrowed := true }
def FnExactCmdOkUptoSaid : Prop := fnExactCmdOkUptoRow.holds Try.pinned (OpenSpec.upto fnExactCmdOkSpec)

/-- 'laws.FnExactStateNew', WHERE WHAT IT READS IS OF BULK AT MOST 1048576: true; the input reads as it did. -/
def fnExactStateNewUptoRow : OpenClaim := { program := "ytgdhiccjllpogaa", sum := "092fa5ae0e863140f71395632f7b2f7b5ff8ccccc58eabe28139d1ceac700b5f", func := "loop.example/g00289/laws.FnExactStateNew", spec := "fnExactStateNew", apart := false, narrowed := true }
def FnExactStateNewUptoSaid : Prop := fnExactStateNewUptoRow.holds Try.pinned (OpenSpec.upto fnExactStateNewSpec)

/-- 'laws.FnExactCellGet', WHERE WHAT IT READS IS OF BULK AT MOST 1048576: true; the input reads as it did. -/
def fnExactCellGetUptoRow : OpenClaim := { program := "ytgdhiccjllpogaa", sum := "092fa5ae0e863140f71395632f7b2f7b5ff8ccccc58eabe28139d1ceac700b5f", func := "loop.example/g00289/laws.FnExactCellGet", spec := "fnExactCellGet", unfollowed := true, recurses := true, apart := false, narrowed := true }
def FnExactCellGetUptoSaid : Prop := fnExactCellGetUptoRow.holds Try.pinned (OpenSpec.upto fnExactCellGetSpec)

/-- 'laws.FnSums', WHERE WHAT IT READS IS OF BULK AT MOST 1048576: true; the input reads as it did. -/
def fnSumsUptoRow : OpenClaim := { program := "ytgdhiccjllpogaa", sum := "092fa5ae0e863140f71395632f7b2f7b5ff8ccccc58eabe28139d1ceac700b5f", func := "loop.example/g00289/laws.FnSums", spec := "fnSums", named := ["math/bits.divideError", "math/bits.overflowError"], apart := false, narrowed := true }
def FnSumsUptoSaid : Prop := fnSumsUptoRow.holds Try.pinned (OpenSpec.upto fnSumsSpec)

/-- 'laws.FnExactCellDrop', WHERE WHAT IT READS IS OF BULK AT MOST 1048576: true; the input reads as it did. -/
def fnExactCellDropUptoRow : OpenClaim := { program := "ytgdhiccjllpogaa", sum := "092fa5ae0e863140f71395632f7b2f7b5ff8ccccc58eabe28139d1ceac700b5f", func := "loop.example/g00289/laws.FnExactCellDrop", spec := "fnExactCellDrop", unfollowed := true, recurses := true, apart := false, narrowed := true }
def FnExactCellDropUptoSaid : Prop := fnExactCellDropUptoRow.holds Try.pinned (OpenSpec.upto fnExactCellDropSpec)

/-- 'laws.FnExactRexParse', WHERE WHAT IT READS IS OF BULK AT MOST 1048576: true; the input reads as it did. -/
def fnExactRexParseUptoRow : OpenClaim := { program := "ytgdhiccjllpogaa", sum := "092fa5ae0e863140f71395632f7b2f7b5ff8ccccc58eabe28139d1ceac700b5f", func := "loop.example/g00289/laws.FnExactRexParse", spec := "fnExactRexParse", inPlace := ["internal/bytealg.IndexByteString"], recurses := true, apart := false, narrowed := true }
def FnExactRexParseUptoSaid : Prop := fnExactRexParseUptoRow.holds Try.pinned (OpenSpec.upto fnExactRexParseSpec)

/-- 'laws.FnExactCellPut', WHERE WHAT IT READS IS OF BULK AT MOST 1048576: true; the input reads as it did. -/
def fnExactCellPutUptoRow : OpenClaim := { program := "ytgdhiccjllpogaa", sum := "092fa5ae0e863140f71395632f7b2f7b5ff8ccccc58eabe28139d1ceac700b5f", func := "loop.example/g00289/laws.FnExactCellPut", spec := "fnExactCellPut", inPlace := ["internal/bytealg.abigen_runtime_cmpstring", "slices.overlaps[loop.example/g00289/impl.Cell]"], unfollowed := true, recurses := true, apart := false, narrowed := true }
def FnExactCellPutUptoSaid : Prop := fnExactCellPutUptoRow.holds Try.pinned (OpenSpec.upto fnExactCellPutSpec)

/-- 'laws.FnExactOpsOk', WHERE WHAT IT READS IS OF BULK AT MOST 1048576: true; the input reads as it did. -/
def fnExactOpsOkUptoRow : OpenClaim := { program := "ytgdhiccjllpogaa", sum := "092fa5ae0e863140f71395632f7b2f7b5ff8ccccc58eabe28139d1ceac700b5f", func := "loop.example/g00289/laws.FnExactOpsOk", spec := "fnExactOpsOk", inPlace := ["internal/bytealg.IndexByteString"], unfollowed := true, recurses := true, apart := false, narrowed := true }
def FnExactOpsOkUptoSaid : Prop := fnExactOpsOkUptoRow.holds Try.pinned (OpenSpec.upto fnExactOpsOkSpec)

end Rows
end Go.Proofs.Ytgdhiccjllpogaa
