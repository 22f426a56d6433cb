/-
  No cell of these rows narrows 'for every input' (looked for: loops, veiled, ifaces, maps, wideKeys, modest, calm, conditions, laid).
  DERIVED. THE GIVEN ROWS OF THIS SEAT. 3 by the template 'for every input the law returns true; each argument reads behind the call as it read before'; 0 by the template 'total and deterministic' (their statements: YtehefologhfdhaaTotals.lean).
  GIVEN WITH THE SEED: the statements are not yours to turn. If you find one false, say at which input.
  Laid BY PROGRAM, IN A SANDBOX (cutbox-rows.mjs): the forced cells as the released guide's own fill.sh prints them over the translation 079f44e5ddea32d5… (all of the seat's roots in one cut). By AI agents, Wed Nov 11 2026. No macro, syntax, notation, axiom, sorry.
-/
import Derived.Test.YtehefologhfdhaaChecked
import GoSem.Claim
import GoSem.ClaimJoined
import GoSem.ClaimMapViews
import Derived.JoinedTies
import Derived.KernelRfl
namespace Go.Proofs.Ytehefologhfdhaa
/- THE CELL 'sum', in the pinned program and in every row, IS THE sha256 OF THE DUMP (.gsa) THAT YtehefologhfdhaaProg.lean LOADS. Nothing in Lean hashes anything: it is a label: what it is worth is what the hold of that sum in a sandbox is worth. -/
noncomputable def Try.pinned : Pinned := { name := "ytehefologhfdhaa", sum := "079f44e5ddea32d5d1aa8b6511d0583b40fc64f1e06d7de037c5a55550c9e64c", checked := Try.checked }
namespace Rows
def none {H : Type} : Left H := { results := [], args := [] }

/-- 'laws.FnExactPutText': WHATEVER THE INPUT: true; the input reads as it did. -/
def fnExactPutTextSpec : ChangeSpec := { name := "fnExactPutText", fn := fun _ => fun
  | [d] => { results := [.lit (.bool true)], args := [d] }
  | _ => none }
def fnExactPutTextRow : OpenClaim := { program := "ytehefologhfdhaa", sum := "079f44e5ddea32d5d1aa8b6511d0583b40fc64f1e06d7de037c5a55550c9e64c", func := "loop.example/g00289/laws.FnExactPutText", spec := "fnExactPutText", apart := false }
def FnExactPutTextSaid : Prop := fnExactPutTextRow.holds Try.pinned (OpenSpec.ofChange fnExactPutTextSpec)

/-- ITS FALSE NEIGHBOUR: 'it returns false'. Refute it at one input. -/
def fnExactPutTextWrong : ChangeSpec := { name := "fnExactPutText", fn := fun _ => fun
  | [d] => { results := [.lit (.bool false)], args := [d] }
  | _ => none }
def FnExactPutTextWrongFalsely : Prop := fnExactPutTextRow.holds Try.pinned (OpenSpec.ofChange fnExactPutTextWrong)

/-- 'laws.FnExactCellDrop': WHATEVER THE INPUT: true; the input reads as it did. -/
def fnExactCellDropSpec : ChangeSpec := { name := "fnExactCellDrop", fn := fun _ => fun
  | [d1, d2, d3] => { results := [.lit (.bool true)], args := [d1, d2, d3] }
  | _ => none }
def fnExactCellDropRow : OpenClaim := { program := "ytehefologhfdhaa", sum := "079f44e5ddea32d5d1aa8b6511d0583b40fc64f1e06d7de037c5a55550c9e64c", func := "loop.example/g00289/laws.FnExactCellDrop", spec := "fnExactCellDrop", unfollowed := true, recurses := true, apart := false }
def FnExactCellDropSaid : Prop := fnExactCellDropRow.holds Try.pinned (OpenSpec.ofChange fnExactCellDropSpec)

/-- ITS FALSE NEIGHBOUR: 'it returns false'. Refute it at one input. -/
def fnExactCellDropWrong : ChangeSpec := { name := "fnExactCellDrop", fn := fun _ => fun
  | [d1, d2, d3] => { results := [.lit (.bool false)], args := [d1, d2, d3] }
  | _ => none }
def FnExactCellDropWrongFalsely : Prop := fnExactCellDropRow.holds Try.pinned (OpenSpec.ofChange fnExactCellDropWrong)

/-- 'laws.FnExactCellPut': WHATEVER THE INPUT: true; the input reads as it did. -/
def fnExactCellPutSpec : ChangeSpec := { name := "fnExactCellPut", fn := fun _ => fun
  | [d1, d2, d3, d4] => { results := [.lit (.bool true)], args := [d1, d2, d3, d4] }
  | _ => none }
def fnExactCellPutRow : OpenClaim := { program := "ytehefologhfdhaa", sum := "079f44e5ddea32d5d1aa8b6511d0583b40fc64f1e06d7de037c5a55550c9e64c", func := "loop.example/g00289/laws.FnExactCellPut", spec := "fnExactCellPut", inPlace := ["internal/bytealg.abigen_runtime_cmpstring", "slices.overlaps[loop.example/g00289/impl.Cell]"], unfollowed := true, recurses := true, apart := false }
def FnExactCellPutSaid : Prop := fnExactCellPutRow.holds Try.pinned (OpenSpec.ofChange fnExactCellPutSpec)

/-- ITS FALSE NEIGHBOUR: 'it returns false'. Refute it at one input. -/
def fnExactCellPutWrong : ChangeSpec := { name := "fnExactCellPut", fn := fun _ => fun
  | [d1, d2, d3, d4] => { results := [.lit (.bool false)], args := [d1, d2, d3, d4] }
  | _ => none }
def FnExactCellPutWrongFalsely : Prop := fnExactCellPutRow.holds Try.pinned (OpenSpec.ofChange fnExactCellPutWrong)

/- THE SECOND FORM. 'bulk': how many values and letters a reading holds, each counted each time it is reached (what is shared counts as often as it is met; a slice's spare places count too). A statement '..UptoSaid' is the law's where the arguments, and the package variables that the reading takes, are together of bulk at most 1048576: NARROWER than '..Said'. Prove '..Said' where nothing that the law and all that it calls make is longer than what came in: it says more and counts as full. Else prove '..UptoSaid'. A law counts once. -/
mutual
def uptoBulk {H : Type} : DataW H → Nat
  | .lit (.string bytes) => bytes.length + 1
  | .lit _ => 1
  | .nil => 1
  | .ptr d => uptoBulk d + 1
  | .slice elems spare => uptoBulkAll elems + uptoBulkAll spare + 1
  | .agg parts => uptoBulkAll parts + 1
  | .iface _ d => uptoBulk d + 1
  | .map entries => uptoBulkEntries entries + 1
  | .held _ => 1
def uptoBulkAll {H : Type} : List (DataW H) → Nat
  | [] => 0
  | d :: r => uptoBulk d + uptoBulkAll r
def uptoBulkEntries {H : Type} : List (Lit × DataW H) → Nat
  | [] => 0
  | x :: r => uptoBulkEntry x + uptoBulkEntries r
def uptoBulkEntry {H : Type} : Lit × DataW H → Nat
  | (.string bytes, d) => bytes.length + uptoBulk d + 1
  | (_, d) => uptoBulk d + 1
 end
def uptoSmall : (H : Type) → List (DataW H) → Bool := fun _ ds => decide (uptoBulkAll ds ≤ 1048576)
def OpenSpec.upto (s : _root_.Go.ChangeSpec) : _root_.Go.OpenSpec := { _root_.Go.OpenSpec.ofChange s with cond := some uptoSmall }

/-- 'laws.FnExactPutText', WHERE WHAT IT READS IS OF BULK AT MOST 1048576: true; the input reads as it did. -/
def fnExactPutTextUptoRow : OpenClaim := { program := "ytehefologhfdhaa", sum := "079f44e5ddea32d5d1aa8b6511d0583b40fc64f1e06d7de037c5a55550c9e64c", func := "loop.example/g00289/laws.FnExactPutText", spec := "fnExactPutText", apart := false, narrowed := true }
def FnExactPutTextUptoSaid : Prop := fnExactPutTextUptoRow.holds Try.pinned (OpenSpec.upto fnExactPutTextSpec)

/-- 'laws.FnExactCellDrop', WHERE WHAT IT READS IS OF BULK AT MOST 1048576: true; the input reads as it did. -/
def fnExactCellDropUptoRow : OpenClaim := { program := "ytehefologhfdhaa", sum := "079f44e5ddea32d5d1aa8b6511d0583b40fc64f1e06d7de037c5a55550c9e64c", func := "loop.example/g00289/laws.FnExactCellDrop", spec := "fnExactCellDrop", unfollowed := true, recurses := true, apart := false, narrowed := true }
def FnExactCellDropUptoSaid : Prop := fnExactCellDropUptoRow.holds Try.pinned (OpenSpec.upto fnExactCellDropSpec)

/-- 'laws.FnExactCellPut', WHERE WHAT IT READS IS OF BULK AT MOST 1048576: true; the input reads as it did. -/
def fnExactCellPutUptoRow : OpenClaim := { program := "ytehefologhfdhaa", sum := "079f44e5ddea32d5d1aa8b6511d0583b40fc64f1e06d7de037c5a55550c9e64c", func := "loop.example/g00289/laws.FnExactCellPut", spec := "fnExactCellPut", inPlace := ["internal/bytealg.abigen_runtime_cmpstring", "slices.overlaps[loop.example/g00289/impl.Cell]"], unfollowed := true, recurses := true, apart := false, narrowed := true }
def FnExactCellPutUptoSaid : Prop := fnExactCellPutUptoRow.holds Try.pinned (OpenSpec.upto fnExactCellPutSpec)

end Rows
end Go.Proofs.Ytehefologhfdhaa
