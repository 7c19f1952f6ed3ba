/-
  No cell of these rows narrows 'for every input' (looked for: loops, veiled, ifaces, maps, wideKeys, modest, calm, conditions, laid).
  DERIVED. THE GIVEN ROWS OF THIS SEAT. 3 by the template 'for every input the law returns true; each argument reads behind the call as it read before'; 0 by the template 'total and deterministic' (their statements: YtlehkmadphmfdaaTotals.lean).
  GIVEN WITH THE SEED: the statements are not yours to turn. If you find one false, say at which input.
  Laid BY PROGRAM, IN A SANDBOX (cutbox-rows.mjs): the forced cells as the released guide's own fill.sh prints them over the translation b9110bd7a17b4df8… (all of the seat's roots in one cut). By AI agents, Wed Nov 11 2026. No macro, syntax, notation, axiom, sorry.
-/
import Derived.Test.YtlehkmadphmfdaaChecked
import GoSem.Claim
import GoSem.ClaimJoined
import GoSem.ClaimMapViews
import Derived.JoinedTies
import Derived.KernelRfl
namespace Go.Proofs.Ytlehkmadphmfdaa
/- THE CELL 'sum', in the pinned program and in every row, IS THE sha256 OF THE DUMP (.gsa) THAT YtlehkmadphmfdaaProg.lean LOADS. Nothing in Lean hashes anything: it is a label: what it is worth is what the hold of that sum in a sandbox is worth. -/
noncomputable def Try.pinned : Pinned := { name := "ytlehkmadphmfdaa", sum := "b9110bd7a17b4df8cfe38b28648913ae083da3fed43955fef67c27f96ef64568", checked := Try.checked }
namespace Rows
def none {H : Type} : Left H := { results := [], args := [] }

/-- 'laws.FnExactCountBits': WHATEVER THE INPUT: true; the input reads as it did. -/
def fnExactCountBitsSpec : ChangeSpec := { name := "fnExactCountBits", fn := fun _ => fun
  | [d] => { results := [.lit (.bool true)], args := [d] }
  | _ => none }
def fnExactCountBitsRow : OpenClaim := { program := "ytlehkmadphmfdaa", sum := "b9110bd7a17b4df8cfe38b28648913ae083da3fed43955fef67c27f96ef64568", func := "loop.example/g00605/laws.FnExactCountBits", spec := "fnExactCountBits", apart := false }
def FnExactCountBitsSaid : Prop := fnExactCountBitsRow.holds Try.pinned (OpenSpec.ofChange fnExactCountBitsSpec)

/-- ITS FALSE NEIGHBOUR: 'it returns false'. Refute it at one input. -/
def fnExactCountBitsWrong : ChangeSpec := { name := "fnExactCountBits", fn := fun _ => fun
  | [d] => { results := [.lit (.bool false)], args := [d] }
  | _ => none }
def FnExactCountBitsWrongFalsely : Prop := fnExactCountBitsRow.holds Try.pinned (OpenSpec.ofChange fnExactCountBitsWrong)

/-- 'laws.FnExactPureIn': WHATEVER THE INPUT: true; the input reads as it did. -/
def fnExactPureInSpec : ChangeSpec := { name := "fnExactPureIn", fn := fun _ => fun
  | [d1, d2] => { results := [.lit (.bool true)], args := [d1, d2] }
  | _ => none }
def fnExactPureInRow : OpenClaim := { program := "ytlehkmadphmfdaa", sum := "b9110bd7a17b4df8cfe38b28648913ae083da3fed43955fef67c27f96ef64568", func := "loop.example/g00605/laws.FnExactPureIn", spec := "fnExactPureIn", unfollowed := true, recurses := true, apart := false }
def FnExactPureInSaid : Prop := fnExactPureInRow.holds Try.pinned (OpenSpec.ofChange fnExactPureInSpec)

/-- ITS FALSE NEIGHBOUR: 'it returns false'. Refute it at one input. -/
def fnExactPureInWrong : ChangeSpec := { name := "fnExactPureIn", fn := fun _ => fun
  | [d1, d2] => { results := [.lit (.bool false)], args := [d1, d2] }
  | _ => none }
def FnExactPureInWrongFalsely : Prop := fnExactPureInRow.holds Try.pinned (OpenSpec.ofChange fnExactPureInWrong)

/-- 'laws.FnExactSameModels': WHATEVER THE INPUT: true; the input reads as it did. -/
def fnExactSameModelsSpec : ChangeSpec := { name := "fnExactSameModels", fn := fun _ => fun
  | [d1, d2, d3] => { results := [.lit (.bool true)], args := [d1, d2, d3] }
  | _ => none }
def fnExactSameModelsRow : OpenClaim := { program := "ytlehkmadphmfdaa", sum := "b9110bd7a17b4df8cfe38b28648913ae083da3fed43955fef67c27f96ef64568", func := "loop.example/g00605/laws.FnExactSameModels", spec := "fnExactSameModels", unfollowed := true, recurses := true, apart := false }
def FnExactSameModelsSaid : Prop := fnExactSameModelsRow.holds Try.pinned (OpenSpec.ofChange fnExactSameModelsSpec)

/-- ITS FALSE NEIGHBOUR: 'it returns false'. Refute it at one input. -/
def fnExactSameModelsWrong : ChangeSpec := { name := "fnExactSameModels", fn := fun _ => fun
  | [d1, d2, d3] => { results := [.lit (.bool false)], args := [d1, d2, d3] }
  | _ => none }
def FnExactSameModelsWrongFalsely : Prop := fnExactSameModelsRow.holds Try.pinned (OpenSpec.ofChange fnExactSameModelsWrong)

/- THE SECOND FORM. 'bulk': how many values and letters a reading holds, each counted each time it is reached (what is shared counts as often as it is met; a slice's spare places count too). A statement '..UptoSaid' is the law's where the arguments, and the package variables that the reading takes, are together of bulk at most 1048576: NARROWER than '..Said'. Prove '..Said' where nothing that the law and all that it calls make is longer than what came in: it says more and counts as full. Else prove '..UptoSaid'. A law counts once. -/
mutual
def uptoBulk {H : Type} : DataW H → Nat
  | .lit (.string bytes) => bytes.length + 1
  | .lit _ => 1
  | .nil => 1
  | .ptr d => uptoBulk d + 1
  | .slice elems spare => uptoBulkAll elems + uptoBulkAll spare + 1
  | .agg parts => uptoBulkAll parts + 1
  | .iface _ d => uptoBulk d + 1
  | .map entries => uptoBulkEntries entries + 1
  | .held _ => 1
def uptoBulkAll {H : Type} : List (DataW H) → Nat
  | [] => 0
  | d :: r => uptoBulk d + uptoBulkAll r
def uptoBulkEntries {H : Type} : List (Lit × DataW H) → Nat
  | [] => 0
  | x :: r => uptoBulkEntry x + uptoBulkEntries r
def uptoBulkEntry {H : Type} : Lit × DataW H → Nat
  | (.string bytes, d) => bytes.length + uptoBulk d + 1
  | (_, d) => uptoBulk d + 1
 end
def uptoSmall : (H : Type) → List (DataW H) → Bool := fun _ ds => decide (uptoBulkAll ds ≤ 1048576)
def OpenSpec.upto (s : _root_.Go.ChangeSpec) : _root_.Go.OpenSpec := { _root_.Go.OpenSpec.ofChange s with cond := some uptoSmall }

/-- 'laws.FnExactCountBits', WHERE WHAT IT READS IS OF BULK AT MOST 1048576: true; the input reads as it did. -/
def fnExactCountBitsUptoRow : OpenClaim := { program := "ytlehkmadphmfdaa", sum := "b9110bd7a17b4df8cfe38b28648913ae083da3fed43955fef67c27f96ef64568", func := "loop.example/g00605/laws.FnExactCountBits", spec := "fnExactCountBits", apart := false, narrowed := true }
def FnExactCountBitsUptoSaid : Prop := fnExactCountBitsUptoRow.holds Try.pinned (OpenSpec.upto fnExactCountBitsSpec)

/-- 'laws.FnExactPureIn', WHERE WHAT IT READS IS OF BULK AT MOST 1048576: true; the input reads as it did. -/
def fnExactPureInUptoRow : OpenClaim := { program := "ytlehkmadphmfdaa", sum := "b9110bd7a17b4df8cfe38b28648913ae083da3fed43955fef67c27f96ef64568", func := "loop.example/g00605/laws.FnExactPureIn", spec := "fnExactPureIn", unfollowed := true, recurses := true, apart := false, narrowed := true }
def FnExactPureInUptoSaid : Prop := fnExactPureInUptoRow.holds Try.pinned (OpenSpec.upto fnExactPureInSpec)

/-- 'laws.FnExactSameModels', WHERE WHAT IT READS IS OF BULK AT MOST 1048576: true; the input reads as it did. -/
def fnExactSameModelsUptoRow : OpenClaim := { program := "ytlehkmadphmfdaa", sum := "b9110bd7a17b4df8cfe38b28648913ae083da3fed43955fef67c27f96ef64568", func := "loop.example/g00605/laws.FnExactSameModels", spec := "fnExactSameModels", unfollowed := true, recurses := true, apart := false, narrowed := true }
def FnExactSameModelsUptoSaid : Prop := fnExactSameModelsUptoRow.holds Try.pinned (OpenSpec.upto fnExactSameModelsSpec)

end Rows
end Go.Proofs.Ytlehkmadphmfdaa
