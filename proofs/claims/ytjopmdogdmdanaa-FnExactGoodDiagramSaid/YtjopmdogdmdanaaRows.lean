/-
  No cell of these rows narrows 'for every input' (looked for: loops, veiled, ifaces, maps, wideKeys, modest, calm, conditions, laid).
  DERIVED. THE GIVEN ROWS OF THIS SEAT. 11 by the template 'for every input the law returns true; each argument reads behind the call as it read before'; 0 by the template 'total and deterministic' (their statements: YtjopmdogdmdanaaTotals.lean).
  GIVEN WITH THE SEED: the statements are not yours to turn. If you find one false, say at which input.
  Laid BY PROGRAM, IN A SANDBOX (cutbox-rows.mjs): the forced cells as the released guide's own fill.sh prints them over the translation 2c19d2b079ed1885… (all of the seat's roots in one cut). By AI agents, Wed Nov 11 2026. No macro, syntax, notation, axiom, sorry.
-/
import Derived.Test.YtjopmdogdmdanaaChecked
import GoSem.Claim
import GoSem.ClaimJoined
import GoSem.ClaimMapViews
import Derived.JoinedTies
import Derived.KernelRfl
namespace Go.Proofs.Ytjopmdogdmdanaa
/- THE CELL 'sum', in the pinned program and in every row, IS THE sha256 OF THE DUMP (.gsa) THAT YtjopmdogdmdanaaProg.lean LOADS. Nothing in Lean hashes anything: it is a label: what it is worth is what the hold of that sum in a sandbox is worth. -/
noncomputable def Try.pinned : Pinned := { name := "ytjopmdogdmdanaa", sum := "2c19d2b079ed18857de1951d963c8eaed819c52c9ea7ebe3da23a34765e3c2fa", checked := Try.checked }
namespace Rows
def none {H : Type} : Left H := { results := [], args := [] }

/-- 'laws.FnExactStepBytes': WHATEVER THE INPUT: true; the input reads as it did. -/
def fnExactStepBytesSpec : ChangeSpec := { name := "fnExactStepBytes", fn := fun _ => fun
  | [d] => { results := [.lit (.bool true)], args := [d] }
  | _ => none }
def fnExactStepBytesRow : OpenClaim := { program := "ytjopmdogdmdanaa", sum := "2c19d2b079ed18857de1951d963c8eaed819c52c9ea7ebe3da23a34765e3c2fa", func := "loop.example/g00605/laws.FnExactStepBytes", spec := "fnExactStepBytes", apart := false }
def FnExactStepBytesSaid : Prop := fnExactStepBytesRow.holds Try.pinned (OpenSpec.ofChange fnExactStepBytesSpec)

/-- ITS FALSE NEIGHBOUR: 'it returns false'. Refute it at one input. -/
def fnExactStepBytesWrong : ChangeSpec := { name := "fnExactStepBytes", fn := fun _ => fun
  | [d] => { results := [.lit (.bool false)], args := [d] }
  | _ => none }
def FnExactStepBytesWrongFalsely : Prop := fnExactStepBytesRow.holds Try.pinned (OpenSpec.ofChange fnExactStepBytesWrong)

/-- 'laws.FnExactGoodProgram': WHATEVER THE INPUT: true; the input reads as it did. -/
def fnExactGoodProgramSpec : ChangeSpec := { name := "fnExactGoodProgram", fn := fun _ => fun
  | [d] => { results := [.lit (.bool true)], args := [d] }
  | _ => none }
def fnExactGoodProgramRow : OpenClaim := { program := "ytjopmdogdmdanaa", sum := "2c19d2b079ed18857de1951d963c8eaed819c52c9ea7ebe3da23a34765e3c2fa", func := "loop.example/g00605/laws.FnExactGoodProgram", spec := "fnExactGoodProgram", apart := false }
def FnExactGoodProgramSaid : Prop := fnExactGoodProgramRow.holds Try.pinned (OpenSpec.ofChange fnExactGoodProgramSpec)

/-- ITS FALSE NEIGHBOUR: 'it returns false'. Refute it at one input. -/
def fnExactGoodProgramWrong : ChangeSpec := { name := "fnExactGoodProgram", fn := fun _ => fun
  | [d] => { results := [.lit (.bool false)], args := [d] }
  | _ => none }
def FnExactGoodProgramWrongFalsely : Prop := fnExactGoodProgramRow.holds Try.pinned (OpenSpec.ofChange fnExactGoodProgramWrong)

/-- 'laws.FnExactProgramBytes': WHATEVER THE INPUT: true; the input reads as it did. -/
def fnExactProgramBytesSpec : ChangeSpec := { name := "fnExactProgramBytes", fn := fun _ => fun
  | [d] => { results := [.lit (.bool true)], args := [d] }
  | _ => none }
def fnExactProgramBytesRow : OpenClaim := { program := "ytjopmdogdmdanaa", sum := "2c19d2b079ed18857de1951d963c8eaed819c52c9ea7ebe3da23a34765e3c2fa", func := "loop.example/g00605/laws.FnExactProgramBytes", spec := "fnExactProgramBytes", apart := false }
def FnExactProgramBytesSaid : Prop := fnExactProgramBytesRow.holds Try.pinned (OpenSpec.ofChange fnExactProgramBytesSpec)

/-- ITS FALSE NEIGHBOUR: 'it returns false'. Refute it at one input. -/
def fnExactProgramBytesWrong : ChangeSpec := { name := "fnExactProgramBytes", fn := fun _ => fun
  | [d] => { results := [.lit (.bool false)], args := [d] }
  | _ => none }
def FnExactProgramBytesWrongFalsely : Prop := fnExactProgramBytesRow.holds Try.pinned (OpenSpec.ofChange fnExactProgramBytesWrong)

/-- 'laws.FnExactNextsOf': WHATEVER THE INPUT: true; the input reads as it did. -/
def fnExactNextsOfSpec : ChangeSpec := { name := "fnExactNextsOf", fn := fun _ => fun
  | [d1, d2] => { results := [.lit (.bool true)], args := [d1, d2] }
  | _ => none }
def fnExactNextsOfRow : OpenClaim := { program := "ytjopmdogdmdanaa", sum := "2c19d2b079ed18857de1951d963c8eaed819c52c9ea7ebe3da23a34765e3c2fa", func := "loop.example/g00605/laws.FnExactNextsOf", spec := "fnExactNextsOf", apart := false }
def FnExactNextsOfSaid : Prop := fnExactNextsOfRow.holds Try.pinned (OpenSpec.ofChange fnExactNextsOfSpec)

/-- ITS FALSE NEIGHBOUR: 'it returns false'. Refute it at one input. -/
def fnExactNextsOfWrong : ChangeSpec := { name := "fnExactNextsOf", fn := fun _ => fun
  | [d1, d2] => { results := [.lit (.bool false)], args := [d1, d2] }
  | _ => none }
def FnExactNextsOfWrongFalsely : Prop := fnExactNextsOfRow.holds Try.pinned (OpenSpec.ofChange fnExactNextsOfWrong)

/-- 'laws.FnExactSlotsOf': WHATEVER THE INPUT: true; the input reads as it did. -/
def fnExactSlotsOfSpec : ChangeSpec := { name := "fnExactSlotsOf", fn := fun _ => fun
  | [d] => { results := [.lit (.bool true)], args := [d] }
  | _ => none }
def fnExactSlotsOfRow : OpenClaim := { program := "ytjopmdogdmdanaa", sum := "2c19d2b079ed18857de1951d963c8eaed819c52c9ea7ebe3da23a34765e3c2fa", func := "loop.example/g00605/laws.FnExactSlotsOf", spec := "fnExactSlotsOf", apart := false }
def FnExactSlotsOfSaid : Prop := fnExactSlotsOfRow.holds Try.pinned (OpenSpec.ofChange fnExactSlotsOfSpec)

/-- ITS FALSE NEIGHBOUR: 'it returns false'. Refute it at one input. -/
def fnExactSlotsOfWrong : ChangeSpec := { name := "fnExactSlotsOf", fn := fun _ => fun
  | [d] => { results := [.lit (.bool false)], args := [d] }
  | _ => none }
def FnExactSlotsOfWrongFalsely : Prop := fnExactSlotsOfRow.holds Try.pinned (OpenSpec.ofChange fnExactSlotsOfWrong)

/-- 'laws.FnExactReadProgram': WHATEVER THE INPUT: true; the input reads as it did. -/
def fnExactReadProgramSpec : ChangeSpec := { name := "fnExactReadProgram", fn := fun _ => fun
  | [d] => { results := [.lit (.bool true)], args := [d] }
  | _ => none }
def fnExactReadProgramRow : OpenClaim := { program := "ytjopmdogdmdanaa", sum := "2c19d2b079ed18857de1951d963c8eaed819c52c9ea7ebe3da23a34765e3c2fa", func := "loop.example/g00605/laws.FnExactReadProgram", spec := "fnExactReadProgram", apart := false }
def FnExactReadProgramSaid : Prop := fnExactReadProgramRow.holds Try.pinned (OpenSpec.ofChange fnExactReadProgramSpec)

/-- ITS FALSE NEIGHBOUR: 'it returns false'. Refute it at one input. -/
def fnExactReadProgramWrong : ChangeSpec := { name := "fnExactReadProgram", fn := fun _ => fun
  | [d] => { results := [.lit (.bool false)], args := [d] }
  | _ => none }
def FnExactReadProgramWrongFalsely : Prop := fnExactReadProgramRow.holds Try.pinned (OpenSpec.ofChange fnExactReadProgramWrong)

/-- 'laws.FnExactDiagramOf': WHATEVER THE INPUT: true; the input reads as it did. -/
def fnExactDiagramOfSpec : ChangeSpec := { name := "fnExactDiagramOf", fn := fun _ => fun
  | [d1, d2] => { results := [.lit (.bool true)], args := [d1, d2] }
  | _ => none }
def fnExactDiagramOfRow : OpenClaim := { program := "ytjopmdogdmdanaa", sum := "2c19d2b079ed18857de1951d963c8eaed819c52c9ea7ebe3da23a34765e3c2fa", func := "loop.example/g00605/laws.FnExactDiagramOf", spec := "fnExactDiagramOf", recurses := true, apart := false }
def FnExactDiagramOfSaid : Prop := fnExactDiagramOfRow.holds Try.pinned (OpenSpec.ofChange fnExactDiagramOfSpec)

/-- ITS FALSE NEIGHBOUR: 'it returns false'. Refute it at one input. -/
def fnExactDiagramOfWrong : ChangeSpec := { name := "fnExactDiagramOf", fn := fun _ => fun
  | [d1, d2] => { results := [.lit (.bool false)], args := [d1, d2] }
  | _ => none }
def FnExactDiagramOfWrongFalsely : Prop := fnExactDiagramOfRow.holds Try.pinned (OpenSpec.ofChange fnExactDiagramOfWrong)

/-- 'laws.FnExactGoodDiagram': WHATEVER THE INPUT: true; the input reads as it did. -/
def fnExactGoodDiagramSpec : ChangeSpec := { name := "fnExactGoodDiagram", fn := fun _ => fun
  | [d] => { results := [.lit (.bool true)], args := [d] }
  | _ => none }
def fnExactGoodDiagramRow : OpenClaim := { program := "ytjopmdogdmdanaa", sum := "2c19d2b079ed18857de1951d963c8eaed819c52c9ea7ebe3da23a34765e3c2fa", func := "loop.example/g00605/laws.FnExactGoodDiagram", spec := "fnExactGoodDiagram", recurses := true, apart := false }
def FnExactGoodDiagramSaid : Prop := fnExactGoodDiagramRow.holds Try.pinned (OpenSpec.ofChange fnExactGoodDiagramSpec)

/-- ITS FALSE NEIGHBOUR: 'it returns false'. Refute it at one input. -/
def fnExactGoodDiagramWrong : ChangeSpec := { name := "fnExactGoodDiagram", fn := fun _ => fun
  | [d] => { results := [.lit (.bool false)], args := [d] }
  | _ => none }
def FnExactGoodDiagramWrongFalsely : Prop := fnExactGoodDiagramRow.holds Try.pinned (OpenSpec.ofChange fnExactGoodDiagramWrong)

/-- 'laws.FnExactRunProgram': WHATEVER THE INPUT: true; the input reads as it did. -/
def fnExactRunProgramSpec : ChangeSpec := { name := "fnExactRunProgram", fn := fun _ => fun
  | [d1, d2, d3] => { results := [.lit (.bool true)], args := [d1, d2, d3] }
  | _ => none }
def fnExactRunProgramRow : OpenClaim := { program := "ytjopmdogdmdanaa", sum := "2c19d2b079ed18857de1951d963c8eaed819c52c9ea7ebe3da23a34765e3c2fa", func := "loop.example/g00605/laws.FnExactRunProgram", spec := "fnExactRunProgram", unfollowed := true, recurses := true, apart := false }
def FnExactRunProgramSaid : Prop := fnExactRunProgramRow.holds Try.pinned (OpenSpec.ofChange fnExactRunProgramSpec)

/-- ITS FALSE NEIGHBOUR: 'it returns false'. Refute it at one input. -/
def fnExactRunProgramWrong : ChangeSpec := { name := "fnExactRunProgram", fn := fun _ => fun
  | [d1, d2, d3] => { results := [.lit (.bool false)], args := [d1, d2, d3] }
  | _ => none }
def FnExactRunProgramWrongFalsely : Prop := fnExactRunProgramRow.holds Try.pinned (OpenSpec.ofChange fnExactRunProgramWrong)

/-- 'laws.FnExactFaultFree': WHATEVER THE INPUT: true; the input reads as it did. -/
def fnExactFaultFreeSpec : ChangeSpec := { name := "fnExactFaultFree", fn := fun _ => fun
  | [d1, d2] => { results := [.lit (.bool true)], args := [d1, d2] }
  | _ => none }
def fnExactFaultFreeRow : OpenClaim := { program := "ytjopmdogdmdanaa", sum := "2c19d2b079ed18857de1951d963c8eaed819c52c9ea7ebe3da23a34765e3c2fa", func := "loop.example/g00605/laws.FnExactFaultFree", spec := "fnExactFaultFree", unfollowed := true, recurses := true, apart := false }
def FnExactFaultFreeSaid : Prop := fnExactFaultFreeRow.holds Try.pinned (OpenSpec.ofChange fnExactFaultFreeSpec)

/-- ITS FALSE NEIGHBOUR: 'it returns false'. Refute it at one input. -/
def fnExactFaultFreeWrong : ChangeSpec := { name := "fnExactFaultFree", fn := fun _ => fun
  | [d1, d2] => { results := [.lit (.bool false)], args := [d1, d2] }
  | _ => none }
def FnExactFaultFreeWrongFalsely : Prop := fnExactFaultFreeRow.holds Try.pinned (OpenSpec.ofChange fnExactFaultFreeWrong)

/-- 'laws.FnExactTraceOf': WHATEVER THE INPUT: true; the input reads as it did. -/
def fnExactTraceOfSpec : ChangeSpec := { name := "fnExactTraceOf", fn := fun _ => fun
  | [d1, d2] => { results := [.lit (.bool true)], args := [d1, d2] }
  | _ => none }
def fnExactTraceOfRow : OpenClaim := { program := "ytjopmdogdmdanaa", sum := "2c19d2b079ed18857de1951d963c8eaed819c52c9ea7ebe3da23a34765e3c2fa", func := "loop.example/g00605/laws.FnExactTraceOf", spec := "fnExactTraceOf", unfollowed := true, recurses := true, apart := false }
def FnExactTraceOfSaid : Prop := fnExactTraceOfRow.holds Try.pinned (OpenSpec.ofChange fnExactTraceOfSpec)

/-- ITS FALSE NEIGHBOUR: 'it returns false'. Refute it at one input. -/
def fnExactTraceOfWrong : ChangeSpec := { name := "fnExactTraceOf", fn := fun _ => fun
  | [d1, d2] => { results := [.lit (.bool false)], args := [d1, d2] }
  | _ => none }
def FnExactTraceOfWrongFalsely : Prop := fnExactTraceOfRow.holds Try.pinned (OpenSpec.ofChange fnExactTraceOfWrong)

/- THE SECOND FORM. 'bulk': how many values and letters a reading holds, each counted each time it is reached (what is shared counts as often as it is met; a slice's spare places count too). A statement '..UptoSaid' is the law's where the arguments, and the package variables that the reading takes, are together of bulk at most 1048576: NARROWER than '..Said'. Prove '..Said' where nothing that the law and all that it calls make is longer than what came in: it says more and counts as full. Else prove '..UptoSaid'. A law counts once. -/
mutual
def uptoBulk {H : Type} : DataW H → Nat
  | .lit (.string bytes) => bytes.length + 1
  | .lit _ => 1
  | .nil => 1
  | .ptr d => uptoBulk d + 1
  | .slice elems spare => uptoBulkAll elems + uptoBulkAll spare + 1
  | .agg parts => uptoBulkAll parts + 1
  | .iface _ d => uptoBulk d + 1
  | .map entries => uptoBulkEntries entries + 1
  | .held _ => 1
def uptoBulkAll {H : Type} : List (DataW H) → Nat
  | [] => 0
  | d :: r => uptoBulk d + uptoBulkAll r
def uptoBulkEntries {H : Type} : List (Lit × DataW H) → Nat
  | [] => 0
  | x :: r => uptoBulkEntry x + uptoBulkEntries r
def uptoBulkEntry {H : Type} : Lit × DataW H → Nat
  | (.string bytes, d) => bytes.length + uptoBulk d + 1
  | (_, d) => uptoBulk d + 1
 end
def uptoSmall : (H : Type) → List (DataW H) → Bool := fun _ ds => decide (uptoBulkAll ds ≤ 1048576)
def OpenSpec.upto (s : _root_.Go.ChangeSpec) : _root_.Go.OpenSpec := { _root_.Go.OpenSpec.ofChange s with cond := some uptoSmall }

/-- 'laws.FnExactStepBytes', WHERE WHAT IT READS IS OF BULK AT MOST 1048576: true; the input reads as it did. -/
def fnExactStepBytesUptoRow : OpenClaim := { program := "ytjopmdogdmdanaa", sum := "2c19d2b079ed18857de1951d963c8eaed819c52c9ea7ebe3da23a34765e3c2fa", func := "loop.example/g00605/laws.FnExactStepBytes", spec := "fnExactStepBytes", apart := false, narrowed := true }
def FnExactStepBytesUptoSaid : Prop := fnExactStepBytesUptoRow.holds Try.pinned (OpenSpec.upto fnExactStepBytesSpec)

/-- 'laws.FnExactGoodProgram', WHERE WHAT IT READS IS OF BULK AT MOST 1048576: true; the input reads as it did. -/
def fnExactGoodProgramUptoRow : OpenClaim := { program := "ytjopmdogdmdanaa", sum := "2c19d2b079ed18857de1951d963c8eaed819c52c9ea7ebe3da23a34765e3c2fa", func := "loop.example/g00605/laws.FnExactGoodProgram", spec := "fnExactGoodProgram", apart := false, narrowed := true }
def FnExactGoodProgramUptoSaid : Prop := fnExactGoodProgramUptoRow.holds Try.pinned (OpenSpec.upto fnExactGoodProgramSpec)

/-- 'laws.FnExactProgramBytes', WHERE WHAT IT READS IS OF BULK AT MOST 1048576: true; the input reads as it did. -/
def fnExactProgramBytesUptoRow : OpenClaim := { program := "ytjopmdogdmdanaa", sum := "2c19d2b079ed18857de1951d963c8eaed819c52c9ea7ebe3da23a34765e3c2fa", func := "loop.example/g00605/laws.FnExactProgramBytes", spec := "fnExactProgramBytes", apart := false, narrowed := true }
def FnExactProgramBytesUptoSaid : Prop := fnExactProgramBytesUptoRow.holds Try.pinned (OpenSpec.upto fnExactProgramBytesSpec)

/-- 'laws.FnExactNextsOf', WHERE WHAT IT READS IS OF BULK AT MOST 1048576: true; the input reads as it did. -/
def fnExactNextsOfUptoRow : OpenClaim := { program := "ytjopmdogdmdanaa", sum := "2c19d2b079ed18857de1951d963c8eaed819c52c9ea7ebe3da23a34765e3c2fa", func := "loop.example/g00605/laws.FnExactNextsOf", spec := "fnExactNextsOf", apart := false, narrowed := true }
def FnExactNextsOfUptoSaid : Prop := fnExactNextsOfUptoRow.holds Try.pinned (OpenSpec.upto fnExactNextsOfSpec)

/-- 'laws.FnExactSlotsOf', WHERE WHAT IT READS IS OF BULK AT MOST 1048576: true; the input reads as it did. -/
def fnExactSlotsOfUptoRow : OpenClaim := { program := "ytjopmdogdmdanaa", sum := "2c19d2b079ed18857de1951d963c8eaed819c52c9ea7ebe3da23a34765e3c2fa", func := "loop.example/g00605/laws.FnExactSlotsOf", spec := "fnExactSlotsOf", apart := false, narrowed := true }
def FnExactSlotsOfUptoSaid : Prop := fnExactSlotsOfUptoRow.holds Try.pinned (OpenSpec.upto fnExactSlotsOfSpec)

/-- 'laws.FnExactReadProgram', WHERE WHAT IT READS IS OF BULK AT MOST 1048576: true; the input reads as it did. -/
def fnExactReadProgramUptoRow : OpenClaim := { program := "ytjopmdogdmdanaa", sum := "2c19d2b079ed18857de1951d963c8eaed819c52c9ea7ebe3da23a34765e3c2fa", func := "loop.example/g00605/laws.FnExactReadProgram", spec := "fnExactReadProgram", apart := false, narrowed := true }
def FnExactReadProgramUptoSaid : Prop := fnExactReadProgramUptoRow.holds Try.pinned (OpenSpec.upto fnExactReadProgramSpec)

/-- 'laws.FnExactDiagramOf', WHERE WHAT IT READS IS OF BULK AT MOST 1048576: true; the input reads as it did. -/
def fnExactDiagramOfUptoRow : OpenClaim := { program := "ytjopmdogdmdanaa", sum := "2c19d2b079ed18857de1951d963c8eaed819c52c9ea7ebe3da23a34765e3c2fa", func := "loop.example/g00605/laws.FnExactDiagramOf", spec := "fnExactDiagramOf", recurses := true, apart := false, narrowed := true }
def FnExactDiagramOfUptoSaid : Prop := fnExactDiagramOfUptoRow.holds Try.pinned (OpenSpec.upto fnExactDiagramOfSpec)

/-- 'laws.FnExactGoodDiagram', WHERE WHAT IT READS IS OF BULK AT MOST 1048576: true; the input reads as it did. -/
def fnExactGoodDiagramUptoRow : OpenClaim := { program := "ytjopmdogdmdanaa", sum := "2c19d2b079ed18857de1951d963c8eaed819c52c9ea7ebe3da23a34765e3c2fa", func := "loop.example/g00605/laws.FnExactGoodDiagram", spec := "fnExactGoodDiagram", recurses := true, apart := false, narrowed := true }
def FnExactGoodDiagramUptoSaid : Prop := fnExactGoodDiagramUptoRow.holds Try.pinned (OpenSpec.upto fnExactGoodDiagramSpec)

/-- 'laws.FnExactRunProgram', WHERE WHAT IT READS IS OF BULK AT MOST 1048576: true; the input reads as it did. -/
def fnExactRunProgramUptoRow : OpenClaim := { program := "ytjopmdogdmdanaa", sum := "2c19d2b079ed18857de1951d963c8eaed819c52c9ea7ebe3da23a34765e3c2fa", func := "loop.example/g00605/laws.FnExactRunProgram", spec := "fnExactRunProgram", unfollowed := true, recurses := true, apart := false, narrowed := true }
def FnExactRunProgramUptoSaid : Prop := fnExactRunProgramUptoRow.holds Try.pinned (OpenSpec.upto fnExactRunProgramSpec)

/-- 'laws.FnExactFaultFree', WHERE WHAT IT READS IS OF BULK AT MOST 1048576: true; the input reads as it did. -/
def fnExactFaultFreeUptoRow : OpenClaim := { program := "ytjopmdogdmdanaa", sum := "2c19d2b079ed18857de1951d963c8eaed819c52c9ea7ebe3da23a34765e3c2fa", func := "loop.example/g00605/laws.FnExactFaultFree", spec := "fnExactFaultFree", unfollowed := true, recurses := true, apart := false, narrowed := true }
def FnExactFaultFreeUptoSaid : Prop := fnExactFaultFreeUptoRow.holds Try.pinned (OpenSpec.upto fnExactFaultFreeSpec)

/-- 'laws.FnExactTraceOf', WHERE WHAT IT READS IS OF BULK AT MOST 1048576: true; the input reads as it did. -/
def fnExactTraceOfUptoRow : OpenClaim := { program := "ytjopmdogdmdanaa", sum := "2c19d2b079ed18857de1951d963c8eaed819c52c9ea7ebe3da23a34765e3c2fa", func := "loop.example/g00605/laws.FnExactTraceOf", spec := "fnExactTraceOf", unfollowed := true, recurses := true, apart := false, narrowed := true }
def FnExactTraceOfUptoSaid : Prop := fnExactTraceOfUptoRow.holds Try.pinned (OpenSpec.upto fnExactTraceOfSpec)

end Rows
end Go.Proofs.Ytjopmdogdmdanaa
