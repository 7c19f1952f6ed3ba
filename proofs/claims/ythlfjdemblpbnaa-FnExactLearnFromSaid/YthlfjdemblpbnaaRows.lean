/-
  No cell of these rows narrows 'for every input' (looked for: loops, veiled, ifaces, maps, wideKeys, modest, calm, conditions, laid).
  DERIVED. THE GIVEN ROWS OF THIS SEAT. 12 by the template 'for every input the law returns true; each argument reads behind the call as it read before'; 0 by the template 'total and deterministic' (their statements: YthlfjdemblpbnaaTotals.lean).
  GIVEN WITH THE SEED: the statements are not yours to turn. If you find one false, say at which input.
  Laid BY PROGRAM, IN A SANDBOX (cutbox-rows.mjs): the forced cells as the released guide's own fill.sh prints them over the translation 532f717a38daee44… (all of the seat's roots in one cut). By AI agents, Wed Nov 11 2026. No macro, syntax, notation, axiom, sorry.
-/
import Derived.Test.YthlfjdemblpbnaaChecked
import GoSem.Claim
import GoSem.ClaimJoined
import GoSem.ClaimMapViews
import Derived.JoinedTies
import Derived.KernelRfl
namespace Go.Proofs.Ythlfjdemblpbnaa
/- THE CELL 'sum', in the pinned program and in every row, IS THE sha256 OF THE DUMP (.gsa) THAT YthlfjdemblpbnaaProg.lean LOADS. Nothing in Lean hashes anything: it is a label: what it is worth is what the hold of that sum in a sandbox is worth. -/
noncomputable def Try.pinned : Pinned := { name := "ythlfjdemblpbnaa", sum := "532f717a38daee4484bdb1b9f56bc9f980474b69aa133c39b00be6aefc5ca05a", checked := Try.checked }
namespace Rows
def none {H : Type} : Left H := { results := [], args := [] }

/-- 'laws.FnExactConstants': WHATEVER THE INPUT: true; the input reads as it did. -/
def fnExactConstantsSpec : ChangeSpec := { name := "fnExactConstants", fn := fun _ => fun
  | [] => { results := [.lit (.bool true)], args := [] }
  | _ => none }
def fnExactConstantsRow : OpenClaim := { program := "ythlfjdemblpbnaa", sum := "532f717a38daee4484bdb1b9f56bc9f980474b69aa133c39b00be6aefc5ca05a", func := "loop.example/g00605/laws.FnExactConstants", spec := "fnExactConstants", apart := false }
def FnExactConstantsSaid : Prop := fnExactConstantsRow.holds Try.pinned (OpenSpec.ofChange fnExactConstantsSpec)

/-- ITS FALSE NEIGHBOUR: 'it returns false'. Refute it at one input. -/
def fnExactConstantsWrong : ChangeSpec := { name := "fnExactConstants", fn := fun _ => fun
  | [] => { results := [.lit (.bool false)], args := [] }
  | _ => none }
def FnExactConstantsWrongFalsely : Prop := fnExactConstantsRow.holds Try.pinned (OpenSpec.ofChange fnExactConstantsWrong)

/-- 'laws.FnExactWordOf': WHATEVER THE INPUT: true; the input reads as it did. -/
def fnExactWordOfSpec : ChangeSpec := { name := "fnExactWordOf", fn := fun _ => fun
  | [d] => { results := [.lit (.bool true)], args := [d] }
  | _ => none }
def fnExactWordOfRow : OpenClaim := { program := "ythlfjdemblpbnaa", sum := "532f717a38daee4484bdb1b9f56bc9f980474b69aa133c39b00be6aefc5ca05a", func := "loop.example/g00605/laws.FnExactWordOf", spec := "fnExactWordOf", apart := false }
def FnExactWordOfSaid : Prop := fnExactWordOfRow.holds Try.pinned (OpenSpec.ofChange fnExactWordOfSpec)

/-- ITS FALSE NEIGHBOUR: 'it returns false'. Refute it at one input. -/
def fnExactWordOfWrong : ChangeSpec := { name := "fnExactWordOf", fn := fun _ => fun
  | [d] => { results := [.lit (.bool false)], args := [d] }
  | _ => none }
def FnExactWordOfWrongFalsely : Prop := fnExactWordOfRow.holds Try.pinned (OpenSpec.ofChange fnExactWordOfWrong)

/-- 'laws.FnExactSwapBytes': WHATEVER THE INPUT: true; the input reads as it did. -/
def fnExactSwapBytesSpec : ChangeSpec := { name := "fnExactSwapBytes", fn := fun _ => fun
  | [d] => { results := [.lit (.bool true)], args := [d] }
  | _ => none }
def fnExactSwapBytesRow : OpenClaim := { program := "ythlfjdemblpbnaa", sum := "532f717a38daee4484bdb1b9f56bc9f980474b69aa133c39b00be6aefc5ca05a", func := "loop.example/g00605/laws.FnExactSwapBytes", spec := "fnExactSwapBytes", apart := false }
def FnExactSwapBytesSaid : Prop := fnExactSwapBytesRow.holds Try.pinned (OpenSpec.ofChange fnExactSwapBytesSpec)

/-- ITS FALSE NEIGHBOUR: 'it returns false'. Refute it at one input. -/
def fnExactSwapBytesWrong : ChangeSpec := { name := "fnExactSwapBytes", fn := fun _ => fun
  | [d] => { results := [.lit (.bool false)], args := [d] }
  | _ => none }
def FnExactSwapBytesWrongFalsely : Prop := fnExactSwapBytesRow.holds Try.pinned (OpenSpec.ofChange fnExactSwapBytesWrong)

/-- 'laws.FnExactNegateWord': WHATEVER THE INPUT: true; the input reads as it did. -/
def fnExactNegateWordSpec : ChangeSpec := { name := "fnExactNegateWord", fn := fun _ => fun
  | [d] => { results := [.lit (.bool true)], args := [d] }
  | _ => none }
def fnExactNegateWordRow : OpenClaim := { program := "ythlfjdemblpbnaa", sum := "532f717a38daee4484bdb1b9f56bc9f980474b69aa133c39b00be6aefc5ca05a", func := "loop.example/g00605/laws.FnExactNegateWord", spec := "fnExactNegateWord", apart := false }
def FnExactNegateWordSaid : Prop := fnExactNegateWordRow.holds Try.pinned (OpenSpec.ofChange fnExactNegateWordSpec)

/-- ITS FALSE NEIGHBOUR: 'it returns false'. Refute it at one input. -/
def fnExactNegateWordWrong : ChangeSpec := { name := "fnExactNegateWord", fn := fun _ => fun
  | [d] => { results := [.lit (.bool false)], args := [d] }
  | _ => none }
def FnExactNegateWordWrongFalsely : Prop := fnExactNegateWordRow.holds Try.pinned (OpenSpec.ofChange fnExactNegateWordWrong)

/-- 'laws.FnExactExtendByte': WHATEVER THE INPUT: true; the input reads as it did. -/
def fnExactExtendByteSpec : ChangeSpec := { name := "fnExactExtendByte", fn := fun _ => fun
  | [d] => { results := [.lit (.bool true)], args := [d] }
  | _ => none }
def fnExactExtendByteRow : OpenClaim := { program := "ythlfjdemblpbnaa", sum := "532f717a38daee4484bdb1b9f56bc9f980474b69aa133c39b00be6aefc5ca05a", func := "loop.example/g00605/laws.FnExactExtendByte", spec := "fnExactExtendByte", apart := false }
def FnExactExtendByteSaid : Prop := fnExactExtendByteRow.holds Try.pinned (OpenSpec.ofChange fnExactExtendByteSpec)

/-- ITS FALSE NEIGHBOUR: 'it returns false'. Refute it at one input. -/
def fnExactExtendByteWrong : ChangeSpec := { name := "fnExactExtendByte", fn := fun _ => fun
  | [d] => { results := [.lit (.bool false)], args := [d] }
  | _ => none }
def FnExactExtendByteWrongFalsely : Prop := fnExactExtendByteRow.holds Try.pinned (OpenSpec.ofChange fnExactExtendByteWrong)

/-- 'laws.FnExactLessSigned': WHATEVER THE INPUT: true; the input reads as it did. -/
def fnExactLessSignedSpec : ChangeSpec := { name := "fnExactLessSigned", fn := fun _ => fun
  | [d1, d2] => { results := [.lit (.bool true)], args := [d1, d2] }
  | _ => none }
def fnExactLessSignedRow : OpenClaim := { program := "ythlfjdemblpbnaa", sum := "532f717a38daee4484bdb1b9f56bc9f980474b69aa133c39b00be6aefc5ca05a", func := "loop.example/g00605/laws.FnExactLessSigned", spec := "fnExactLessSigned", apart := false }
def FnExactLessSignedSaid : Prop := fnExactLessSignedRow.holds Try.pinned (OpenSpec.ofChange fnExactLessSignedSpec)

/-- ITS FALSE NEIGHBOUR: 'it returns false'. Refute it at one input. -/
def fnExactLessSignedWrong : ChangeSpec := { name := "fnExactLessSigned", fn := fun _ => fun
  | [d1, d2] => { results := [.lit (.bool false)], args := [d1, d2] }
  | _ => none }
def FnExactLessSignedWrongFalsely : Prop := fnExactLessSignedRow.holds Try.pinned (OpenSpec.ofChange fnExactLessSignedWrong)

/-- 'laws.FnExactSignedOf': WHATEVER THE INPUT: true; the input reads as it did. -/
def fnExactSignedOfSpec : ChangeSpec := { name := "fnExactSignedOf", fn := fun _ => fun
  | [d] => { results := [.lit (.bool true)], args := [d] }
  | _ => none }
def fnExactSignedOfRow : OpenClaim := { program := "ythlfjdemblpbnaa", sum := "532f717a38daee4484bdb1b9f56bc9f980474b69aa133c39b00be6aefc5ca05a", func := "loop.example/g00605/laws.FnExactSignedOf", spec := "fnExactSignedOf", apart := false }
def FnExactSignedOfSaid : Prop := fnExactSignedOfRow.holds Try.pinned (OpenSpec.ofChange fnExactSignedOfSpec)

/-- ITS FALSE NEIGHBOUR: 'it returns false'. Refute it at one input. -/
def fnExactSignedOfWrong : ChangeSpec := { name := "fnExactSignedOf", fn := fun _ => fun
  | [d] => { results := [.lit (.bool false)], args := [d] }
  | _ => none }
def FnExactSignedOfWrongFalsely : Prop := fnExactSignedOfRow.holds Try.pinned (OpenSpec.ofChange fnExactSignedOfWrong)

/-- 'laws.FnExactCountBits': WHATEVER THE INPUT: true; the input reads as it did. -/
def fnExactCountBitsSpec : ChangeSpec := { name := "fnExactCountBits", fn := fun _ => fun
  | [d] => { results := [.lit (.bool true)], args := [d] }
  | _ => none }
def fnExactCountBitsRow : OpenClaim := { program := "ythlfjdemblpbnaa", sum := "532f717a38daee4484bdb1b9f56bc9f980474b69aa133c39b00be6aefc5ca05a", func := "loop.example/g00605/laws.FnExactCountBits", spec := "fnExactCountBits", apart := false }
def FnExactCountBitsSaid : Prop := fnExactCountBitsRow.holds Try.pinned (OpenSpec.ofChange fnExactCountBitsSpec)

/-- ITS FALSE NEIGHBOUR: 'it returns false'. Refute it at one input. -/
def fnExactCountBitsWrong : ChangeSpec := { name := "fnExactCountBits", fn := fun _ => fun
  | [d] => { results := [.lit (.bool false)], args := [d] }
  | _ => none }
def FnExactCountBitsWrongFalsely : Prop := fnExactCountBitsRow.holds Try.pinned (OpenSpec.ofChange fnExactCountBitsWrong)

/-- 'laws.FnExactDoOp': WHATEVER THE INPUT: true; the input reads as it did. -/
def fnExactDoOpSpec : ChangeSpec := { name := "fnExactDoOp", fn := fun _ => fun
  | [d1, d2, d3] => { results := [.lit (.bool true)], args := [d1, d2, d3] }
  | _ => none }
def fnExactDoOpRow : OpenClaim := { program := "ythlfjdemblpbnaa", sum := "532f717a38daee4484bdb1b9f56bc9f980474b69aa133c39b00be6aefc5ca05a", func := "loop.example/g00605/laws.FnExactDoOp", spec := "fnExactDoOp", apart := false }
def FnExactDoOpSaid : Prop := fnExactDoOpRow.holds Try.pinned (OpenSpec.ofChange fnExactDoOpSpec)

/-- ITS FALSE NEIGHBOUR: 'it returns false'. Refute it at one input. -/
def fnExactDoOpWrong : ChangeSpec := { name := "fnExactDoOp", fn := fun _ => fun
  | [d1, d2, d3] => { results := [.lit (.bool false)], args := [d1, d2, d3] }
  | _ => none }
def FnExactDoOpWrongFalsely : Prop := fnExactDoOpRow.holds Try.pinned (OpenSpec.ofChange fnExactDoOpWrong)

/-- 'laws.FnExactProofSize': WHATEVER THE INPUT: true; the input reads as it did. -/
def fnExactProofSizeSpec : ChangeSpec := { name := "fnExactProofSize", fn := fun _ => fun
  | [d] => { results := [.lit (.bool true)], args := [d] }
  | _ => none }
def fnExactProofSizeRow : OpenClaim := { program := "ythlfjdemblpbnaa", sum := "532f717a38daee4484bdb1b9f56bc9f980474b69aa133c39b00be6aefc5ca05a", func := "loop.example/g00605/laws.FnExactProofSize", spec := "fnExactProofSize", apart := false }
def FnExactProofSizeSaid : Prop := fnExactProofSizeRow.holds Try.pinned (OpenSpec.ofChange fnExactProofSizeSpec)

/-- ITS FALSE NEIGHBOUR: 'it returns false'. Refute it at one input. -/
def fnExactProofSizeWrong : ChangeSpec := { name := "fnExactProofSize", fn := fun _ => fun
  | [d] => { results := [.lit (.bool false)], args := [d] }
  | _ => none }
def FnExactProofSizeWrongFalsely : Prop := fnExactProofSizeRow.holds Try.pinned (OpenSpec.ofChange fnExactProofSizeWrong)

/-- 'laws.FnExactNewMachine': WHATEVER THE INPUT: true; the input reads as it did. -/
def fnExactNewMachineSpec : ChangeSpec := { name := "fnExactNewMachine", fn := fun _ => fun
  | [] => { results := [.lit (.bool true)], args := [] }
  | _ => none }
def fnExactNewMachineRow : OpenClaim := { program := "ythlfjdemblpbnaa", sum := "532f717a38daee4484bdb1b9f56bc9f980474b69aa133c39b00be6aefc5ca05a", func := "loop.example/g00605/laws.FnExactNewMachine", spec := "fnExactNewMachine", apart := false }
def FnExactNewMachineSaid : Prop := fnExactNewMachineRow.holds Try.pinned (OpenSpec.ofChange fnExactNewMachineSpec)

/-- ITS FALSE NEIGHBOUR: 'it returns false'. Refute it at one input. -/
def fnExactNewMachineWrong : ChangeSpec := { name := "fnExactNewMachine", fn := fun _ => fun
  | [] => { results := [.lit (.bool false)], args := [] }
  | _ => none }
def FnExactNewMachineWrongFalsely : Prop := fnExactNewMachineRow.holds Try.pinned (OpenSpec.ofChange fnExactNewMachineWrong)

/-- 'laws.FnExactLearnFrom': WHATEVER THE INPUT: true; the input reads as it did. -/
def fnExactLearnFromSpec : ChangeSpec := { name := "fnExactLearnFrom", fn := fun _ => fun
  | [d] => { results := [.lit (.bool true)], args := [d] }
  | _ => none }
def fnExactLearnFromRow : OpenClaim := { program := "ythlfjdemblpbnaa", sum := "532f717a38daee4484bdb1b9f56bc9f980474b69aa133c39b00be6aefc5ca05a", func := "loop.example/g00605/laws.FnExactLearnFrom", spec := "fnExactLearnFrom", unfollowed := true, recurses := true, apart := false }
def FnExactLearnFromSaid : Prop := fnExactLearnFromRow.holds Try.pinned (OpenSpec.ofChange fnExactLearnFromSpec)

/-- ITS FALSE NEIGHBOUR: 'it returns false'. Refute it at one input. -/
def fnExactLearnFromWrong : ChangeSpec := { name := "fnExactLearnFrom", fn := fun _ => fun
  | [d] => { results := [.lit (.bool false)], args := [d] }
  | _ => none }
def FnExactLearnFromWrongFalsely : Prop := fnExactLearnFromRow.holds Try.pinned (OpenSpec.ofChange fnExactLearnFromWrong)

/- THE SECOND FORM. 'bulk': how many values and letters a reading holds, each counted each time it is reached (what is shared counts as often as it is met; a slice's spare places count too). A statement '..UptoSaid' is the law's where the arguments, and the package variables that the reading takes, are together of bulk at most 1048576: NARROWER than '..Said'. Prove '..Said' where nothing that the law and all that it calls make is longer than what came in: it says more and counts as full. Else prove '..UptoSaid'. A law counts once. -/
mutual
def uptoBulk {H : Type} : DataW H → Nat
  | .lit (.string bytes) => bytes.length + 1
  | .lit _ => 1
  | .nil => 1
  | .ptr d => uptoBulk d + 1
  | .slice elems spare => uptoBulkAll elems + uptoBulkAll spare + 1
  | .agg parts => uptoBulkAll parts + 1
  | .iface _ d => uptoBulk d + 1
  | .map entries => uptoBulkEntries entries + 1
  | .held _ => 1
def uptoBulkAll {H : Type} : List (DataW H) → Nat
  | [] => 0
  | d :: r => uptoBulk d + uptoBulkAll r
def uptoBulkEntries {H : Type} : List (Lit × DataW H) → Nat
  | [] => 0
  | x :: r => uptoBulkEntry x + uptoBulkEntries r
def uptoBulkEntry {H : Type} : Lit × DataW H → Nat
  | (.string bytes, d) => bytes.length + uptoBulk d + 1
  | (_, d) => uptoBulk d + 1
 end
def uptoSmall : (H : Type) → List (DataW H) → Bool := fun _ ds => decide (uptoBulkAll ds ≤ 1048576)
def OpenSpec.upto (s : _root_.Go.ChangeSpec) : _root_.Go.OpenSpec := { _root_.Go.OpenSpec.ofChange s with cond := some uptoSmall }

/-- 'laws.FnExactConstants', WHERE WHAT IT READS IS OF BULK AT MOST 1048576: true; the input reads as it did. -/
def fnExactConstantsUptoRow : OpenClaim := { program := "ythlfjdemblpbnaa", sum := "532f717a38daee4484bdb1b9f56bc9f980474b69aa133c39b00be6aefc5ca05a", func := "loop.example/g00605/laws.FnExactConstants", spec := "fnExactConstants", apart := false, narrowed := true }
def FnExactConstantsUptoSaid : Prop := fnExactConstantsUptoRow.holds Try.pinned (OpenSpec.upto fnExactConstantsSpec)

/-- 'laws.FnExactWordOf', WHERE WHAT IT READS IS OF BULK AT MOST 1048576: true; the input reads as it did. -/
def fnExactWordOfUptoRow : OpenClaim := { program := "ythlfjdemblpbnaa", sum := "532f717a38daee4484bdb1b9f56bc9f980474b69aa133c39b00be6aefc5ca05a", func := "loop.example/g00605/laws.FnExactWordOf", spec := "fnExactWordOf", apart := false, narrowed := true }
def FnExactWordOfUptoSaid : Prop := fnExactWordOfUptoRow.holds Try.pinned (OpenSpec.upto fnExactWordOfSpec)

/-- 'laws.FnExactSwapBytes', WHERE WHAT IT READS IS OF BULK AT MOST 1048576: true; the input reads as it did. -/
def fnExactSwapBytesUptoRow : OpenClaim := { program := "ythlfjdemblpbnaa", sum := "532f717a38daee4484bdb1b9f56bc9f980474b69aa133c39b00be6aefc5ca05a", func := "loop.example/g00605/laws.FnExactSwapBytes", spec := "fnExactSwapBytes", apart := false, narrowed := true }
def FnExactSwapBytesUptoSaid : Prop := fnExactSwapBytesUptoRow.holds Try.pinned (OpenSpec.upto fnExactSwapBytesSpec)

/-- 'laws.FnExactNegateWord', WHERE WHAT IT READS IS OF BULK AT MOST 1048576: true; the input reads as it did. -/
def fnExactNegateWordUptoRow : OpenClaim := { program := "ythlfjdemblpbnaa", sum := "532f717a38daee4484bdb1b9f56bc9f980474b69aa133c39b00be6aefc5ca05a", func := "loop.example/g00605/laws.FnExactNegateWord", spec := "fnExactNegateWord", apart := false, narrowed := true }
def FnExactNegateWordUptoSaid : Prop := fnExactNegateWordUptoRow.holds Try.pinned (OpenSpec.upto fnExactNegateWordSpec)

/-- 'laws.FnExactExtendByte', WHERE WHAT IT READS IS OF BULK AT MOST 1048576: true; the input reads as it did. -/
def fnExactExtendByteUptoRow : OpenClaim := { program := "ythlfjdemblpbnaa", sum := "532f717a38daee4484bdb1b9f56bc9f980474b69aa133c39b00be6aefc5ca05a", func := "loop.example/g00605/laws.FnExactExtendByte", spec := "fnExactExtendByte", apart := false, narrowed := true }
def FnExactExtendByteUptoSaid : Prop := fnExactExtendByteUptoRow.holds Try.pinned (OpenSpec.upto fnExactExtendByteSpec)

/-- 'laws.FnExactLessSigned', WHERE WHAT IT READS IS OF BULK AT MOST 1048576: true; the input reads as it did. -/
def fnExactLessSignedUptoRow : OpenClaim := { program := "ythlfjdemblpbnaa", sum := "532f717a38daee4484bdb1b9f56bc9f980474b69aa133c39b00be6aefc5ca05a", func := "loop.example/g00605/laws.FnExactLessSigned", spec := "fnExactLessSigned", apart := false, narrowed := true }
def FnExactLessSignedUptoSaid : Prop := fnExactLessSignedUptoRow.holds Try.pinned (OpenSpec.upto fnExactLessSignedSpec)

/-- 'laws.FnExactSignedOf', WHERE WHAT IT READS IS OF BULK AT MOST 1048576: true; the input reads as it did. -/
def fnExactSignedOfUptoRow : OpenClaim := { program := "ythlfjdemblpbnaa", sum := "532f717a38daee4484bdb1b9f56bc9f980474b69aa133c39b00be6aefc5ca05a", func := "loop.example/g00605/laws.FnExactSignedOf", spec := "fnExactSignedOf", apart := false, narrowed := true }
def FnExactSignedOfUptoSaid : Prop := fnExactSignedOfUptoRow.holds Try.pinned (OpenSpec.upto fnExactSignedOfSpec)

/-- 'laws.FnExactCountBits', WHERE WHAT IT READS IS OF BULK AT MOST 1048576: true; the input reads as it did. -/
def fnExactCountBitsUptoRow : OpenClaim := { program := "ythlfjdemblpbnaa", sum := "532f717a38daee4484bdb1b9f56bc9f980474b69aa133c39b00be6aefc5ca05a", func := "loop.example/g00605/laws.FnExactCountBits", spec := "fnExactCountBits", apart := false, narrowed := true }
def FnExactCountBitsUptoSaid : Prop := fnExactCountBitsUptoRow.holds Try.pinned (OpenSpec.upto fnExactCountBitsSpec)

/-- 'laws.FnExactDoOp', WHERE WHAT IT READS IS OF BULK AT MOST 1048576: true; the input reads as it did. -/
def fnExactDoOpUptoRow : OpenClaim := { program := "ythlfjdemblpbnaa", sum := "532f717a38daee4484bdb1b9f56bc9f980474b69aa133c39b00be6aefc5ca05a", func := "loop.example/g00605/laws.FnExactDoOp", spec := "fnExactDoOp", apart := false, narrowed := true }
def FnExactDoOpUptoSaid : Prop := fnExactDoOpUptoRow.holds Try.pinned (OpenSpec.upto fnExactDoOpSpec)

/-- 'laws.FnExactProofSize', WHERE WHAT IT READS IS OF BULK AT MOST 1048576: true; the input reads as it did. -/
def fnExactProofSizeUptoRow : OpenClaim := { program := "ythlfjdemblpbnaa", sum := "532f717a38daee4484bdb1b9f56bc9f980474b69aa133c39b00be6aefc5ca05a", func := "loop.example/g00605/laws.FnExactProofSize", spec := "fnExactProofSize", apart := false, narrowed := true }
def FnExactProofSizeUptoSaid : Prop := fnExactProofSizeUptoRow.holds Try.pinned (OpenSpec.upto fnExactProofSizeSpec)

/-- 'laws.FnExactNewMachine', WHERE WHAT IT READS IS OF BULK AT MOST 1048576: true; the input reads as it did. -/
def fnExactNewMachineUptoRow : OpenClaim := { program := "ythlfjdemblpbnaa", sum := "532f717a38daee4484bdb1b9f56bc9f980474b69aa133c39b00be6aefc5ca05a", func := "loop.example/g00605/laws.FnExactNewMachine", spec := "fnExactNewMachine", apart := false, narrowed := true }
def FnExactNewMachineUptoSaid : Prop := fnExactNewMachineUptoRow.holds Try.pinned (OpenSpec.upto fnExactNewMachineSpec)

/-- 'laws.FnExactLearnFrom', WHERE WHAT IT READS IS OF BULK AT MOST 1048576: true; the input reads as it did. -/
def fnExactLearnFromUptoRow : OpenClaim := { program := "ythlfjdemblpbnaa", sum := "532f717a38daee4484bdb1b9f56bc9f980474b69aa133c39b00be6aefc5ca05a", func := "loop.example/g00605/laws.FnExactLearnFrom", spec := "fnExactLearnFrom", unfollowed := true, recurses := true, apart := false, narrowed := true }
def FnExactLearnFromUptoSaid : Prop := fnExactLearnFromUptoRow.holds Try.pinned (OpenSpec.upto fnExactLearnFromSpec)

end Rows
end Go.Proofs.Ythlfjdemblpbnaa
