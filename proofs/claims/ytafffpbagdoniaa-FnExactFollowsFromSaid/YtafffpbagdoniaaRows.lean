/-
  No cell of these rows narrows 'for every input' (looked for: loops, veiled, ifaces, maps, wideKeys, modest, calm, conditions, laid).
  DERIVED. THE GIVEN ROWS OF THIS SEAT. 8 by the template 'for every input the law returns true; each argument reads behind the call as it read before'; 0 by the template 'total and deterministic' (their statements: YtafffpbagdoniaaTotals.lean).
  GIVEN WITH THE SEED: the statements are not yours to turn. If you find one false, say at which input.
  Laid BY PROGRAM, IN A SANDBOX (cutbox-rows.mjs): the forced cells as the released guide's own fill.sh prints them over the translation b3ae405fd6ec4c6e… (all of the seat's roots in one cut). By AI agents, Wed Nov 11 2026. No macro, syntax, notation, axiom, sorry.
-/
import Derived.Test.YtafffpbagdoniaaChecked
import GoSem.Claim
import GoSem.ClaimJoined
import GoSem.ClaimMapViews
import Derived.JoinedTies
import Derived.KernelRfl
namespace Go.Proofs.Ytafffpbagdoniaa
/- THE CELL 'sum', in the pinned program and in every row, IS THE sha256 OF THE DUMP (.gsa) THAT YtafffpbagdoniaaProg.lean LOADS. Nothing in Lean hashes anything: it is a label: what it is worth is what the hold of that sum in a sandbox is worth. -/
noncomputable def Try.pinned : Pinned := { name := "ytafffpbagdoniaa", sum := "b3ae405fd6ec4c6e48f7f0f8fbca6cb3db04a7db35ad677f90f4e41ccb511458", checked := Try.checked }
namespace Rows
def none {H : Type} : Left H := { results := [], args := [] }

/-- 'laws.FnExactCheckProof': WHATEVER THE INPUT: true; the input reads as it did. -/
def fnExactCheckProofSpec : ChangeSpec := { name := "fnExactCheckProof", fn := fun _ => fun
  | [d1, d2, d3] => { results := [.lit (.bool true)], args := [d1, d2, d3] }
  | _ => none }
def fnExactCheckProofRow : OpenClaim := { program := "ytafffpbagdoniaa", sum := "b3ae405fd6ec4c6e48f7f0f8fbca6cb3db04a7db35ad677f90f4e41ccb511458", func := "loop.example/g00605/laws.FnExactCheckProof", spec := "fnExactCheckProof", unfollowed := true, recurses := true, apart := false }
def FnExactCheckProofSaid : Prop := fnExactCheckProofRow.holds Try.pinned (OpenSpec.ofChange fnExactCheckProofSpec)

/-- ITS FALSE NEIGHBOUR: 'it returns false'. Refute it at one input. -/
def fnExactCheckProofWrong : ChangeSpec := { name := "fnExactCheckProof", fn := fun _ => fun
  | [d1, d2, d3] => { results := [.lit (.bool false)], args := [d1, d2, d3] }
  | _ => none }
def FnExactCheckProofWrongFalsely : Prop := fnExactCheckProofRow.holds Try.pinned (OpenSpec.ofChange fnExactCheckProofWrong)

/-- 'laws.FnExactNeededIn': WHATEVER THE INPUT: true; the input reads as it did. -/
def fnExactNeededInSpec : ChangeSpec := { name := "fnExactNeededIn", fn := fun _ => fun
  | [d1, d2, d3] => { results := [.lit (.bool true)], args := [d1, d2, d3] }
  | _ => none }
def fnExactNeededInRow : OpenClaim := { program := "ytafffpbagdoniaa", sum := "b3ae405fd6ec4c6e48f7f0f8fbca6cb3db04a7db35ad677f90f4e41ccb511458", func := "loop.example/g00605/laws.FnExactNeededIn", spec := "fnExactNeededIn", unfollowed := true, recurses := true, apart := false }
def FnExactNeededInSaid : Prop := fnExactNeededInRow.holds Try.pinned (OpenSpec.ofChange fnExactNeededInSpec)

/-- ITS FALSE NEIGHBOUR: 'it returns false'. Refute it at one input. -/
def fnExactNeededInWrong : ChangeSpec := { name := "fnExactNeededIn", fn := fun _ => fun
  | [d1, d2, d3] => { results := [.lit (.bool false)], args := [d1, d2, d3] }
  | _ => none }
def FnExactNeededInWrongFalsely : Prop := fnExactNeededInRow.holds Try.pinned (OpenSpec.ofChange fnExactNeededInWrong)

/-- 'laws.FnExactFollowsFrom': WHATEVER THE INPUT: true; the input reads as it did. -/
def fnExactFollowsFromSpec : ChangeSpec := { name := "fnExactFollowsFrom", fn := fun _ => fun
  | [d1, d2, d3] => { results := [.lit (.bool true)], args := [d1, d2, d3] }
  | _ => none }
def fnExactFollowsFromRow : OpenClaim := { program := "ytafffpbagdoniaa", sum := "b3ae405fd6ec4c6e48f7f0f8fbca6cb3db04a7db35ad677f90f4e41ccb511458", func := "loop.example/g00605/laws.FnExactFollowsFrom", spec := "fnExactFollowsFrom", unfollowed := true, recurses := true, apart := false }
def FnExactFollowsFromSaid : Prop := fnExactFollowsFromRow.holds Try.pinned (OpenSpec.ofChange fnExactFollowsFromSpec)

/-- ITS FALSE NEIGHBOUR: 'it returns false'. Refute it at one input. -/
def fnExactFollowsFromWrong : ChangeSpec := { name := "fnExactFollowsFrom", fn := fun _ => fun
  | [d1, d2, d3] => { results := [.lit (.bool false)], args := [d1, d2, d3] }
  | _ => none }
def FnExactFollowsFromWrongFalsely : Prop := fnExactFollowsFromRow.holds Try.pinned (OpenSpec.ofChange fnExactFollowsFromWrong)

/-- 'laws.FnExactTrimProof': WHATEVER THE INPUT: true; the input reads as it did. -/
def fnExactTrimProofSpec : ChangeSpec := { name := "fnExactTrimProof", fn := fun _ => fun
  | [d1, d2, d3] => { results := [.lit (.bool true)], args := [d1, d2, d3] }
  | _ => none }
def fnExactTrimProofRow : OpenClaim := { program := "ytafffpbagdoniaa", sum := "b3ae405fd6ec4c6e48f7f0f8fbca6cb3db04a7db35ad677f90f4e41ccb511458", func := "loop.example/g00605/laws.FnExactTrimProof", spec := "fnExactTrimProof", unfollowed := true, recurses := true, apart := false }
def FnExactTrimProofSaid : Prop := fnExactTrimProofRow.holds Try.pinned (OpenSpec.ofChange fnExactTrimProofSpec)

/-- ITS FALSE NEIGHBOUR: 'it returns false'. Refute it at one input. -/
def fnExactTrimProofWrong : ChangeSpec := { name := "fnExactTrimProof", fn := fun _ => fun
  | [d1, d2, d3] => { results := [.lit (.bool false)], args := [d1, d2, d3] }
  | _ => none }
def FnExactTrimProofWrongFalsely : Prop := fnExactTrimProofRow.holds Try.pinned (OpenSpec.ofChange fnExactTrimProofWrong)

/-- 'laws.FnExactProofOf': WHATEVER THE INPUT: true; the input reads as it did. -/
def fnExactProofOfSpec : ChangeSpec := { name := "fnExactProofOf", fn := fun _ => fun
  | [d1, d2] => { results := [.lit (.bool true)], args := [d1, d2] }
  | _ => none }
def fnExactProofOfRow : OpenClaim := { program := "ytafffpbagdoniaa", sum := "b3ae405fd6ec4c6e48f7f0f8fbca6cb3db04a7db35ad677f90f4e41ccb511458", func := "loop.example/g00605/laws.FnExactProofOf", spec := "fnExactProofOf", unfollowed := true, recurses := true, apart := false }
def FnExactProofOfSaid : Prop := fnExactProofOfRow.holds Try.pinned (OpenSpec.ofChange fnExactProofOfSpec)

/-- ITS FALSE NEIGHBOUR: 'it returns false'. Refute it at one input. -/
def fnExactProofOfWrong : ChangeSpec := { name := "fnExactProofOf", fn := fun _ => fun
  | [d1, d2] => { results := [.lit (.bool false)], args := [d1, d2] }
  | _ => none }
def FnExactProofOfWrongFalsely : Prop := fnExactProofOfRow.holds Try.pinned (OpenSpec.ofChange fnExactProofOfWrong)

/-- 'laws.FnExactRefuteBy': WHATEVER THE INPUT: true; the input reads as it did. -/
def fnExactRefuteBySpec : ChangeSpec := { name := "fnExactRefuteBy", fn := fun _ => fun
  | [d1, d2] => { results := [.lit (.bool true)], args := [d1, d2] }
  | _ => none }
def fnExactRefuteByRow : OpenClaim := { program := "ytafffpbagdoniaa", sum := "b3ae405fd6ec4c6e48f7f0f8fbca6cb3db04a7db35ad677f90f4e41ccb511458", func := "loop.example/g00605/laws.FnExactRefuteBy", spec := "fnExactRefuteBy", unfollowed := true, recurses := true, apart := false }
def FnExactRefuteBySaid : Prop := fnExactRefuteByRow.holds Try.pinned (OpenSpec.ofChange fnExactRefuteBySpec)

/-- ITS FALSE NEIGHBOUR: 'it returns false'. Refute it at one input. -/
def fnExactRefuteByWrong : ChangeSpec := { name := "fnExactRefuteBy", fn := fun _ => fun
  | [d1, d2] => { results := [.lit (.bool false)], args := [d1, d2] }
  | _ => none }
def FnExactRefuteByWrongFalsely : Prop := fnExactRefuteByRow.holds Try.pinned (OpenSpec.ofChange fnExactRefuteByWrong)

/-- 'laws.FnExactSolve': WHATEVER THE INPUT: true; the input reads as it did. -/
def fnExactSolveSpec : ChangeSpec := { name := "fnExactSolve", fn := fun _ => fun
  | [d1, d2] => { results := [.lit (.bool true)], args := [d1, d2] }
  | _ => none }
def fnExactSolveRow : OpenClaim := { program := "ytafffpbagdoniaa", sum := "b3ae405fd6ec4c6e48f7f0f8fbca6cb3db04a7db35ad677f90f4e41ccb511458", func := "loop.example/g00605/laws.FnExactSolve", spec := "fnExactSolve", unfollowed := true, recurses := true, apart := false }
def FnExactSolveSaid : Prop := fnExactSolveRow.holds Try.pinned (OpenSpec.ofChange fnExactSolveSpec)

/-- ITS FALSE NEIGHBOUR: 'it returns false'. Refute it at one input. -/
def fnExactSolveWrong : ChangeSpec := { name := "fnExactSolve", fn := fun _ => fun
  | [d1, d2] => { results := [.lit (.bool false)], args := [d1, d2] }
  | _ => none }
def FnExactSolveWrongFalsely : Prop := fnExactSolveRow.holds Try.pinned (OpenSpec.ofChange fnExactSolveWrong)

/-- 'laws.FnExactSolveWith': WHATEVER THE INPUT: true; the input reads as it did. -/
def fnExactSolveWithSpec : ChangeSpec := { name := "fnExactSolveWith", fn := fun _ => fun
  | [d1, d2, d3] => { results := [.lit (.bool true)], args := [d1, d2, d3] }
  | _ => none }
def fnExactSolveWithRow : OpenClaim := { program := "ytafffpbagdoniaa", sum := "b3ae405fd6ec4c6e48f7f0f8fbca6cb3db04a7db35ad677f90f4e41ccb511458", func := "loop.example/g00605/laws.FnExactSolveWith", spec := "fnExactSolveWith", unfollowed := true, recurses := true, apart := false }
def FnExactSolveWithSaid : Prop := fnExactSolveWithRow.holds Try.pinned (OpenSpec.ofChange fnExactSolveWithSpec)

/-- ITS FALSE NEIGHBOUR: 'it returns false'. Refute it at one input. -/
def fnExactSolveWithWrong : ChangeSpec := { name := "fnExactSolveWith", fn := fun _ => fun
  | [d1, d2, d3] => { results := [.lit (.bool false)], args := [d1, d2, d3] }
  | _ => none }
def FnExactSolveWithWrongFalsely : Prop := fnExactSolveWithRow.holds Try.pinned (OpenSpec.ofChange fnExactSolveWithWrong)

/- THE SECOND FORM. 'bulk': how many values and letters a reading holds, each counted each time it is reached (what is shared counts as often as it is met; a slice's spare places count too). A statement '..UptoSaid' is the law's where the arguments, and the package variables that the reading takes, are together of bulk at most 1048576: NARROWER than '..Said'. Prove '..Said' where nothing that the law and all that it calls make is longer than what came in: it says more and counts as full. Else prove '..UptoSaid'. A law counts once. -/
mutual
def uptoBulk {H : Type} : DataW H → Nat
  | .lit (.string bytes) => bytes.length + 1
  | .lit _ => 1
  | .nil => 1
  | .ptr d => uptoBulk d + 1
  | .slice elems spare => uptoBulkAll elems + uptoBulkAll spare + 1
  | .agg parts => uptoBulkAll parts + 1
  | .iface _ d => uptoBulk d + 1
  | .map entries => uptoBulkEntries entries + 1
  | .held _ => 1
def uptoBulkAll {H : Type} : List (DataW H) → Nat
  | [] => 0
  | d :: r => uptoBulk d + uptoBulkAll r
def uptoBulkEntries {H : Type} : List (Lit × DataW H) → Nat
  | [] => 0
  | x :: r => uptoBulkEntry x + uptoBulkEntries r
def uptoBulkEntry {H : Type} : Lit × DataW H → Nat
  | (.string bytes, d) => bytes.length + uptoBulk d + 1
  | (_, d) => uptoBulk d + 1
 end
def uptoSmall : (H : Type) → List (DataW H) → Bool := fun _ ds => decide (uptoBulkAll ds ≤ 1048576)
def OpenSpec.upto (s : _root_.Go.ChangeSpec) : _root_.Go.OpenSpec := { _root_.Go.OpenSpec.ofChange s with cond := some uptoSmall }

/-- 'laws.FnExactCheckProof', WHERE WHAT IT READS IS OF BULK AT MOST 1048576: true; the input reads as it did. -/
def fnExactCheckProofUptoRow : OpenClaim := { program := "ytafffpbagdoniaa", sum := "b3ae405fd6ec4c6e48f7f0f8fbca6cb3db04a7db35ad677f90f4e41ccb511458", func := "loop.example/g00605/laws.FnExactCheckProof", spec := "fnExactCheckProof", unfollowed := true, recurses := true, apart := false, narrowed := true }
def FnExactCheckProofUptoSaid : Prop := fnExactCheckProofUptoRow.holds Try.pinned (OpenSpec.upto fnExactCheckProofSpec)

/-- 'laws.FnExactNeededIn', WHERE WHAT IT READS IS OF BULK AT MOST 1048576: true; the input reads as it did. -/
def fnExactNeededInUptoRow : OpenClaim := { program := "ytafffpbagdoniaa", sum := "b3ae405fd6ec4c6e48f7f0f8fbca6cb3db04a7db35ad677f90f4e41ccb511458", func := "loop.example/g00605/laws.FnExactNeededIn", spec := "fnExactNeededIn", unfollowed := true, recurses := true, apart := false, narrowed := true }
def FnExactNeededInUptoSaid : Prop := fnExactNeededInUptoRow.holds Try.pinned (OpenSpec.upto fnExactNeededInSpec)

/-- 'laws.FnExactFollowsFrom', WHERE WHAT IT READS IS OF BULK AT MOST 1048576: true; the input reads as it did. -/
def fnExactFollowsFromUptoRow : OpenClaim := { program := "ytafffpbagdoniaa", sum := "b3ae405fd6ec4c6e48f7f0f8fbca6cb3db04a7db35ad677f90f4e41ccb511458", func := "loop.example/g00605/laws.FnExactFollowsFrom", spec := "fnExactFollowsFrom", unfollowed := true, recurses := true, apart := false, narrowed := true }
def FnExactFollowsFromUptoSaid : Prop := fnExactFollowsFromUptoRow.holds Try.pinned (OpenSpec.upto fnExactFollowsFromSpec)

/-- 'laws.FnExactTrimProof', WHERE WHAT IT READS IS OF BULK AT MOST 1048576: true; the input reads as it did. -/
def fnExactTrimProofUptoRow : OpenClaim := { program := "ytafffpbagdoniaa", sum := "b3ae405fd6ec4c6e48f7f0f8fbca6cb3db04a7db35ad677f90f4e41ccb511458", func := "loop.example/g00605/laws.FnExactTrimProof", spec := "fnExactTrimProof", unfollowed := true, recurses := true, apart := false, narrowed := true }
def FnExactTrimProofUptoSaid : Prop := fnExactTrimProofUptoRow.holds Try.pinned (OpenSpec.upto fnExactTrimProofSpec)

/-- 'laws.FnExactProofOf', WHERE WHAT IT READS IS OF BULK AT MOST 1048576: true; the input reads as it did. -/
def fnExactProofOfUptoRow : OpenClaim := { program := "ytafffpbagdoniaa", sum := "b3ae405fd6ec4c6e48f7f0f8fbca6cb3db04a7db35ad677f90f4e41ccb511458", func := "loop.example/g00605/laws.FnExactProofOf", spec := "fnExactProofOf", unfollowed := true, recurses := true, apart := false, narrowed := true }
def FnExactProofOfUptoSaid : Prop := fnExactProofOfUptoRow.holds Try.pinned (OpenSpec.upto fnExactProofOfSpec)

/-- 'laws.FnExactRefuteBy', WHERE WHAT IT READS IS OF BULK AT MOST 1048576: true; the input reads as it did. -/
def fnExactRefuteByUptoRow : OpenClaim := { program := "ytafffpbagdoniaa", sum := "b3ae405fd6ec4c6e48f7f0f8fbca6cb3db04a7db35ad677f90f4e41ccb511458", func := "loop.example/g00605/laws.FnExactRefuteBy", spec := "fnExactRefuteBy", unfollowed := true, recurses := true, apart := false, narrowed := true }
def FnExactRefuteByUptoSaid : Prop := fnExactRefuteByUptoRow.holds Try.pinned (OpenSpec.upto fnExactRefuteBySpec)

/-- 'laws.FnExactSolve', WHERE WHAT IT READS IS OF BULK AT MOST 1048576: true; the input reads as it did. -/
def fnExactSolveUptoRow : OpenClaim := { program := "ytafffpbagdoniaa", sum := "b3ae405fd6ec4c6e48f7f0f8fbca6cb3db04a7db35ad677f90f4e41ccb511458", func := "loop.example/g00605/laws.FnExactSolve", spec := "fnExactSolve", unfollowed := true, recurses := true, apart := false, narrowed := true }
def FnExactSolveUptoSaid : Prop := fnExactSolveUptoRow.holds Try.pinned (OpenSpec.upto fnExactSolveSpec)

/-- 'laws.FnExactSolveWith', WHERE WHAT IT READS IS OF BULK AT MOST 1048576: true; the input reads as it did. -/
def fnExactSolveWithUptoRow : OpenClaim := { program := "ytafffpbagdoniaa", sum := "b3ae405fd6ec4c6e48f7f0f8fbca6cb3db04a7db35ad677f90f4e41ccb511458", func := "loop.example/g00605/laws.FnExactSolveWith", spec := "fnExactSolveWith", unfollowed := true, recurses := true, apart := false, narrowed := true }
def FnExactSolveWithUptoSaid : Prop := fnExactSolveWithUptoRow.holds Try.pinned (OpenSpec.upto fnExactSolveWithSpec)

end Rows
end Go.Proofs.Ytafffpbagdoniaa
