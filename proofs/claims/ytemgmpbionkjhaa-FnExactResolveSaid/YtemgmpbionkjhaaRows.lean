/-
  No cell of these rows narrows 'for every input' (looked for: loops, veiled, ifaces, maps, wideKeys, modest, calm, conditions, laid).
  DERIVED. THE GIVEN ROWS OF THIS SEAT. 12 by the template 'for every input the law returns true; each argument reads behind the call as it read before'; 0 by the template 'total and deterministic' (their statements: YtemgmpbionkjhaaTotals.lean).
  GIVEN WITH THE SEED: the statements are not yours to turn. If you find one false, say at which input.
  Laid BY PROGRAM, IN A SANDBOX (cutbox-rows.mjs): the forced cells as the released guide's own fill.sh prints them over the translation a86ed17046b33772… (all of the seat's roots in one cut). By AI agents, Wed Nov 11 2026. No macro, syntax, notation, axiom, sorry.
-/
import Derived.Test.YtemgmpbionkjhaaChecked
import GoSem.Claim
import GoSem.ClaimJoined
import GoSem.ClaimMapViews
import Derived.JoinedTies
import Derived.KernelRfl
namespace Go.Proofs.Ytemgmpbionkjhaa
/- THE CELL 'sum', in the pinned program and in every row, IS THE sha256 OF THE DUMP (.gsa) THAT YtemgmpbionkjhaaProg.lean LOADS. Nothing in Lean hashes anything: it is a label: what it is worth is what the hold of that sum in a sandbox is worth. -/
noncomputable def Try.pinned : Pinned := { name := "ytemgmpbionkjhaa", sum := "a86ed17046b337728bc55bc64cb2c1338f73c3ee63fe87dcb9d17d2fcabd3725", checked := Try.checked }
namespace Rows
def none {H : Type} : Left H := { results := [], args := [] }

/-- 'laws.FnExactGoodClauses': WHATEVER THE INPUT: true; the input reads as it did. -/
def fnExactGoodClausesSpec : ChangeSpec := { name := "fnExactGoodClauses", fn := fun _ => fun
  | [d1, d2] => { results := [.lit (.bool true)], args := [d1, d2] }
  | _ => none }
def fnExactGoodClausesRow : OpenClaim := { program := "ytemgmpbionkjhaa", sum := "a86ed17046b337728bc55bc64cb2c1338f73c3ee63fe87dcb9d17d2fcabd3725", func := "loop.example/g00605/laws.FnExactGoodClauses", spec := "fnExactGoodClauses", unfollowed := true, recurses := true, apart := false }
def FnExactGoodClausesSaid : Prop := fnExactGoodClausesRow.holds Try.pinned (OpenSpec.ofChange fnExactGoodClausesSpec)

/-- ITS FALSE NEIGHBOUR: 'it returns false'. Refute it at one input. -/
def fnExactGoodClausesWrong : ChangeSpec := { name := "fnExactGoodClauses", fn := fun _ => fun
  | [d1, d2] => { results := [.lit (.bool false)], args := [d1, d2] }
  | _ => none }
def FnExactGoodClausesWrongFalsely : Prop := fnExactGoodClausesRow.holds Try.pinned (OpenSpec.ofChange fnExactGoodClausesWrong)

/-- 'laws.FnExactCleanClause': WHATEVER THE INPUT: true; the input reads as it did. -/
def fnExactCleanClauseSpec : ChangeSpec := { name := "fnExactCleanClause", fn := fun _ => fun
  | [d] => { results := [.lit (.bool true)], args := [d] }
  | _ => none }
def fnExactCleanClauseRow : OpenClaim := { program := "ytemgmpbionkjhaa", sum := "a86ed17046b337728bc55bc64cb2c1338f73c3ee63fe87dcb9d17d2fcabd3725", func := "loop.example/g00605/laws.FnExactCleanClause", spec := "fnExactCleanClause", unfollowed := true, recurses := true, apart := false }
def FnExactCleanClauseSaid : Prop := fnExactCleanClauseRow.holds Try.pinned (OpenSpec.ofChange fnExactCleanClauseSpec)

/-- ITS FALSE NEIGHBOUR: 'it returns false'. Refute it at one input. -/
def fnExactCleanClauseWrong : ChangeSpec := { name := "fnExactCleanClause", fn := fun _ => fun
  | [d] => { results := [.lit (.bool false)], args := [d] }
  | _ => none }
def FnExactCleanClauseWrongFalsely : Prop := fnExactCleanClauseRow.holds Try.pinned (OpenSpec.ofChange fnExactCleanClauseWrong)

/-- 'laws.FnExactResolve': WHATEVER THE INPUT: true; the input reads as it did. -/
def fnExactResolveSpec : ChangeSpec := { name := "fnExactResolve", fn := fun _ => fun
  | [d1, d2, d3] => { results := [.lit (.bool true)], args := [d1, d2, d3] }
  | _ => none }
def fnExactResolveRow : OpenClaim := { program := "ytemgmpbionkjhaa", sum := "a86ed17046b337728bc55bc64cb2c1338f73c3ee63fe87dcb9d17d2fcabd3725", func := "loop.example/g00605/laws.FnExactResolve", spec := "fnExactResolve", unfollowed := true, recurses := true, apart := false }
def FnExactResolveSaid : Prop := fnExactResolveRow.holds Try.pinned (OpenSpec.ofChange fnExactResolveSpec)

/-- ITS FALSE NEIGHBOUR: 'it returns false'. Refute it at one input. -/
def fnExactResolveWrong : ChangeSpec := { name := "fnExactResolve", fn := fun _ => fun
  | [d1, d2, d3] => { results := [.lit (.bool false)], args := [d1, d2, d3] }
  | _ => none }
def FnExactResolveWrongFalsely : Prop := fnExactResolveRow.holds Try.pinned (OpenSpec.ofChange fnExactResolveWrong)

/-- 'laws.FnExactHoldsAll': WHATEVER THE INPUT: true; the input reads as it did. -/
def fnExactHoldsAllSpec : ChangeSpec := { name := "fnExactHoldsAll", fn := fun _ => fun
  | [d1, d2, d3] => { results := [.lit (.bool true)], args := [d1, d2, d3] }
  | _ => none }
def fnExactHoldsAllRow : OpenClaim := { program := "ytemgmpbionkjhaa", sum := "a86ed17046b337728bc55bc64cb2c1338f73c3ee63fe87dcb9d17d2fcabd3725", func := "loop.example/g00605/laws.FnExactHoldsAll", spec := "fnExactHoldsAll", unfollowed := true, recurses := true, apart := false }
def FnExactHoldsAllSaid : Prop := fnExactHoldsAllRow.holds Try.pinned (OpenSpec.ofChange fnExactHoldsAllSpec)

/-- ITS FALSE NEIGHBOUR: 'it returns false'. Refute it at one input. -/
def fnExactHoldsAllWrong : ChangeSpec := { name := "fnExactHoldsAll", fn := fun _ => fun
  | [d1, d2, d3] => { results := [.lit (.bool false)], args := [d1, d2, d3] }
  | _ => none }
def FnExactHoldsAllWrongFalsely : Prop := fnExactHoldsAllRow.holds Try.pinned (OpenSpec.ofChange fnExactHoldsAllWrong)

/-- 'laws.FnExactCountModels': WHATEVER THE INPUT: true; the input reads as it did. -/
def fnExactCountModelsSpec : ChangeSpec := { name := "fnExactCountModels", fn := fun _ => fun
  | [d1, d2] => { results := [.lit (.bool true)], args := [d1, d2] }
  | _ => none }
def fnExactCountModelsRow : OpenClaim := { program := "ytemgmpbionkjhaa", sum := "a86ed17046b337728bc55bc64cb2c1338f73c3ee63fe87dcb9d17d2fcabd3725", func := "loop.example/g00605/laws.FnExactCountModels", spec := "fnExactCountModels", unfollowed := true, recurses := true, apart := false }
def FnExactCountModelsSaid : Prop := fnExactCountModelsRow.holds Try.pinned (OpenSpec.ofChange fnExactCountModelsSpec)

/-- ITS FALSE NEIGHBOUR: 'it returns false'. Refute it at one input. -/
def fnExactCountModelsWrong : ChangeSpec := { name := "fnExactCountModels", fn := fun _ => fun
  | [d1, d2] => { results := [.lit (.bool false)], args := [d1, d2] }
  | _ => none }
def FnExactCountModelsWrongFalsely : Prop := fnExactCountModelsRow.holds Try.pinned (OpenSpec.ofChange fnExactCountModelsWrong)

/-- 'laws.FnExactPureIn': WHATEVER THE INPUT: true; the input reads as it did. -/
def fnExactPureInSpec : ChangeSpec := { name := "fnExactPureIn", fn := fun _ => fun
  | [d1, d2] => { results := [.lit (.bool true)], args := [d1, d2] }
  | _ => none }
def fnExactPureInRow : OpenClaim := { program := "ytemgmpbionkjhaa", sum := "a86ed17046b337728bc55bc64cb2c1338f73c3ee63fe87dcb9d17d2fcabd3725", func := "loop.example/g00605/laws.FnExactPureIn", spec := "fnExactPureIn", unfollowed := true, recurses := true, apart := false }
def FnExactPureInSaid : Prop := fnExactPureInRow.holds Try.pinned (OpenSpec.ofChange fnExactPureInSpec)

/-- ITS FALSE NEIGHBOUR: 'it returns false'. Refute it at one input. -/
def fnExactPureInWrong : ChangeSpec := { name := "fnExactPureIn", fn := fun _ => fun
  | [d1, d2] => { results := [.lit (.bool false)], args := [d1, d2] }
  | _ => none }
def FnExactPureInWrongFalsely : Prop := fnExactPureInRow.holds Try.pinned (OpenSpec.ofChange fnExactPureInWrong)

/-- 'laws.FnExactReduce': WHATEVER THE INPUT: true; the input reads as it did. -/
def fnExactReduceSpec : ChangeSpec := { name := "fnExactReduce", fn := fun _ => fun
  | [d1, d2, d3] => { results := [.lit (.bool true)], args := [d1, d2, d3] }
  | _ => none }
def fnExactReduceRow : OpenClaim := { program := "ytemgmpbionkjhaa", sum := "a86ed17046b337728bc55bc64cb2c1338f73c3ee63fe87dcb9d17d2fcabd3725", func := "loop.example/g00605/laws.FnExactReduce", spec := "fnExactReduce", unfollowed := true, recurses := true, apart := false }
def FnExactReduceSaid : Prop := fnExactReduceRow.holds Try.pinned (OpenSpec.ofChange fnExactReduceSpec)

/-- ITS FALSE NEIGHBOUR: 'it returns false'. Refute it at one input. -/
def fnExactReduceWrong : ChangeSpec := { name := "fnExactReduce", fn := fun _ => fun
  | [d1, d2, d3] => { results := [.lit (.bool false)], args := [d1, d2, d3] }
  | _ => none }
def FnExactReduceWrongFalsely : Prop := fnExactReduceRow.holds Try.pinned (OpenSpec.ofChange fnExactReduceWrong)

/-- 'laws.FnExactSameModels': WHATEVER THE INPUT: true; the input reads as it did. -/
def fnExactSameModelsSpec : ChangeSpec := { name := "fnExactSameModels", fn := fun _ => fun
  | [d1, d2, d3] => { results := [.lit (.bool true)], args := [d1, d2, d3] }
  | _ => none }
def fnExactSameModelsRow : OpenClaim := { program := "ytemgmpbionkjhaa", sum := "a86ed17046b337728bc55bc64cb2c1338f73c3ee63fe87dcb9d17d2fcabd3725", func := "loop.example/g00605/laws.FnExactSameModels", spec := "fnExactSameModels", unfollowed := true, recurses := true, apart := false }
def FnExactSameModelsSaid : Prop := fnExactSameModelsRow.holds Try.pinned (OpenSpec.ofChange fnExactSameModelsSpec)

/-- ITS FALSE NEIGHBOUR: 'it returns false'. Refute it at one input. -/
def fnExactSameModelsWrong : ChangeSpec := { name := "fnExactSameModels", fn := fun _ => fun
  | [d1, d2, d3] => { results := [.lit (.bool false)], args := [d1, d2, d3] }
  | _ => none }
def FnExactSameModelsWrongFalsely : Prop := fnExactSameModelsRow.holds Try.pinned (OpenSpec.ofChange fnExactSameModelsWrong)

/-- 'laws.FnExactIsAtOnce': WHATEVER THE INPUT: true; the input reads as it did. -/
def fnExactIsAtOnceSpec : ChangeSpec := { name := "fnExactIsAtOnce", fn := fun _ => fun
  | [d1, d2, d3] => { results := [.lit (.bool true)], args := [d1, d2, d3] }
  | _ => none }
def fnExactIsAtOnceRow : OpenClaim := { program := "ytemgmpbionkjhaa", sum := "a86ed17046b337728bc55bc64cb2c1338f73c3ee63fe87dcb9d17d2fcabd3725", func := "loop.example/g00605/laws.FnExactIsAtOnce", spec := "fnExactIsAtOnce", unfollowed := true, recurses := true, apart := false }
def FnExactIsAtOnceSaid : Prop := fnExactIsAtOnceRow.holds Try.pinned (OpenSpec.ofChange fnExactIsAtOnceSpec)

/-- ITS FALSE NEIGHBOUR: 'it returns false'. Refute it at one input. -/
def fnExactIsAtOnceWrong : ChangeSpec := { name := "fnExactIsAtOnce", fn := fun _ => fun
  | [d1, d2, d3] => { results := [.lit (.bool false)], args := [d1, d2, d3] }
  | _ => none }
def FnExactIsAtOnceWrongFalsely : Prop := fnExactIsAtOnceRow.holds Try.pinned (OpenSpec.ofChange fnExactIsAtOnceWrong)

/-- 'laws.FnExactPropagate': WHATEVER THE INPUT: true; the input reads as it did. -/
def fnExactPropagateSpec : ChangeSpec := { name := "fnExactPropagate", fn := fun _ => fun
  | [d1, d2, d3] => { results := [.lit (.bool true)], args := [d1, d2, d3] }
  | _ => none }
def fnExactPropagateRow : OpenClaim := { program := "ytemgmpbionkjhaa", sum := "a86ed17046b337728bc55bc64cb2c1338f73c3ee63fe87dcb9d17d2fcabd3725", func := "loop.example/g00605/laws.FnExactPropagate", spec := "fnExactPropagate", unfollowed := true, recurses := true, apart := false }
def FnExactPropagateSaid : Prop := fnExactPropagateRow.holds Try.pinned (OpenSpec.ofChange fnExactPropagateSpec)

/-- ITS FALSE NEIGHBOUR: 'it returns false'. Refute it at one input. -/
def fnExactPropagateWrong : ChangeSpec := { name := "fnExactPropagate", fn := fun _ => fun
  | [d1, d2, d3] => { results := [.lit (.bool false)], args := [d1, d2, d3] }
  | _ => none }
def FnExactPropagateWrongFalsely : Prop := fnExactPropagateRow.holds Try.pinned (OpenSpec.ofChange fnExactPropagateWrong)

/-- 'laws.FnExactDecideFrom': WHATEVER THE INPUT: true; the input reads as it did. -/
def fnExactDecideFromSpec : ChangeSpec := { name := "fnExactDecideFrom", fn := fun _ => fun
  | [d1, d2, d3] => { results := [.lit (.bool true)], args := [d1, d2, d3] }
  | _ => none }
def fnExactDecideFromRow : OpenClaim := { program := "ytemgmpbionkjhaa", sum := "a86ed17046b337728bc55bc64cb2c1338f73c3ee63fe87dcb9d17d2fcabd3725", func := "loop.example/g00605/laws.FnExactDecideFrom", spec := "fnExactDecideFrom", unfollowed := true, recurses := true, apart := false }
def FnExactDecideFromSaid : Prop := fnExactDecideFromRow.holds Try.pinned (OpenSpec.ofChange fnExactDecideFromSpec)

/-- ITS FALSE NEIGHBOUR: 'it returns false'. Refute it at one input. -/
def fnExactDecideFromWrong : ChangeSpec := { name := "fnExactDecideFrom", fn := fun _ => fun
  | [d1, d2, d3] => { results := [.lit (.bool false)], args := [d1, d2, d3] }
  | _ => none }
def FnExactDecideFromWrongFalsely : Prop := fnExactDecideFromRow.holds Try.pinned (OpenSpec.ofChange fnExactDecideFromWrong)

/-- 'laws.FnExactGoodMachine': WHATEVER THE INPUT: true; the input reads as it did. -/
def fnExactGoodMachineSpec : ChangeSpec := { name := "fnExactGoodMachine", fn := fun _ => fun
  | [d] => { results := [.lit (.bool true)], args := [d] }
  | _ => none }
def fnExactGoodMachineRow : OpenClaim := { program := "ytemgmpbionkjhaa", sum := "a86ed17046b337728bc55bc64cb2c1338f73c3ee63fe87dcb9d17d2fcabd3725", func := "loop.example/g00605/laws.FnExactGoodMachine", spec := "fnExactGoodMachine", unfollowed := true, recurses := true, apart := false }
def FnExactGoodMachineSaid : Prop := fnExactGoodMachineRow.holds Try.pinned (OpenSpec.ofChange fnExactGoodMachineSpec)

/-- ITS FALSE NEIGHBOUR: 'it returns false'. Refute it at one input. -/
def fnExactGoodMachineWrong : ChangeSpec := { name := "fnExactGoodMachine", fn := fun _ => fun
  | [d] => { results := [.lit (.bool false)], args := [d] }
  | _ => none }
def FnExactGoodMachineWrongFalsely : Prop := fnExactGoodMachineRow.holds Try.pinned (OpenSpec.ofChange fnExactGoodMachineWrong)

/- THE SECOND FORM. 'bulk': how many values and letters a reading holds, each counted each time it is reached (what is shared counts as often as it is met; a slice's spare places count too). A statement '..UptoSaid' is the law's where the arguments, and the package variables that the reading takes, are together of bulk at most 1048576: NARROWER than '..Said'. Prove '..Said' where nothing that the law and all that it calls make is longer than what came in: it says more and counts as full. Else prove '..UptoSaid'. A law counts once. -/
mutual
def uptoBulk {H : Type} : DataW H → Nat
  | .lit (.string bytes) => bytes.length + 1
  | .lit _ => 1
  | .nil => 1
  | .ptr d => uptoBulk d + 1
  | .slice elems spare => uptoBulkAll elems + uptoBulkAll spare + 1
  | .agg parts => uptoBulkAll parts + 1
  | .iface _ d => uptoBulk d + 1
  | .map entries => uptoBulkEntries entries + 1
  | .held _ => 1
def uptoBulkAll {H : Type} : List (DataW H) → Nat
  | [] => 0
  | d :: r => uptoBulk d + uptoBulkAll r
def uptoBulkEntries {H : Type} : List (Lit × DataW H) → Nat
  | [] => 0
  | x :: r => uptoBulkEntry x + uptoBulkEntries r
def uptoBulkEntry {H : Type} : Lit × DataW H → Nat
  | (.string bytes, d) => bytes.length + uptoBulk d + 1
  | (_, d) => uptoBulk d + 1
 end
def uptoSmall : (H : Type) → List (DataW H) → Bool := fun _ ds => decide (uptoBulkAll ds ≤ 1048576)
def OpenSpec.upto (s : _root_.Go.ChangeSpec) : _root_.Go.OpenSpec := { _root_.Go.OpenSpec.ofChange s with cond := some uptoSmall }

/-- 'laws.FnExactGoodClauses', WHERE WHAT IT READS IS OF BULK AT MOST 1048576: true; the input reads as it did. -/
def fnExactGoodClausesUptoRow : OpenClaim := { program := "ytemgmpbionkjhaa", sum := "a86ed17046b337728bc55bc64cb2c1338f73c3ee63fe87dcb9d17d2fcabd3725", func := "loop.example/g00605/laws.FnExactGoodClauses", spec := "fnExactGoodClauses", unfollowed := true, recurses := true, apart := false, narrowed := true }
def FnExactGoodClausesUptoSaid : Prop := fnExactGoodClausesUptoRow.holds Try.pinned (OpenSpec.upto fnExactGoodClausesSpec)

/-- 'laws.FnExactCleanClause', WHERE WHAT IT READS IS OF BULK AT MOST 1048576: true; the input reads as it did. -/
def fnExactCleanClauseUptoRow : OpenClaim := { program := "ytemgmpbionkjhaa", sum := "a86ed17046b337728bc55bc64cb2c1338f73c3ee63fe87dcb9d17d2fcabd3725", func := "loop.example/g00605/laws.FnExactCleanClause", spec := "fnExactCleanClause", unfollowed := true, recurses := true, apart := false, narrowed := true }
def FnExactCleanClauseUptoSaid : Prop := fnExactCleanClauseUptoRow.holds Try.pinned (OpenSpec.upto fnExactCleanClauseSpec)

/-- 'laws.FnExactResolve', WHERE WHAT IT READS IS OF BULK AT MOST 1048576: true; the input reads as it did. -/
def fnExactResolveUptoRow : OpenClaim := { program := "ytemgmpbionkjhaa", sum := "a86ed17046b337728bc55bc64cb2c1338f73c3ee63fe87dcb9d17d2fcabd3725", func := "loop.example/g00605/laws.FnExactResolve", spec := "fnExactResolve", unfollowed := true, recurses := true, apart := false, narrowed := true }
def FnExactResolveUptoSaid : Prop := fnExactResolveUptoRow.holds Try.pinned (OpenSpec.upto fnExactResolveSpec)

/-- 'laws.FnExactHoldsAll', WHERE WHAT IT READS IS OF BULK AT MOST 1048576: true; the input reads as it did. -/
def fnExactHoldsAllUptoRow : OpenClaim := { program := "ytemgmpbionkjhaa", sum := "a86ed17046b337728bc55bc64cb2c1338f73c3ee63fe87dcb9d17d2fcabd3725", func := "loop.example/g00605/laws.FnExactHoldsAll", spec := "fnExactHoldsAll", unfollowed := true, recurses := true, apart := false, narrowed := true }
def FnExactHoldsAllUptoSaid : Prop := fnExactHoldsAllUptoRow.holds Try.pinned (OpenSpec.upto fnExactHoldsAllSpec)

/-- 'laws.FnExactCountModels', WHERE WHAT IT READS IS OF BULK AT MOST 1048576: true; the input reads as it did. -/
def fnExactCountModelsUptoRow : OpenClaim := { program := "ytemgmpbionkjhaa", sum := "a86ed17046b337728bc55bc64cb2c1338f73c3ee63fe87dcb9d17d2fcabd3725", func := "loop.example/g00605/laws.FnExactCountModels", spec := "fnExactCountModels", unfollowed := true, recurses := true, apart := false, narrowed := true }
def FnExactCountModelsUptoSaid : Prop := fnExactCountModelsUptoRow.holds Try.pinned (OpenSpec.upto fnExactCountModelsSpec)

/-- 'laws.FnExactPureIn', WHERE WHAT IT READS IS OF BULK AT MOST 1048576: true; the input reads as it did. -/
def fnExactPureInUptoRow : OpenClaim := { program := "ytemgmpbionkjhaa", sum := "a86ed17046b337728bc55bc64cb2c1338f73c3ee63fe87dcb9d17d2fcabd3725", func := "loop.example/g00605/laws.FnExactPureIn", spec := "fnExactPureIn", unfollowed := true, recurses := true, apart := false, narrowed := true }
def FnExactPureInUptoSaid : Prop := fnExactPureInUptoRow.holds Try.pinned (OpenSpec.upto fnExactPureInSpec)

/-- 'laws.FnExactReduce', WHERE WHAT IT READS IS OF BULK AT MOST 1048576: true; the input reads as it did. -/
def fnExactReduceUptoRow : OpenClaim := { program := "ytemgmpbionkjhaa", sum := "a86ed17046b337728bc55bc64cb2c1338f73c3ee63fe87dcb9d17d2fcabd3725", func := "loop.example/g00605/laws.FnExactReduce", spec := "fnExactReduce", unfollowed := true, recurses := true, apart := false, narrowed := true }
def FnExactReduceUptoSaid : Prop := fnExactReduceUptoRow.holds Try.pinned (OpenSpec.upto fnExactReduceSpec)

/-- 'laws.FnExactSameModels', WHERE WHAT IT READS IS OF BULK AT MOST 1048576: true; the input reads as it did. -/
def fnExactSameModelsUptoRow : OpenClaim := { program := "ytemgmpbionkjhaa", sum := "a86ed17046b337728bc55bc64cb2c1338f73c3ee63fe87dcb9d17d2fcabd3725", func := "loop.example/g00605/laws.FnExactSameModels", spec := "fnExactSameModels", unfollowed := true, recurses := true, apart := false, narrowed := true }
def FnExactSameModelsUptoSaid : Prop := fnExactSameModelsUptoRow.holds Try.pinned (OpenSpec.upto fnExactSameModelsSpec)

/-- 'laws.FnExactIsAtOnce', WHERE WHAT IT READS IS OF BULK AT MOST 1048576: true; the input reads as it did. -/
def fnExactIsAtOnceUptoRow : OpenClaim := { program := "ytemgmpbionkjhaa", sum := "a86ed17046b337728bc55bc64cb2c1338f73c3ee63fe87dcb9d17d2fcabd3725", func := "loop.example/g00605/laws.FnExactIsAtOnce", spec := "fnExactIsAtOnce", unfollowed := true, recurses := true, apart := false, narrowed := true }
def FnExactIsAtOnceUptoSaid : Prop := fnExactIsAtOnceUptoRow.holds Try.pinned (OpenSpec.upto fnExactIsAtOnceSpec)

/-- 'laws.FnExactPropagate', WHERE WHAT IT READS IS OF BULK AT MOST 1048576: true; the input reads as it did. -/
def fnExactPropagateUptoRow : OpenClaim := { program := "ytemgmpbionkjhaa", sum := "a86ed17046b337728bc55bc64cb2c1338f73c3ee63fe87dcb9d17d2fcabd3725", func := "loop.example/g00605/laws.FnExactPropagate", spec := "fnExactPropagate", unfollowed := true, recurses := true, apart := false, narrowed := true }
def FnExactPropagateUptoSaid : Prop := fnExactPropagateUptoRow.holds Try.pinned (OpenSpec.upto fnExactPropagateSpec)

/-- 'laws.FnExactDecideFrom', WHERE WHAT IT READS IS OF BULK AT MOST 1048576: true; the input reads as it did. -/
def fnExactDecideFromUptoRow : OpenClaim := { program := "ytemgmpbionkjhaa", sum := "a86ed17046b337728bc55bc64cb2c1338f73c3ee63fe87dcb9d17d2fcabd3725", func := "loop.example/g00605/laws.FnExactDecideFrom", spec := "fnExactDecideFrom", unfollowed := true, recurses := true, apart := false, narrowed := true }
def FnExactDecideFromUptoSaid : Prop := fnExactDecideFromUptoRow.holds Try.pinned (OpenSpec.upto fnExactDecideFromSpec)

/-- 'laws.FnExactGoodMachine', WHERE WHAT IT READS IS OF BULK AT MOST 1048576: true; the input reads as it did. -/
def fnExactGoodMachineUptoRow : OpenClaim := { program := "ytemgmpbionkjhaa", sum := "a86ed17046b337728bc55bc64cb2c1338f73c3ee63fe87dcb9d17d2fcabd3725", func := "loop.example/g00605/laws.FnExactGoodMachine", spec := "fnExactGoodMachine", unfollowed := true, recurses := true, apart := false, narrowed := true }
def FnExactGoodMachineUptoSaid : Prop := fnExactGoodMachineUptoRow.holds Try.pinned (OpenSpec.upto fnExactGoodMachineSpec)

end Rows
end Go.Proofs.Ytemgmpbionkjhaa
