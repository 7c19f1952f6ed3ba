-- Made by a program of this session (wip/tools), which leans on the kit's print: checked by Lean alone.
import Derived.Test.YtlehkmadphmfdaaProg
import Derived.Below
import Derived.Deep.Draws
import Derived.Deep.AppendLies
import Derived.Maps.AppendAt
import Derived.OwnWalk
import Derived.Laws.BytesArg
import Derived.Laws.MakeOwn
import Derived.Laws.OwnMore
import Derived.Deep.OwnRows
import Derived.Tactics
import Derived.Lib.ConvBytes
import Derived.Laws.Slices
import Derived.WalkKit
import Derived.KernelRfl
import Derived.RowKit3
import Derived.Deep.LoopGhost
import Derived.Deep.QuietTactic
import Derived.BigQuiet
import Derived.WideLaws
import Derived.Deep.DeepCutAuto
import Derived.Deep.CutBlock
import Derived.Deep.RegionHeld3
import Derived.Laws.Rows
import Derived.Lib.AppendStr
import Derived.ArgAppend
import Derived.Laws.IdiomCopy
import Derived.OrdersHeld
import Derived.Laws.BitsLemmas
import Derived.RowKit
import Derived.Shelf.Abstract
import Derived.Lib.SliceRun
import Derived.Test.YtlehkmadphmfdaaWWords
import Derived.Test.YtlehkmadphmfdaaWLast
import Derived.Test.YtlehkmadphmfdaaWTab
import Derived.Test.YtlehkmadphmfdaaWFour
import Derived.Test.YtlehkmadphmfdaaWQPut
import Derived.Test.YtlehkmadphmfdaaWApart
import Derived.Test.YtlehkmadphmfdaaWArr
import Derived.Test.YtlehkmadphmfdaaWZeros
import Derived.Test.YtlehkmadphmfdaaWFoot
import Derived.Test.YtlehkmadphmfdaaWKept
import Derived.Test.YtlehkmadphmfdaaWShare
import Derived.Test.YtlehkmadphmfdaaWN
import Derived.Test.YtlehkmadphmfdaaWFootNe
import Derived.Test.YtlehkmadphmfdaaWAt
import Derived.Test.YtlehkmadphmfdaaWEqStruct
import Derived.Test.YtlehkmadphmfdaaWRepsOne
import Derived.Test.YtlehkmadphmfdaaWInv
import Derived.Test.YtlehkmadphmfdaaWInvWords
import Derived.Test.YtlehkmadphmfdaaWGuard
import Derived.Test.YtlehkmadphmfdaaWNEv
import Derived.Test.YtlehkmadphmfdaaWMore
namespace Go.Proofs.Ytlehkmadphmfdaa.PFnExactCountBits
open Go.RowKit Go.Proofs.YtlehkmadphmfdaaW.PrintWords Go.Proofs.YtlehkmadphmfdaaW.PrintLast Go.Proofs.YtlehkmadphmfdaaW.PrintMore
attribute [local go_sem] max2_int min2_int max_two min_two max_three min_three max_four min_four   -- for this text's walks alone
set_option linter.unusedVariables false
set_option linter.unusedSimpArgs false



def errW : Option Int → Value
  | none => .nilIface
  | some c => .iface 0 (.int .i64 c)
theorem errW_none : errW none = .nilIface := rfl
theorem errW_some (c : Int) : errW (some c) = .iface 0 (.int .i64 c) := rfl

theorem iv_ {W w1 : World} (hb : Below W.heap.size W w1) : ∃ lo hi : Nat, W.heap.size = lo ∧ w1.heap.size = hi ∧ lo ≤ hi := ⟨_, _, rfl, rfl, hb.size⟩
theorem recast_ {P : Program} {f : FuncId} {xs ys : Array Value} {w : World} {Q : Ending → World → Prop} (h : Calls P f xs w Q) (e : ys = xs) : Calls P f ys w Q := e ▸ h
theorem take_len_ {α : Type} (l : List α) (i : Int) (h0 : 0 ≤ i) (h1 : i ≤ (l.length : Int)) : (l.take i.toNat).length = i.toNat := by
  rw [List.length_take]
  omega
theorem drop_len_ {α : Type} (l : List α) (i : Int) (h0 : 0 ≤ i) (h1 : i ≤ (l.length : Int)) : (l.drop i.toNat).length = l.length - i.toNat := by
  rw [List.length_drop]

-- the values' own types

end Go.Proofs.Ytlehkmadphmfdaa.PFnExactCountBits
