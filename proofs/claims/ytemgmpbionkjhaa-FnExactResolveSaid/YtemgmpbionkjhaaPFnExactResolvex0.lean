-- Made by a program of this session (wip/tools), which leans on the kit's print: checked by Lean alone.
import Derived.Test.YtemgmpbionkjhaaProg
import Derived.Below
import Derived.Deep.Draws
import Derived.Deep.AppendLies
import Derived.Maps.AppendAt
import Derived.OwnWalk
import Derived.Laws.BytesArg
import Derived.Laws.MakeOwn
import Derived.Laws.OwnMore
import Derived.Deep.OwnRows
import Derived.Tactics
import Derived.Lib.ConvBytes
import Derived.Laws.Slices
import Derived.WalkKit
import Derived.KernelRfl
import Derived.RowKit3
import Derived.Deep.LoopGhost
import Derived.Deep.QuietTactic
import Derived.BigQuiet
import Derived.WideLaws
import Derived.Deep.DeepCutAuto
import Derived.Deep.CutBlock
import Derived.Deep.RegionHeld3
import Derived.Laws.Rows
import Derived.Lib.AppendStr
import Derived.ArgAppend
import Derived.Laws.IdiomCopy
import Derived.OrdersHeld
import Derived.Laws.BitsLemmas
import Derived.RowKit
import Derived.Shelf.Abstract
import Derived.Lib.SliceRun
import Derived.Test.YtemgmpbionkjhaaWWords
import Derived.Test.YtemgmpbionkjhaaWLast
import Derived.Test.YtemgmpbionkjhaaWTab
import Derived.Test.YtemgmpbionkjhaaWFour
import Derived.Test.YtemgmpbionkjhaaWQPut
import Derived.Test.YtemgmpbionkjhaaWApart
import Derived.Test.YtemgmpbionkjhaaWArr
import Derived.Test.YtemgmpbionkjhaaWZeros
import Derived.Test.YtemgmpbionkjhaaWFoot
import Derived.Test.YtemgmpbionkjhaaWKept
import Derived.Test.YtemgmpbionkjhaaWShare
import Derived.Test.YtemgmpbionkjhaaWN
import Derived.Test.YtemgmpbionkjhaaWFootNe
import Derived.Test.YtemgmpbionkjhaaWAt
import Derived.Test.YtemgmpbionkjhaaWEqStruct
import Derived.Test.YtemgmpbionkjhaaWRepsOne
import Derived.Test.YtemgmpbionkjhaaWInv
import Derived.Test.YtemgmpbionkjhaaWInvWords
import Derived.Test.YtemgmpbionkjhaaWGuard
import Derived.Test.YtemgmpbionkjhaaWNEv
import Derived.Test.YtemgmpbionkjhaaWMore
namespace Go.Proofs.Ytemgmpbionkjhaa.PFnExactResolve
open Go.RowKit Go.Proofs.YtemgmpbionkjhaaW.PrintWords Go.Proofs.YtemgmpbionkjhaaW.PrintLast Go.Proofs.YtemgmpbionkjhaaW.PrintMore
attribute [local go_sem] max2_int min2_int max_two min_two max_three min_three max_four min_four   -- for this text's walks alone
set_option linter.unusedVariables false
set_option linter.unusedSimpArgs false



def errW : Option Int → Value
  | none => .nilIface
  | some c => .iface 0 (.int .i64 c)
theorem errW_none : errW none = .nilIface := rfl
theorem errW_some (c : Int) : errW (some c) = .iface 0 (.int .i64 c) := rfl

theorem info3 : (Try.prog.info? 3).map (fun i => (i.zero, i.size, i.bytes)) = some (some (.int .i64 0), 1, 8) := by kernel_rfl
theorem iv_ {W w1 : World} (hb : Below W.heap.size W w1) : ∃ lo hi : Nat, W.heap.size = lo ∧ w1.heap.size = hi ∧ lo ≤ hi := ⟨_, _, rfl, rfl, hb.size⟩
theorem recast_ {P : Program} {f : FuncId} {xs ys : Array Value} {w : World} {Q : Ending → World → Prop} (h : Calls P f xs w Q) (e : ys = xs) : Calls P f ys w Q := e ▸ h
theorem take_len_ {α : Type} (l : List α) (i : Int) (h0 : 0 ≤ i) (h1 : i ≤ (l.length : Int)) : (l.take i.toNat).length = i.toNat := by
  rw [List.length_take]
  omega
theorem drop_len_ {α : Type} (l : List α) (i : Int) (h0 : 0 ≤ i) (h1 : i ≤ (l.length : Int)) : (l.drop i.toNat).length = l.length - i.toNat := by
  rw [List.length_drop]

-- the values' own types
def rd_L1 (xs : List (List Int)) (i : Int) : (List Int) := xs.getD i.toNat ([] : List Int)
theorem at_L1 {w : World} {A : Option Addr} {n : Nat} {xs : List (List Int)} (h : Kd.C (Kd.slice 3 (Kd.int .i64)) w A n xs) (i : Int) (h0 : 0 ≤ i) (h1 : i < n) : ∃ ad A0 c0, A = some ad ∧ w.cell? (ad.add i.toNat) = some (.slice A0 (rd_L1 xs i).length c0) ∧ (rd_L1 xs i).length ≤ c0 ∧ (Kd.int .i64).C w A0 (rd_L1 xs i).length (rd_L1 xs i) := by
  obtain ⟨ad, c, e, _, hK, hc0⟩ := Kd.C_get h ([] : List Int) i h0 h1
  have hc : ∀ j u, c[j]? = some u → w.cell? (ad.add (i.toNat * 1 + j)) = some u := hc0
  obtain ⟨A0, c0, rfl, l0, g0⟩ := hK
  exact ⟨ad, A0, c0, e, by have hq := hc 0 _ rfl; rwa [Nat.mul_one, Nat.add_zero] at hq, l0, g0⟩

end Go.Proofs.Ytemgmpbionkjhaa.PFnExactResolve
