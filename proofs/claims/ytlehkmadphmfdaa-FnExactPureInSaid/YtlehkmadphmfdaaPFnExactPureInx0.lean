-- Made by a program of this session (wip/tools), which leans on the kit's print: checked by Lean alone.
import Derived.Test.YtlehkmadphmfdaaProg
import Derived.Below
import Derived.Deep.Draws
import Derived.Deep.AppendLies
import Derived.Maps.AppendAt
import Derived.OwnWalk
import Derived.Laws.BytesArg
import Derived.Laws.MakeOwn
import Derived.Laws.OwnMore
import Derived.Deep.OwnRows
import Derived.Tactics
import Derived.Lib.ConvBytes
import Derived.Laws.Slices
import Derived.WalkKit
import Derived.KernelRfl
import Derived.RowKit3
import Derived.Deep.LoopGhost
import Derived.Deep.QuietTactic
import Derived.BigQuiet
import Derived.WideLaws
import Derived.Deep.DeepCutAuto
import Derived.Deep.CutBlock
import Derived.Deep.RegionHeld3
import Derived.Laws.Rows
import Derived.Lib.AppendStr
import Derived.ArgAppend
import Derived.Laws.IdiomCopy
import Derived.OrdersHeld
import Derived.Laws.BitsLemmas
import Derived.RowKit
import Derived.Shelf.Abstract
import Derived.Lib.SliceRun
import Derived.Lib.AppendZeros
import Derived.Test.YtlehkmadphmfdaaWWords
import Derived.Test.YtlehkmadphmfdaaWLast
import Derived.Test.YtlehkmadphmfdaaWTab
import Derived.Test.YtlehkmadphmfdaaWFour
import Derived.Test.YtlehkmadphmfdaaWQPut
import Derived.Test.YtlehkmadphmfdaaWApart
import Derived.Test.YtlehkmadphmfdaaWArr
import Derived.Test.YtlehkmadphmfdaaWZeros
import Derived.Test.YtlehkmadphmfdaaWFoot
import Derived.Test.YtlehkmadphmfdaaWKept
import Derived.Test.YtlehkmadphmfdaaWShare
import Derived.Test.YtlehkmadphmfdaaWN
import Derived.Test.YtlehkmadphmfdaaWFootNe
import Derived.Test.YtlehkmadphmfdaaWAt
import Derived.Test.YtlehkmadphmfdaaWEqStruct
import Derived.Test.YtlehkmadphmfdaaWRepsOne
import Derived.Test.YtlehkmadphmfdaaWInv
import Derived.Test.YtlehkmadphmfdaaWInvWords
import Derived.Test.YtlehkmadphmfdaaWGuard
import Derived.Test.YtlehkmadphmfdaaWNEv
import Derived.Test.YtlehkmadphmfdaaWMore
namespace Go.Proofs.Ytlehkmadphmfdaa.PFnExactPureIn
open Go.RowKit Go.Proofs.YtlehkmadphmfdaaW.PrintWords Go.Proofs.YtlehkmadphmfdaaW.PrintLast Go.Proofs.YtlehkmadphmfdaaW.PrintMore
attribute [local go_sem] max2_int min2_int max_two min_two max_three min_three max_four min_four   -- for this text's walks alone
set_option linter.unusedVariables false
set_option linter.unusedSimpArgs false



def errW : Option Int → Value
  | none => .nilIface
  | some c => .iface 0 (.int .i64 c)
theorem errW_none : errW none = .nilIface := rfl
theorem errW_some (c : Int) : errW (some c) = .iface 0 (.int .i64 c) := rfl

theorem info3 : (Try.prog.info? 3).map (fun i => (i.zero, i.size, i.bytes)) = some (some (.int .i64 0), 1, 8) := by kernel_rfl
theorem info27 : (Try.prog.info? 27).map (fun i => (i.zero, i.size, i.bytes)) = some (some (.slice none 0 0), 1, 24) := by kernel_rfl
theorem iv_ {W w1 : World} (hb : Below W.heap.size W w1) : ∃ lo hi : Nat, W.heap.size = lo ∧ w1.heap.size = hi ∧ lo ≤ hi := ⟨_, _, rfl, rfl, hb.size⟩
theorem recast_ {P : Program} {f : FuncId} {xs ys : Array Value} {w : World} {Q : Ending → World → Prop} (h : Calls P f xs w Q) (e : ys = xs) : Calls P f ys w Q := e ▸ h
theorem take_len_ {α : Type} (l : List α) (i : Int) (h0 : 0 ≤ i) (h1 : i ≤ (l.length : Int)) : (l.take i.toNat).length = i.toNat := by
  rw [List.length_take]
  omega
theorem drop_len_ {α : Type} (l : List α) (i : Int) (h0 : 0 ≤ i) (h1 : i ≤ (l.length : Int)) : (l.drop i.toNat).length = l.length - i.toNat := by
  rw [List.length_drop]
theorem R_of_own_ {α : Type} {d : Kd α} {e : Nat} {w : World} {base : Nat} {v : Value} (h : w.ownsRow base e d.sz v 0 []) : d.R e w base (fun _ => True) v [] := ⟨fun _ _ => trivial, [], h, Reps.none _ _⟩
theorem own_grown_ {w : World} {e : TypeId} {z : Value} {n : Nat} (hz : z.cells.size = 1) (cap : Nat) (hn : n ≤ cap) (hc : cap ≤ maxLen) (base : Nat) (hb : base ≤ w.heap.size) :
    (w.drew.alloc (.cells (Builtin.zeroCells z.cells n ++ Builtin.zeroCells z.cells (cap - n)) e)).ownsRow base e 1 (.slice (some ⟨w.heap.size, 0, none⟩) 0 cap) 0 [] := by
  refine ⟨by simp, .inr ⟨w.heap.size, cap, _, rfl, hb, heap_alloc_new w.drew _, Nat.zero_le _, hc, ?_, by simp⟩⟩
  simp only [Array.size_append, size_zeroCells, hz]
  omega
/-- The row at a place. -/
def rowIn_ {α : Type} (l : List (List α)) (i : Int) : List α := l.getD i.toNat []
theorem rowIn_mem {α : Type} {l : List (List α)} {i : Int} (h0 : 0 ≤ i) (h1 : i < (l.length : Int)) : rowIn_ l i ∈ l := by
  unfold rowIn_
  rw [List.getD_eq_getElem?_getD, List.getElem?_eq_getElem (show i.toNat < l.length by omega)]
  exact List.getElem_mem _
theorem rowIn_at {α : Type} {e : Nat} {d : Kd α} {w : World} {A : Option Addr} {n : Nat} {l : List (List α)} (h : (Kd.slice e d).C w A n l) (i : Int) (h0 : 0 ≤ i) (h1 : i < n) :
    ∃ ad A' c', A = some ad ∧ w.cell? (ad.add i.toNat) = some (.slice A' (rowIn_ l i).length c') ∧ (rowIn_ l i).length ≤ c' ∧ d.C w A' (rowIn_ l i).length (rowIn_ l i) := by
  obtain ⟨ad, c, e, _, hK, hc0⟩ := Kd.C_get h ([] : List α) i h0 h1
  have hc : ∀ j u, c[j]? = some u → w.cell? (ad.add (i.toNat * 1 + j)) = some u := hc0
  obtain ⟨A0, c0, rfl, l0, g0⟩ := hK
  unfold rowIn_
  exact ⟨ad, A0, c0, e, by have hq := hc 0 _ rfl; rwa [Nat.mul_one, Nat.add_zero] at hq, l0, g0⟩
theorem flat_step_ {α : Type} (l : List (List α)) (i : Int) (h0 : 0 ≤ i) (h1 : i < (l.length : Int)) : (l.take (i + 1).toNat).flatten = (l.take i.toNat).flatten ++ rowIn_ l i := by
  have hl : i.toNat < l.length := by omega
  rw [show (i + 1).toNat = i.toNat + 1 by omega, List.take_succ_eq_append_getElem hl, List.flatten_append]
  unfold rowIn_
  rw [List.getD_eq_getElem?_getD, List.getElem?_eq_getElem hl]
  simp
theorem flat_le_ {α : Type} (l : List (List α)) (i : Nat) : (l.take i).flatten.length ≤ l.flatten.length := by
  have h : l.flatten = (l.take i).flatten ++ (l.drop i).flatten := by rw [← List.flatten_append, List.take_append_drop]
  rw [h, List.length_append]
  omega

-- the values' own types
def rd_L1 (xs : List (List Int)) (i : Int) : (List Int) := xs.getD i.toNat ([] : List Int)
theorem at_L1 {w : World} {A : Option Addr} {n : Nat} {xs : List (List Int)} (h : Kd.C (Kd.slice 3 (Kd.int .i64)) w A n xs) (i : Int) (h0 : 0 ≤ i) (h1 : i < n) : ∃ ad A0 c0, A = some ad ∧ w.cell? (ad.add i.toNat) = some (.slice A0 (rd_L1 xs i).length c0) ∧ (rd_L1 xs i).length ≤ c0 ∧ (Kd.int .i64).C w A0 (rd_L1 xs i).length (rd_L1 xs i) := by
  obtain ⟨ad, c, e, _, hK, hc0⟩ := Kd.C_get h ([] : List Int) i h0 h1
  have hc : ∀ j u, c[j]? = some u → w.cell? (ad.add (i.toNat * 1 + j)) = some u := hc0
  obtain ⟨A0, c0, rfl, l0, g0⟩ := hK
  exact ⟨ad, A0, c0, e, by have hq := hc 0 _ rfl; rwa [Nat.mul_one, Nat.add_zero] at hq, l0, g0⟩

def rd_L2 (xs : List (List (List Int))) (i : Int) : (List (List Int)) := xs.getD i.toNat ([] : List (List Int))
theorem at_L2 {w : World} {A : Option Addr} {n : Nat} {xs : List (List (List Int))} (h : Kd.C (Kd.slice 27 (Kd.slice 3 (Kd.int .i64))) w A n xs) (i : Int) (h0 : 0 ≤ i) (h1 : i < n) : ∃ ad A0 c0, A = some ad ∧ w.cell? (ad.add i.toNat) = some (.slice A0 (rd_L2 xs i).length c0) ∧ (rd_L2 xs i).length ≤ c0 ∧ (Kd.slice 3 (Kd.int .i64)).C w A0 (rd_L2 xs i).length (rd_L2 xs i) := by
  obtain ⟨ad, c, e, _, hK, hc0⟩ := Kd.C_get h ([] : List (List Int)) i h0 h1
  have hc : ∀ j u, c[j]? = some u → w.cell? (ad.add (i.toNat * 1 + j)) = some u := hc0
  obtain ⟨A0, c0, rfl, l0, g0⟩ := hK
  exact ⟨ad, A0, c0, e, by have hq := hc 0 _ rfl; rwa [Nat.mul_one, Nat.add_zero] at hq, l0, g0⟩

end Go.Proofs.Ytlehkmadphmfdaa.PFnExactPureIn
