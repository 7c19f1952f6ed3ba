-- Made by a program of this session (wip/tools), which leans on the kit's print: checked by Lean alone.
import Derived.Test.YtpkbjgmeejlchabProg
import Derived.Below
import Derived.Deep.Draws
import Derived.Deep.AppendLies
import Derived.Maps.AppendAt
import Derived.OwnWalk
import Derived.Laws.BytesArg
import Derived.Laws.MakeOwn
import Derived.Laws.OwnMore
import Derived.Deep.OwnRows
import Derived.Tactics
import Derived.Lib.ConvBytes
import Derived.Laws.Slices
import Derived.WalkKit
import Derived.KernelRfl
import Derived.RowKit3
import Derived.Deep.LoopGhost
import Derived.Deep.QuietTactic
import Derived.BigQuiet
import Derived.WideLaws
import Derived.Deep.DeepCutAuto
import Derived.Deep.CutBlock
import Derived.Deep.RegionHeld3
import Derived.Laws.Rows
import Derived.Lib.AppendStr
import Derived.ArgAppend
import Derived.Laws.IdiomCopy
import Derived.OrdersHeld
import Derived.Laws.BitsLemmas
import Derived.RowKit
import Derived.Shelf.Abstract
import Derived.Lib.SliceRun
import Derived.Lib.AppendZeros
import Derived.Deep.RegionLaw
import Derived.Test.YtpkbjgmeejlchabVWordsFnFollows
import Derived.Test.YtpkbjgmeejlchabVLastFnFollows
import Derived.Test.YtpkbjgmeejlchabVTabFnFollows
import Derived.Test.YtpkbjgmeejlchabVQPutFnFollows
import Derived.Test.YtpkbjgmeejlchabVApartFnFollows
import Derived.Test.YtpkbjgmeejlchabVArrFnFollows
import Derived.Test.YtpkbjgmeejlchabVZerosFnFollows
import Derived.Test.YtpkbjgmeejlchabVFootFnFollows
import Derived.Test.YtpkbjgmeejlchabVKeptFnFollows
import Derived.Test.YtpkbjgmeejlchabVShareFnFollows
import Derived.Test.YtpkbjgmeejlchabVNFnFollows
import Derived.Test.YtpkbjgmeejlchabVRepsOneFnFollows
import Derived.Test.YtpkbjgmeejlchabVGuardFnFollows
import Derived.Test.YtpkbjgmeejlchabVNEvFnFollows
import Derived.Test.YtpkbjgmeejlchabVMoreFnFollows
namespace Go.Proofs.Ytpkbjgmeejlchab.PFnFollows
open Go.RowKit Go.Proofs.YtpkbjgmeejlchabW.PrintWords Go.Proofs.YtpkbjgmeejlchabW.PrintLast Go.Proofs.YtpkbjgmeejlchabW.PrintMore
attribute [local go_sem] max2_int min2_int max_two min_two max_three min_three max_four min_four
set_option linter.unusedVariables false
set_option linter.unusedSimpArgs false
def errW : Option Int → Value
 | none => .nilIface
 | some c => .iface 0 (.int .i64 c)
theorem errW_none : errW none = .nilIface := rfl
theorem errW_some (c : Int) : errW (some c) = .iface 0 (.int .i64 c) := rfl
theorem info3 : (Try.prog.info? 3).map (fun i => (i.zero, i.size, i.bytes)) = some (some (.int .i64 0), 1, 8) := by kernel_rfl
theorem info4 : (Try.prog.info? 4).map (fun i => (i.zero, i.size, i.bytes)) = some (some (.bool false), 1, 1) := by kernel_rfl
theorem info24 : (Try.prog.info? 24).map (fun i => (i.zero, i.size, i.bytes)) = some (some (.slice none 0 0), 1, 24) := by kernel_rfl
theorem recast_ {P : Program} {f : FuncId} {xs ys : Array Value} {w : World} {Q : Ending → World → Prop} (h : Calls P f xs w Q) (e : ys = xs) : Calls P f ys w Q := e ▸ h
theorem take_len_ {α : Type} (l : List α) (i : Int) (h0 : 0 ≤ i) (h1 : i ≤ (l.length : Int)) : (l.take i.toNat).length = i.toNat := by
 rw [List.length_take]
 omega
theorem R_of_own_ {α : Type} {d : Kd α} {e : Nat} {w : World} {base : Nat} {v : Value} (h : w.ownsRow base e d.sz v 0 []) : d.R e w base (fun _ => True) v [] := ⟨fun _ _ => trivial, [], h, Reps.none _ _⟩
theorem own_grown_ {w : World} {e : TypeId} {z : Value} {n : Nat} (hz : z.cells.size = 1) (cap : Nat) (hn : n ≤ cap) (hc : cap ≤ maxLen) (base : Nat) (hb : base ≤ w.heap.size) :
  (w.drew.alloc (.cells (Builtin.zeroCells z.cells n ++ Builtin.zeroCells z.cells (cap - n)) e)).ownsRow base e 1 (.slice (some ⟨w.heap.size, 0, none⟩) 0 cap) 0 [] := by
 refine ⟨by simp, .inr ⟨w.heap.size, cap, _, rfl, hb, heap_alloc_new w.drew _, Nat.zero_le _, hc, ?_, by simp⟩⟩
 simp only [Array.size_append, size_zeroCells, hz]
 omega
def rowIn_ {α : Type} (l : List (List α)) (i : Int) : List α := l.getD i.toNat []
theorem rowIn_mem {α : Type} {l : List (List α)} {i : Int} (h0 : 0 ≤ i) (h1 : i < (l.length : Int)) : rowIn_ l i ∈ l := by
 unfold rowIn_
 rw [List.getD_eq_getElem?_getD, List.getElem?_eq_getElem (show i.toNat < l.length by omega)]
 exact List.getElem_mem _
theorem rowIn_at {α : Type} {e : Nat} {d : Kd α} {w : World} {A : Option Addr} {n : Nat} {l : List (List α)} (h : (Kd.slice e d).C w A n l) (i : Int) (h0 : 0 ≤ i) (h1 : i < n) :
  ∃ ad A' c', A = some ad ∧ w.cell? (ad.add i.toNat) = some (.slice A' (rowIn_ l i).length c') ∧ (rowIn_ l i).length ≤ c' ∧ d.C w A' (rowIn_ l i).length (rowIn_ l i) := by
 obtain ⟨ad, c, e, _, hK, hc0⟩ := Kd.C_get h ([] : List α) i h0 h1
 have hc : ∀ j u, c[j]? = some u → w.cell? (ad.add (i.toNat * 1 + j)) = some u := hc0
 obtain ⟨A0, c0, rfl, l0, g0⟩ := hK
 unfold rowIn_
 exact ⟨ad, A0, c0, e, by have hq := hc 0 _ rfl; rwa [Nat.mul_one, Nat.add_zero] at hq, l0, g0⟩
theorem flat_step_ {α : Type} (l : List (List α)) (i : Int) (h0 : 0 ≤ i) (h1 : i < (l.length : Int)) : (l.take (i + 1).toNat).flatten = (l.take i.toNat).flatten ++ rowIn_ l i := by
 have hl : i.toNat < l.length := by omega
 rw [show (i + 1).toNat = i.toNat + 1 by omega, List.take_succ_eq_append_getElem hl, List.flatten_append]
 unfold rowIn_
 rw [List.getD_eq_getElem?_getD, List.getElem?_eq_getElem hl]
 simp
theorem flat_le_ {α : Type} (l : List (List α)) (i : Nat) : (l.take i).flatten.length ≤ l.flatten.length := by
 have h : l.flatten = (l.take i).flatten ++ (l.drop i).flatten := by rw [← List.flatten_append, List.take_append_drop]
 rw [h, List.length_append]
 omega
theorem C_of_fixed_ {α : Type} {d : Kd α} {w0 w : World} {A : Option Addr} {n : Nat} {xs : List α} (h : (Kd.fixed d w0).C w A n xs) (hb : Below w0.heap.size w0 w) : d.C w A n xs :=
 ReadsRow.imp_ h (Below.refl _ _) (fun _ _ hk => d.K_below hb hk)
theorem R_came_ {α : Type} {d : Kd α} {e base : Nat} {w0 w : World} {ok : Nat → Prop} {v : Value} {xs : List α} (h : (Kd.fixed d w0).R e w base ok v xs) (hb : Below w0.heap.size w0 w) : ∃ A c, v = .slice A xs.length c ∧ xs.length ≤ c ∧ d.C w A xs.length xs := by
 obtain ⟨A, c, rfl⟩ := Kd.R_slice h
 exact ⟨A, c, rfl, (Kd.R_reads' h).2.1, C_of_fixed_ (Kd.R_reads' h).2.2 hb⟩
theorem R_mix_ {α : Type} {e e' : Nat} {d : Kd α} {w0 w : World} {base : Nat} {ok : Nat → Prop} {v : Value} {xs : List (List α)} (h : (Kd.slice e d).R e' w base ok v xs) : (Kd.mix e d d w0).R e' w base ok v xs := Kd.R_imp (d := Kd.slice e d) (d' := Kd.mix e d d w0) rfl (fun _ _ _ _ _ hp => Or.inr hp) h
theorem C_of_mix_ {α : Type} {e : Nat} {d : Kd α} {w0 w : World} {A : Option Addr} {n : Nat} {xs : List (List α)} (h : (Kd.mix e d d w0).C w A n xs) (hb : Below w0.heap.size w0 w) : (Kd.slice e d).C w A n xs :=
 ReadsRow.imp_ h (Below.refl _ _) (fun _ _ hk => hk.elim (fun hk => (Kd.slice e d).K_below hb hk) id)
theorem C_two_ {α : Type} {e : Nat} {d : Kd α} (W : World) (t : TypeId) (l1 l2 : List α) (A1 : Option Addr) (c1 : Nat) (A2 : Option Addr) (c2 : Nat) (h1 : d.C W A1 l1.length l1) (k1 : l1.length ≤ c1) (h2 : d.C W A2 l2.length l2) (k2 : l2.length ≤ c2) :
  (Kd.slice e d).C (W.alloc (.cells #[.slice A1 l1.length c1, .slice A2 l2.length c2] t)) (some ⟨W.heap.size, 0, none⟩) [l1, l2].length [l1, l2] := by
 have hb : Below W.heap.size W (W.alloc (.cells #[.slice A1 l1.length c1, .slice A2 l2.length c2] t)) := below_alloc (Below.refl _ _) _
 have hh : (W.alloc (.cells #[.slice A1 l1.length c1, .slice A2 l2.length c2] t)).heap[W.heap.size]? = some (.cells #[.slice A1 l1.length c1, .slice A2 l2.length c2] t (0, 0)) := blk_new W _
 refine ⟨rfl, by simp, fun _ => ⟨_, rfl, fun j p hj => ?_⟩⟩
 match j, hj with
 | 0, hj =>
  obtain rfl : l1 = p := by simpa using hj
  refine ⟨[.slice A1 l1.length c1], rfl, ⟨A1, c1, rfl, k1, Kd.C_below h1 hb⟩, fun i u hu => ?_⟩
  match i, hu with
  | 0, hu =>
   obtain rfl : Value.slice A1 l1.length c1 = u := by simpa using hu
   rw [add_plain, blk_cell hh]
   rfl
 | 1, hj =>
  obtain rfl : l2 = p := by simpa using hj
  refine ⟨[.slice A2 l2.length c2], rfl, ⟨A2, c2, rfl, k2, Kd.C_below h2 hb⟩, fun i u hu => ?_⟩
  match i, hu with
  | 0, hu =>
   obtain rfl : Value.slice A2 l2.length c2 = u := by simpa using hu
   rw [add_plain, blk_cell hh]
   rfl
theorem results_tmp4_ {fn : Func} {t u v x : Tmp} (h : fn.results = #[.tmp t, .tmp u, .tmp v, .tmp x]) (tmps : Array Value) (P : Program) (w : World) :
  (results fn tmps).run P w = .ok (.tuple #[tmps.getD t undef, tmps.getD u undef, tmps.getD v undef, tmps.getD x undef]) w := by
 simp [results, h]
theorem own_cut_ {A : Option Addr} {n c m d : Nat} : (Value.slice A n c).ownBlock = (Value.slice A m d).ownBlock := by cases A <;> rfl
theorem typed_ne_ {W : World} {v u : Value} {e1 e2 : Nat} (h1 : ∀ k, v.ownBlock = some k → ∃ cells, W.heap[k]? = some (.cells cells e1 (0, 0))) (h2 : ∀ k, u.ownBlock = some k → ∃ cells, W.heap[k]? = some (.cells cells e2 (0, 0))) (hne : e1 ≠ e2) :
  ∀ k, some k = v.ownBlock → some k ≠ u.ownBlock := fun k hk he => by
 obtain ⟨a, ha⟩ := h1 k hk.symm
 obtain ⟨b, hb⟩ := h2 k he.symm
 rw [ha] at hb
 injection hb with hb
 injection hb with _ hb
 exact hne hb
class Gw (W W1 : World) : Prop where
 out : Below W.heap.size W W1
instance gw_refl (W : World) : Gw W W := ⟨Below.refl _ _⟩
instance gw_alloc {W W1 : World} [i : Gw W W1] (o : Obj) : Gw W (W1.alloc o) := ⟨below_alloc i.out o⟩
instance gw_drew {W W1 : World} [i : Gw W W1] : Gw W W1.drew := ⟨below_drew i.out⟩
instance gw_drewN {W W1 : World} [i : Gw W W1] (m : Nat) : Gw W (W1.drewN m) := ⟨pw_below_drewN i.out m⟩
theorem zb_ {w W W1 : World} [i : Gw W W1] (h : Below w.heap.size w W) : Below w.heap.size w W1 := below_step h i.out
theorem zC_ {α : Type} {d : Kd α} {W W1 : World} {A : Option Addr} {n : Nat} {xs : List α} [i : Gw W W1] (h : d.C W A n xs) : d.C W1 A n xs := Kd.C_below h i.out
theorem zR_ {α : Type} {d : Kd α} {e base : Nat} {ok : Nat → Prop} {W W1 : World} {v : Value} {xs : List α} [i : Gw W W1] (h : d.R e W base ok v xs) : d.R e W1 base ok v xs := Kd.R_below h i.out
theorem zS_ {α : Type} {d : Kd α} {e base : Nat} {ok : Nat → Prop} {W W1 : World} {v : Value} {xs : List α} [i : Gw W W1] (h : d.S e W base ok v xs) : d.S e W1 base ok v xs := Kd.S_below h i.out
theorem zN_ {α : Type} {d : Kd α} {e base : Nat} {ok : Nat → Prop} {W W1 : World} {v : Value} {xs : List α} [i : Gw W W1] (h : d.N e W base ok v xs) : d.N e W1 base ok v xs := Kd.N_below h i.out
theorem zK_ {w W W1 : World} {g : Nat} [i : Gw W W1] (h : KeepBut w W g none) : KeepBut w W1 g none := KeepBut.trans h (KeepBut.of_below i.out g none) (.inl rfl)
theorem zA_ {α β : Type} {f : α → β} {l : List α} : l.toArray.map f = (l.map f).toArray := by simp
theorem zB_ {α β : Type} {f : α → β} {a : α} {l : List α} : (a :: l).map f = f a :: l.map f := rfl
theorem zD_ {α β : Type} {f : α → β} : ([] : List α).map f = [] := rfl
def rd_L2 (xs : List (List Int)) (i : Int) : (List Int) := xs.getD i.toNat ([] : List Int)
theorem at_L2 {w : World} {A : Option Addr} {n : Nat} {xs : List (List Int)} (h : Kd.C (Kd.slice 3 (Kd.int .i64)) w A n xs) (i : Int) (h0 : 0 ≤ i) (h1 : i < n) : ∃ ad A0 c0, A = some ad ∧ w.cell? (ad.add i.toNat) = some (.slice A0 (rd_L2 xs i).length c0) ∧ (rd_L2 xs i).length ≤ c0 ∧ (Kd.int .i64).C w A0 (rd_L2 xs i).length (rd_L2 xs i) := by
 obtain ⟨ad, c, e, _, hK, hc0⟩ := Kd.C_get h ([] : List Int) i h0 h1
 have hc : ∀ j u, c[j]? = some u → w.cell? (ad.add (i.toNat * 1 + j)) = some u := hc0
 obtain ⟨A0, c0, rfl, l0, g0⟩ := hK
 exact ⟨ad, A0, c0, e, by have hq := hc 0 _ rfl; rwa [Nat.mul_one, Nat.add_zero] at hq, l0, g0⟩
def rd_L3 (xs : List (List (List Int))) (i : Int) : (List (List Int)) := xs.getD i.toNat ([] : List (List Int))
def rd_L4 (xs : List (List (List (List Int)))) (i : Int) : (List (List (List Int))) := xs.getD i.toNat ([] : List (List (List Int)))
def rd_L6 (xs : List (List Bool)) (i : Int) : (List Bool) := xs.getD i.toNat ([] : List Bool)
end Go.Proofs.Ytpkbjgmeejlchab.PFnFollows

-- squeezed
