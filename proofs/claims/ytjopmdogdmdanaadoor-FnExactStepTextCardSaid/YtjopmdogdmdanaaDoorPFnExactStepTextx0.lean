-- Made by a program of this session (wip/tools), which leans on the kit's print: checked by Lean alone.
import Derived.Test.YtjopmdogdmdanaaDoorProg
import Derived.Below
import Derived.Deep.Draws
import Derived.Deep.AppendLies
import Derived.Maps.AppendAt
import Derived.OwnWalk
import Derived.Laws.BytesArg
import Derived.Laws.MakeOwn
import Derived.Laws.OwnMore
import Derived.Deep.OwnRows
import Derived.Tactics
import Derived.Lib.ConvBytes
import Derived.Laws.Slices
import Derived.WalkKit
import Derived.KernelRfl
import Derived.RowKit3
import Derived.Deep.LoopGhost
import Derived.Deep.QuietTactic
import Derived.BigQuiet
import Derived.WideLaws
import Derived.Deep.DeepCutAuto
import Derived.Deep.CutBlock
import Derived.Deep.RegionHeld3
import Derived.Laws.Rows
import Derived.Lib.AppendStr
import Derived.ArgAppend
import Derived.Laws.IdiomCopy
import Derived.OrdersHeld
import Derived.Laws.BitsLemmas
import Derived.RowKit
import Derived.Shelf.Abstract
import Derived.Lib.SliceRun
import Derived.Lib.AppendZeros
import Derived.Deep.RegionLaw
import Derived.Shelf.Strconv.Itoa3
import Derived.Lib.AppendIntMem
import Derived.Test.YtjopmdogdmdanaaDoorWWords
import Derived.Test.YtjopmdogdmdanaaDoorWLast
import Derived.Test.YtjopmdogdmdanaaDoorWTab
import Derived.Test.YtjopmdogdmdanaaDoorWFour
import Derived.Test.YtjopmdogdmdanaaDoorWQPut
import Derived.Test.YtjopmdogdmdanaaDoorWApart
import Derived.Test.YtjopmdogdmdanaaDoorWArr
import Derived.Test.YtjopmdogdmdanaaDoorWZeros
import Derived.Test.YtjopmdogdmdanaaDoorWFoot
import Derived.Test.YtjopmdogdmdanaaDoorWKept
import Derived.Test.YtjopmdogdmdanaaDoorWShare
import Derived.Test.YtjopmdogdmdanaaDoorWN
import Derived.Test.YtjopmdogdmdanaaDoorWFootNe
import Derived.Test.YtjopmdogdmdanaaDoorWAt
import Derived.Test.YtjopmdogdmdanaaDoorWEqStruct
import Derived.Test.YtjopmdogdmdanaaDoorWRepsOne
import Derived.Test.YtjopmdogdmdanaaDoorWInv
import Derived.Test.YtjopmdogdmdanaaDoorWInvWords
import Derived.Test.YtjopmdogdmdanaaDoorWGuard
import Derived.Test.YtjopmdogdmdanaaDoorWNEv
import Derived.Test.YtjopmdogdmdanaaDoorWMore
namespace Go.Proofs.YtjopmdogdmdanaaDoor.PFnExactStepText
open Go.RowKit Go.Proofs.YtjopmdogdmdanaaDoorW.PrintWords Go.Proofs.YtjopmdogdmdanaaDoorW.PrintLast Go.Proofs.YtjopmdogdmdanaaDoorW.PrintMore
attribute [local go_sem] max2_int min2_int max_two min_two max_three min_three max_four min_four   -- for this text's walks alone
set_option linter.unusedVariables false
set_option linter.unusedSimpArgs false



def errW : Option Int → Value
  | none => .nilIface
  | some c => .iface 0 (.int .i64 c)
theorem errW_none : errW none = .nilIface := rfl
theorem errW_some (c : Int) : errW (some c) = .iface 0 (.int .i64 c) := rfl

theorem info5 : (Tryd.prog.info? 5).map (fun i => (i.zero, i.size, i.bytes)) = some (some (.int .u8 0), 1, 1) := by kernel_rfl
theorem info9 : (Tryd.prog.info? 9).map (fun i => (i.zero, i.size, i.bytes)) = some (some (.string ⟨#[]⟩), 1, 16) := by kernel_rfl
theorem iv_ {W w1 : World} (hb : Below W.heap.size W w1) : ∃ lo hi : Nat, W.heap.size = lo ∧ w1.heap.size = hi ∧ lo ≤ hi := ⟨_, _, rfl, rfl, hb.size⟩
theorem recast_ {P : Program} {f : FuncId} {xs ys : Array Value} {w : World} {Q : Ending → World → Prop} (h : Calls P f xs w Q) (e : ys = xs) : Calls P f ys w Q := e ▸ h
theorem take_len_ {α : Type} (l : List α) (i : Int) (h0 : 0 ≤ i) (h1 : i ≤ (l.length : Int)) : (l.take i.toNat).length = i.toNat := by
  rw [List.length_take]
  omega
theorem drop_len_ {α : Type} (l : List α) (i : Int) (h0 : 0 ≤ i) (h1 : i ≤ (l.length : Int)) : (l.drop i.toNat).length = l.length - i.toNat := by
  rw [List.length_drop]
theorem R_of_own_ {α : Type} {d : Kd α} {e : Nat} {w : World} {base : Nat} {v : Value} (h : w.ownsRow base e d.sz v 0 []) : d.R e w base (fun _ => True) v [] := ⟨fun _ _ => trivial, [], h, Reps.none _ _⟩
theorem own_grown_ {w : World} {e : TypeId} {z : Value} {n : Nat} (hz : z.cells.size = 1) (cap : Nat) (hn : n ≤ cap) (hc : cap ≤ maxLen) (base : Nat) (hb : base ≤ w.heap.size) :
    (w.drew.alloc (.cells (Builtin.zeroCells z.cells n ++ Builtin.zeroCells z.cells (cap - n)) e)).ownsRow base e 1 (.slice (some ⟨w.heap.size, 0, none⟩) 0 cap) 0 [] := by
  refine ⟨by simp, .inr ⟨w.heap.size, cap, _, rfl, hb, heap_alloc_new w.drew _, Nat.zero_le _, hc, ?_, by simp⟩⟩
  simp only [Array.size_append, size_zeroCells, hz]
  omega
/-- The row at a place. -/
def rowIn_ {α : Type} (l : List (List α)) (i : Int) : List α := l.getD i.toNat []
theorem rowIn_mem {α : Type} {l : List (List α)} {i : Int} (h0 : 0 ≤ i) (h1 : i < (l.length : Int)) : rowIn_ l i ∈ l := by
  unfold rowIn_
  rw [List.getD_eq_getElem?_getD, List.getElem?_eq_getElem (show i.toNat < l.length by omega)]
  exact List.getElem_mem _
theorem rowIn_at {α : Type} {e : Nat} {d : Kd α} {w : World} {A : Option Addr} {n : Nat} {l : List (List α)} (h : (Kd.slice e d).C w A n l) (i : Int) (h0 : 0 ≤ i) (h1 : i < n) :
    ∃ ad A' c', A = some ad ∧ w.cell? (ad.add i.toNat) = some (.slice A' (rowIn_ l i).length c') ∧ (rowIn_ l i).length ≤ c' ∧ d.C w A' (rowIn_ l i).length (rowIn_ l i) := by
  obtain ⟨ad, c, e, _, hK, hc0⟩ := Kd.C_get h ([] : List α) i h0 h1
  have hc : ∀ j u, c[j]? = some u → w.cell? (ad.add (i.toNat * 1 + j)) = some u := hc0
  obtain ⟨A0, c0, rfl, l0, g0⟩ := hK
  unfold rowIn_
  exact ⟨ad, A0, c0, e, by have hq := hc 0 _ rfl; rwa [Nat.mul_one, Nat.add_zero] at hq, l0, g0⟩
theorem flat_step_ {α : Type} (l : List (List α)) (i : Int) (h0 : 0 ≤ i) (h1 : i < (l.length : Int)) : (l.take (i + 1).toNat).flatten = (l.take i.toNat).flatten ++ rowIn_ l i := by
  have hl : i.toNat < l.length := by omega
  rw [show (i + 1).toNat = i.toNat + 1 by omega, List.take_succ_eq_append_getElem hl, List.flatten_append]
  unfold rowIn_
  rw [List.getD_eq_getElem?_getD, List.getElem?_eq_getElem hl]
  simp
theorem flat_le_ {α : Type} (l : List (List α)) (i : Nat) : (l.take i).flatten.length ≤ l.flatten.length := by
  have h : l.flatten = (l.take i).flatten ++ (l.drop i).flatten := by rw [← List.flatten_append, List.take_append_drop]
  rw [h, List.length_append]
  omega
theorem C_of_fixed_ {α : Type} {d : Kd α} {w0 w : World} {A : Option Addr} {n : Nat} {xs : List α} (h : (Kd.fixed d w0).C w A n xs) (hb : Below w0.heap.size w0 w) : d.C w A n xs :=
  ReadsRow.imp_ h (Below.refl _ _) (fun _ _ hk => d.K_below hb hk)
theorem R_came_ {α : Type} {d : Kd α} {e base : Nat} {w0 w : World} {ok : Nat → Prop} {v : Value} {xs : List α} (h : (Kd.fixed d w0).R e w base ok v xs) (hb : Below w0.heap.size w0 w) : ∃ A c, v = .slice A xs.length c ∧ xs.length ≤ c ∧ d.C w A xs.length xs := by
  obtain ⟨A, c, rfl⟩ := Kd.R_slice h
  exact ⟨A, c, rfl, (Kd.R_reads' h).2.1, C_of_fixed_ (Kd.R_reads' h).2.2 hb⟩
theorem R_mix_ {α : Type} {e e' : Nat} {d : Kd α} {w0 w : World} {base : Nat} {ok : Nat → Prop} {v : Value} {xs : List (List α)} (h : (Kd.slice e d).R e' w base ok v xs) : (Kd.mix e d d w0).R e' w base ok v xs := Kd.R_imp (d := Kd.slice e d) (d' := Kd.mix e d d w0) rfl (fun _ _ _ _ _ hp => Or.inr hp) h
theorem C_of_mix_ {α : Type} {e : Nat} {d : Kd α} {w0 w : World} {A : Option Addr} {n : Nat} {xs : List (List α)} (h : (Kd.mix e d d w0).C w A n xs) (hb : Below w0.heap.size w0 w) : (Kd.slice e d).C w A n xs :=
  ReadsRow.imp_ h (Below.refl _ _) (fun _ _ hk => hk.elim (fun hk => (Kd.slice e d).K_below hb hk) id)
theorem C_two_ {α : Type} {e : Nat} {d : Kd α} (W : World) (t : TypeId) (l1 l2 : List α) (A1 : Option Addr) (c1 : Nat) (A2 : Option Addr) (c2 : Nat) (h1 : d.C W A1 l1.length l1) (k1 : l1.length ≤ c1) (h2 : d.C W A2 l2.length l2) (k2 : l2.length ≤ c2) :
    (Kd.slice e d).C (W.alloc (.cells #[.slice A1 l1.length c1, .slice A2 l2.length c2] t)) (some ⟨W.heap.size, 0, none⟩) [l1, l2].length [l1, l2] := by
  have hb : Below W.heap.size W (W.alloc (.cells #[.slice A1 l1.length c1, .slice A2 l2.length c2] t)) := below_alloc (Below.refl _ _) _
  have hh : (W.alloc (.cells #[.slice A1 l1.length c1, .slice A2 l2.length c2] t)).heap[W.heap.size]? = some (.cells #[.slice A1 l1.length c1, .slice A2 l2.length c2] t (0, 0)) := blk_new W _
  refine ⟨rfl, by simp, fun _ => ⟨_, rfl, fun j p hj => ?_⟩⟩
  match j, hj with
  | 0, hj =>
    obtain rfl : l1 = p := by simpa using hj
    refine ⟨[.slice A1 l1.length c1], rfl, ⟨A1, c1, rfl, k1, Kd.C_below h1 hb⟩, fun i u hu => ?_⟩
    match i, hu with
    | 0, hu =>
      obtain rfl : Value.slice A1 l1.length c1 = u := by simpa using hu
      rw [add_plain, blk_cell hh]
      rfl
  | 1, hj =>
    obtain rfl : l2 = p := by simpa using hj
    refine ⟨[.slice A2 l2.length c2], rfl, ⟨A2, c2, rfl, k2, Kd.C_below h2 hb⟩, fun i u hu => ?_⟩
    match i, hu with
    | 0, hu =>
      obtain rfl : Value.slice A2 l2.length c2 = u := by simpa using hu
      rw [add_plain, blk_cell hh]
      rfl
theorem results_tmp4_ {fn : Func} {t u v x : Tmp} (h : fn.results = #[.tmp t, .tmp u, .tmp v, .tmp x]) (tmps : Array Value) (P : Program) (w : World) :
    (results fn tmps).run P w = .ok (.tuple #[tmps.getD t undef, tmps.getD u undef, tmps.getD v undef, tmps.getD x undef]) w := by
  simp [results, h]
theorem own_cut_ {A : Option Addr} {n c m d : Nat} : (Value.slice A n c).ownBlock = (Value.slice A m d).ownBlock := by cases A <;> rfl
theorem typed_ne_ {W : World} {v u : Value} {e1 e2 : Nat} (h1 : ∀ k, v.ownBlock = some k → ∃ cells, W.heap[k]? = some (.cells cells e1 (0, 0))) (h2 : ∀ k, u.ownBlock = some k → ∃ cells, W.heap[k]? = some (.cells cells e2 (0, 0))) (hne : e1 ≠ e2) :
    ∀ k, some k = v.ownBlock → some k ≠ u.ownBlock := fun k hk he => by
  obtain ⟨a, ha⟩ := h1 k hk.symm
  obtain ⟨b, hb⟩ := h2 k he.symm
  rw [ha] at hb
  injection hb with hb
  injection hb with _ hb
  exact hne hb
/-- What has grown out of a world by new blocks and draws alone: told by the worlds' shapes. -/
class Gw (W W1 : World) : Prop where
  out : Below W.heap.size W W1
instance gw_refl (W : World) : Gw W W := ⟨Below.refl _ _⟩
instance gw_alloc {W W1 : World} [i : Gw W W1] (o : Obj) : Gw W (W1.alloc o) := ⟨below_alloc i.out o⟩
instance gw_drew {W W1 : World} [i : Gw W W1] : Gw W W1.drew := ⟨below_drew i.out⟩
instance gw_drewN {W W1 : World} [i : Gw W W1] (m : Nat) : Gw W (W1.drewN m) := ⟨pw_below_drewN i.out m⟩
instance gw_drewN_set {W : World} {p : Addr} {v : Value} {m : Nat} : Gw (W.setCell p v) ((W.drewN m).setCell p v) := ⟨show Below _ (W.setCell p v) ((W.setCell p v).drewN m) from pw_below_drewN (Below.refl _ _) m⟩
theorem zb_ {w W W1 : World} [i : Gw W W1] (h : Below w.heap.size w W) : Below w.heap.size w W1 := below_step h i.out
theorem zC_ {α : Type} {d : Kd α} {W W1 : World} {A : Option Addr} {n : Nat} {xs : List α} [i : Gw W W1] (h : d.C W A n xs) : d.C W1 A n xs := Kd.C_below h i.out
theorem zR_ {α : Type} {d : Kd α} {e base : Nat} {ok : Nat → Prop} {W W1 : World} {v : Value} {xs : List α} [i : Gw W W1] (h : d.R e W base ok v xs) : d.R e W1 base ok v xs := Kd.R_below h i.out
theorem zQ_ {α : Type} {d : Kd α} {e base : Nat} {ok : Nat → Prop} {W W1 : World} {v : Value} {xs : List α} [i : Gw W W1] (h : d.Q e W base ok v xs) : d.Q e W1 base ok v xs := Kd.Q_below h i.out
theorem zS_ {α : Type} {d : Kd α} {e base : Nat} {ok : Nat → Prop} {W W1 : World} {v : Value} {xs : List α} [i : Gw W W1] (h : d.S e W base ok v xs) : d.S e W1 base ok v xs := Kd.S_below h i.out
theorem zN_ {α : Type} {d : Kd α} {e base : Nat} {ok : Nat → Prop} {W W1 : World} {v : Value} {xs : List α} [i : Gw W W1] (h : d.N e W base ok v xs) : d.N e W1 base ok v xs := Kd.N_below h i.out
theorem zK_ {w W W1 : World} {g : Nat} [i : Gw W W1] (h : KeepBut w W g none) : KeepBut w W1 g none := KeepBut.trans h (KeepBut.of_below i.out g none) (.inl rfl)
theorem zA_ {α β : Type} {f : α → β} {l : List α} : l.toArray.map f = (l.map f).toArray := by simp
theorem zB_ {α β : Type} {f : α → β} {a : α} {l : List α} : (a :: l).map f = f a :: l.map f := rfl
theorem zD_ {α β : Type} {f : α → β} : ([] : List α).map f = [] := rfl

-- the values' own types
/-! #### struct type 26 -/
structure S26 where
  f0 : Int
  f1 : Int
  f2 : Int
  f3 : Int
  f4 : Int
  f5 : Int
def z26 : S26 := ⟨(0 : Int), (0 : Int), (0 : Int), (0 : Int), (0 : Int), (0 : Int)⟩
def k26 : Kd S26 := Kd.iso (Kd.pair (Kd.int .i64) (Kd.pair (Kd.int .i64) (Kd.pair (Kd.int .i64) (Kd.pair (Kd.int .i64) (Kd.pair (Kd.int .i64) (Kd.int .i64)))))) (fun x : S26 => (x.f0, x.f1, x.f2, x.f3, x.f4, x.f5))
theorem k26_open {w : World} {x : S26} {cs : List Value} (h : k26.K w x cs) : cs = [.int .i64 x.f0, .int .i64 x.f1, .int .i64 x.f2, .int .i64 x.f3, .int .i64 x.f4, .int .i64 x.f5] := by
  obtain ⟨_, _, rfl, rfl, ⟨_, _, rfl, rfl, ⟨_, _, rfl, rfl, ⟨_, _, rfl, rfl, ⟨_, _, rfl, rfl, rfl⟩⟩⟩⟩⟩ := h
  exact rfl
theorem k26_openM {w : World} {base : Nat} {ok : Nat → Prop} {x : S26} {cs : List Value} (h : k26.M w base ok x cs) : cs = [.int .i64 x.f0, .int .i64 x.f1, .int .i64 x.f2, .int .i64 x.f3, .int .i64 x.f4, .int .i64 x.f5] := by
  obtain ⟨_, _, rfl, rfl, ⟨_, _, rfl, rfl, ⟨_, _, rfl, rfl, ⟨_, _, rfl, rfl, ⟨_, _, rfl, rfl, rfl⟩⟩⟩⟩⟩ := h
  exact rfl
theorem k26_mk (w : World) (x : S26)  : k26.K w x [.int .i64 x.f0, .int .i64 x.f1, .int .i64 x.f2, .int .i64 x.f3, .int .i64 x.f4, .int .i64 x.f5] := ⟨[.int .i64 x.f0], [.int .i64 x.f1, .int .i64 x.f2, .int .i64 x.f3, .int .i64 x.f4, .int .i64 x.f5], rfl, rfl, ⟨[.int .i64 x.f1], [.int .i64 x.f2, .int .i64 x.f3, .int .i64 x.f4, .int .i64 x.f5], rfl, rfl, ⟨[.int .i64 x.f2], [.int .i64 x.f3, .int .i64 x.f4, .int .i64 x.f5], rfl, rfl, ⟨[.int .i64 x.f3], [.int .i64 x.f4, .int .i64 x.f5], rfl, rfl, ⟨[.int .i64 x.f4], [.int .i64 x.f5], rfl, rfl, rfl⟩⟩⟩⟩⟩
theorem k26_mkM (w : World) (base : Nat) (ok : Nat → Prop) (x : S26)  : k26.M w base ok x [.int .i64 x.f0, .int .i64 x.f1, .int .i64 x.f2, .int .i64 x.f3, .int .i64 x.f4, .int .i64 x.f5] := ⟨[.int .i64 x.f0], [.int .i64 x.f1, .int .i64 x.f2, .int .i64 x.f3, .int .i64 x.f4, .int .i64 x.f5], rfl, rfl, ⟨[.int .i64 x.f1], [.int .i64 x.f2, .int .i64 x.f3, .int .i64 x.f4, .int .i64 x.f5], rfl, rfl, ⟨[.int .i64 x.f2], [.int .i64 x.f3, .int .i64 x.f4, .int .i64 x.f5], rfl, rfl, ⟨[.int .i64 x.f3], [.int .i64 x.f4, .int .i64 x.f5], rfl, rfl, ⟨[.int .i64 x.f4], [.int .i64 x.f5], rfl, rfl, rfl⟩⟩⟩⟩⟩
def rd_T26 (xs : List S26) (i : Int) : S26 := xs.getD i.toNat z26
theorem at_T26 {w : World} {A : Option Addr} {n : Nat} {xs : List S26} (h : Kd.C k26 w A n xs) (i : Int) (h0 : 0 ≤ i) (h1 : i < n) : ∃ ad , A = some ad ∧ w.cell? (ad.add (i.toNat * 6)) = some (.int .i64 (rd_T26 xs i).f0) ∧ w.cell? ⟨(ad.add (i.toNat * 6)).block, (ad.add (i.toNat * 6)).off + 1, none⟩ = some (.int .i64 (rd_T26 xs i).f1) ∧ w.cell? ⟨(ad.add (i.toNat * 6)).block, (ad.add (i.toNat * 6)).off + 2, none⟩ = some (.int .i64 (rd_T26 xs i).f2) ∧ w.cell? ⟨(ad.add (i.toNat * 6)).block, (ad.add (i.toNat * 6)).off + 3, none⟩ = some (.int .i64 (rd_T26 xs i).f3) ∧ w.cell? ⟨(ad.add (i.toNat * 6)).block, (ad.add (i.toNat * 6)).off + 4, none⟩ = some (.int .i64 (rd_T26 xs i).f4) ∧ w.cell? ⟨(ad.add (i.toNat * 6)).block, (ad.add (i.toNat * 6)).off + 5, none⟩ = some (.int .i64 (rd_T26 xs i).f5) := by
  obtain ⟨ad, c, e, _, hK, hc0⟩ := Kd.C_get h z26 i h0 h1
  have hc : ∀ j u, c[j]? = some u → w.cell? (ad.add (i.toNat * 6 + j)) = some u := hc0
  obtain rfl := k26_open hK
  exact ⟨ad, e, hc 0 _ rfl, by rw [← add_field _ _ 1 (by omega)]; exact hc 1 _ rfl, by rw [← add_field _ _ 2 (by omega)]; exact hc 2 _ rfl, by rw [← add_field _ _ 3 (by omega)]; exact hc 3 _ rfl, by rw [← add_field _ _ 4 (by omega)]; exact hc 4 _ rfl, by rw [← add_field _ _ 5 (by omega)]; exact hc 5 _ rfl⟩

end Go.Proofs.YtjopmdogdmdanaaDoor.PFnExactStepText
