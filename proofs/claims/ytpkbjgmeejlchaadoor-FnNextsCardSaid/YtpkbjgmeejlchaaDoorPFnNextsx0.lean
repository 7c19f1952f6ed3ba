-- Made by a program of this session (wip/tools), which leans on the kit's print: checked by Lean alone.
import Derived.Test.YtpkbjgmeejlchaaDoorProg
import Derived.Below
import Derived.Deep.Draws
import Derived.Deep.AppendLies
import Derived.Maps.AppendAt
import Derived.OwnWalk
import Derived.Laws.BytesArg
import Derived.Laws.MakeOwn
import Derived.Laws.OwnMore
import Derived.Deep.OwnRows
import Derived.Tactics
import Derived.Lib.ConvBytes
import Derived.Laws.Slices
import Derived.WalkKit
import Derived.KernelRfl
import Derived.RowKit3
import Derived.Deep.LoopGhost
import Derived.Deep.QuietTactic
import Derived.BigQuiet
import Derived.WideLaws
import Derived.Deep.DeepCutAuto
import Derived.Deep.CutBlock
import Derived.Deep.RegionHeld3
import Derived.Laws.Rows
import Derived.Lib.AppendStr
import Derived.ArgAppend
import Derived.Laws.IdiomCopy
import Derived.OrdersHeld
import Derived.Laws.BitsLemmas
import Derived.RowKit
import Derived.Shelf.Abstract
import Derived.Lib.SliceRun
import Derived.Lib.AppendZeros
import Derived.Deep.RegionLaw
import Derived.Shelf.Strconv.Itoa3
import Derived.Lib.AppendIntMem
import Derived.Test.YtpkbjgmeejlchaaDoorVWordsFnNexts
import Derived.Test.YtpkbjgmeejlchaaDoorVLastFnNexts
import Derived.Test.YtpkbjgmeejlchaaDoorVTabFnNexts
import Derived.Test.YtpkbjgmeejlchaaDoorVQPutFnNexts
import Derived.Test.YtpkbjgmeejlchaaDoorVApartFnNexts
import Derived.Test.YtpkbjgmeejlchaaDoorVArrFnNexts
import Derived.Test.YtpkbjgmeejlchaaDoorVZerosFnNexts
import Derived.Test.YtpkbjgmeejlchaaDoorVFootFnNexts
import Derived.Test.YtpkbjgmeejlchaaDoorVKeptFnNexts
import Derived.Test.YtpkbjgmeejlchaaDoorVShareFnNexts
import Derived.Test.YtpkbjgmeejlchaaDoorVNFnNexts
import Derived.Test.YtpkbjgmeejlchaaDoorVRepsOneFnNexts
import Derived.Test.YtpkbjgmeejlchaaDoorVGuardFnNexts
import Derived.Test.YtpkbjgmeejlchaaDoorVNEvFnNexts
import Derived.Test.YtpkbjgmeejlchaaDoorVMoreFnNexts
namespace Go.Proofs.YtpkbjgmeejlchaaDoor.PFnNexts
open Go.RowKit Go.Proofs.YtpkbjgmeejlchaaDoorW.PrintWords Go.Proofs.YtpkbjgmeejlchaaDoorW.PrintLast Go.Proofs.YtpkbjgmeejlchaaDoorW.PrintMore
attribute [local go_sem] max2_int min2_int max_two min_two max_three min_three max_four min_four
set_option linter.unusedVariables false
set_option linter.unusedSimpArgs false
def errW : Option Int → Value
 | none => .nilIface
 | some c => .iface 0 (.int .i64 c)
theorem errW_none : errW none = .nilIface := rfl
theorem errW_some (c : Int) : errW (some c) = .iface 0 (.int .i64 c) := rfl
theorem info3 : (Tryd.prog.info? 3).map (fun i => (i.zero, i.size, i.bytes)) = some (some (.int .i64 0), 1, 8) := by kernel_rfl
theorem info5 : (Tryd.prog.info? 5).map (fun i => (i.zero, i.size, i.bytes)) = some (some (.int .u8 0), 1, 1) := by kernel_rfl
theorem info31 : (Tryd.prog.info? 31).map (fun i => (i.zero, i.size, i.bytes)) = some (some (.agg #[(.int .i64 0), (.int .i64 0), (.int .i64 0), (.int .i64 0), (.int .i64 0), (.int .i64 0)]), 6, 48) := by kernel_rfl
def rowIn_ {α : Type} (l : List (List α)) (i : Int) : List α := l.getD i.toNat []
class Gw (W W1 : World) : Prop where
 out : Below W.heap.size W W1
instance gw_refl (W : World) : Gw W W := ⟨Below.refl _ _⟩
instance gw_alloc {W W1 : World} [i : Gw W W1] (o : Obj) : Gw W (W1.alloc o) := ⟨below_alloc i.out o⟩
instance gw_drew {W W1 : World} [i : Gw W W1] : Gw W W1.drew := ⟨below_drew i.out⟩
instance gw_drewN {W W1 : World} [i : Gw W W1] (m : Nat) : Gw W (W1.drewN m) := ⟨pw_below_drewN i.out m⟩
instance gw_drewN_set {W : World} {p : Addr} {v : Value} {m : Nat} : Gw (W.setCell p v) ((W.drewN m).setCell p v) := ⟨show Below _ (W.setCell p v) ((W.setCell p v).drewN m) from pw_below_drewN (Below.refl _ _) m⟩
theorem zb_ {w W W1 : World} [i : Gw W W1] (h : Below w.heap.size w W) : Below w.heap.size w W1 := below_step h i.out
theorem zC_ {α : Type} {d : Kd α} {W W1 : World} {A : Option Addr} {n : Nat} {xs : List α} [i : Gw W W1] (h : d.C W A n xs) : d.C W1 A n xs := Kd.C_below h i.out
theorem zR_ {α : Type} {d : Kd α} {e base : Nat} {ok : Nat → Prop} {W W1 : World} {v : Value} {xs : List α} [i : Gw W W1] (h : d.R e W base ok v xs) : d.R e W1 base ok v xs := Kd.R_below h i.out
theorem zK_ {w W W1 : World} {g : Nat} [i : Gw W W1] (h : KeepBut w W g none) : KeepBut w W1 g none := KeepBut.trans h (KeepBut.of_below i.out g none) (.inl rfl)
theorem zA_ {α β : Type} {f : α → β} {l : List α} : l.toArray.map f = (l.map f).toArray := by simp
theorem zB_ {α β : Type} {f : α → β} {a : α} {l : List α} : (a :: l).map f = f a :: l.map f := rfl
theorem zD_ {α β : Type} {f : α → β} : ([] : List α).map f = [] := rfl
structure S31 where
 f0 : Int
 f1 : Int
 f2 : Int
 f3 : Int
 f4 : Int
 f5 : Int
def z31 : S31 := ⟨(0 : Int), (0 : Int), (0 : Int), (0 : Int), (0 : Int), (0 : Int)⟩
def k31 : Kd S31 := Kd.iso (Kd.pair (Kd.int .i64) (Kd.pair (Kd.int .i64) (Kd.pair (Kd.int .i64) (Kd.pair (Kd.int .i64) (Kd.pair (Kd.int .i64) (Kd.int .i64)))))) (fun x : S31 => (x.f0, x.f1, x.f2, x.f3, x.f4, x.f5))
theorem k31_open {w : World} {x : S31} {cs : List Value} (h : k31.K w x cs) : cs = [.int .i64 x.f0, .int .i64 x.f1, .int .i64 x.f2, .int .i64 x.f3, .int .i64 x.f4, .int .i64 x.f5] := by
 obtain ⟨_, _, rfl, rfl, ⟨_, _, rfl, rfl, ⟨_, _, rfl, rfl, ⟨_, _, rfl, rfl, ⟨_, _, rfl, rfl, rfl⟩⟩⟩⟩⟩ := h
 exact rfl
theorem k31_openM {w : World} {base : Nat} {ok : Nat → Prop} {x : S31} {cs : List Value} (h : k31.M w base ok x cs) : cs = [.int .i64 x.f0, .int .i64 x.f1, .int .i64 x.f2, .int .i64 x.f3, .int .i64 x.f4, .int .i64 x.f5] := by
 obtain ⟨_, _, rfl, rfl, ⟨_, _, rfl, rfl, ⟨_, _, rfl, rfl, ⟨_, _, rfl, rfl, ⟨_, _, rfl, rfl, rfl⟩⟩⟩⟩⟩ := h
 exact rfl
theorem k31_mkM (w : World) (base : Nat) (ok : Nat → Prop) (x : S31)  : k31.M w base ok x [.int .i64 x.f0, .int .i64 x.f1, .int .i64 x.f2, .int .i64 x.f3, .int .i64 x.f4, .int .i64 x.f5] := ⟨[.int .i64 x.f0], [.int .i64 x.f1, .int .i64 x.f2, .int .i64 x.f3, .int .i64 x.f4, .int .i64 x.f5], rfl, rfl, ⟨[.int .i64 x.f1], [.int .i64 x.f2, .int .i64 x.f3, .int .i64 x.f4, .int .i64 x.f5], rfl, rfl, ⟨[.int .i64 x.f2], [.int .i64 x.f3, .int .i64 x.f4, .int .i64 x.f5], rfl, rfl, ⟨[.int .i64 x.f3], [.int .i64 x.f4, .int .i64 x.f5], rfl, rfl, ⟨[.int .i64 x.f4], [.int .i64 x.f5], rfl, rfl, rfl⟩⟩⟩⟩⟩
def rd_T31 (xs : List S31) (i : Int) : S31 := xs.getD i.toNat z31
theorem at_T31 {w : World} {A : Option Addr} {n : Nat} {xs : List S31} (h : Kd.C k31 w A n xs) (i : Int) (h0 : 0 ≤ i) (h1 : i < n) : ∃ ad , A = some ad ∧ w.cell? (ad.add (i.toNat * 6)) = some (.int .i64 (rd_T31 xs i).f0) ∧ w.cell? ⟨(ad.add (i.toNat * 6)).block, (ad.add (i.toNat * 6)).off + 1, none⟩ = some (.int .i64 (rd_T31 xs i).f1) ∧ w.cell? ⟨(ad.add (i.toNat * 6)).block, (ad.add (i.toNat * 6)).off + 2, none⟩ = some (.int .i64 (rd_T31 xs i).f2) ∧ w.cell? ⟨(ad.add (i.toNat * 6)).block, (ad.add (i.toNat * 6)).off + 3, none⟩ = some (.int .i64 (rd_T31 xs i).f3) ∧ w.cell? ⟨(ad.add (i.toNat * 6)).block, (ad.add (i.toNat * 6)).off + 4, none⟩ = some (.int .i64 (rd_T31 xs i).f4) ∧ w.cell? ⟨(ad.add (i.toNat * 6)).block, (ad.add (i.toNat * 6)).off + 5, none⟩ = some (.int .i64 (rd_T31 xs i).f5) := by
 obtain ⟨ad, c, e, _, hK, hc0⟩ := Kd.C_get h z31 i h0 h1
 have hc : ∀ j u, c[j]? = some u → w.cell? (ad.add (i.toNat * 6 + j)) = some u := hc0
 obtain rfl := k31_open hK
 exact ⟨ad, e, hc 0 _ rfl, by rw [← add_field _ _ 1 (by omega)]; exact hc 1 _ rfl, by rw [← add_field _ _ 2 (by omega)]; exact hc 2 _ rfl, by rw [← add_field _ _ 3 (by omega)]; exact hc 3 _ rfl, by rw [← add_field _ _ 4 (by omega)]; exact hc 4 _ rfl, by rw [← add_field _ _ 5 (by omega)]; exact hc 5 _ rfl⟩
end Go.Proofs.YtpkbjgmeejlchaaDoor.PFnNexts

-- squeezed
