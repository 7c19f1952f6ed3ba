-- Made by a program of this session (wip/tools), which leans on the kit's print: checked by Lean alone.
import Derived.Test.YtjopmdogdmdanaaPFnExactTraceOfx0
import Derived.Test.YtjopmdogdmdanaaPFnExactTraceOfx5
namespace Go.Proofs.Ytjopmdogdmdanaa.PFnExactTraceOf
open Go.RowKit Go.Proofs.YtjopmdogdmdanaaW.PrintWords Go.Proofs.YtjopmdogdmdanaaW.PrintLast Go.Proofs.YtjopmdogdmdanaaW.PrintMore
attribute [local go_sem] max2_int min2_int max_two min_two max_three min_three max_four min_four   -- for this text's walks alone
set_option linter.unusedVariables false
set_option linter.unusedSimpArgs false
mutual
def spec_l3Do.j2 : Nat → Int → Int → Int → Int → List Int → List Int → List Bool → Int → Int → Int → Int → Int → Int → Option (Int × List Int × List Int × List Bool × Int × Bool)
 | 0, _, _, _, _, _, _, _, _, _, _, _, _, _ => none
 | k + 1, x10, x11, x12, x176000, x176001, x176002, x176003, x179000, x179001, x179002, x179003, x179004, x179005 => if x179000 = 8 then (spec_l3Do.j3 k x10 true x176000 x176001 x176002 x176003 x179000 x179001 x179002 x179003 x179004 x179005) else (if x179000 = 9 then (if x11 = x12 then (spec_l3Do.j3 k x10 true x176000 x176001 x176002 x176003 x179000 x179001 x179002 x179003 x179004 x179005) else (if x179000 = 10 then (spec_l3Do.j3 k x10 (decide (x11 < x12)) x176000 x176001 x176002 x176003 x179000 x179001 x179002 x179003 x179004 x179005) else (spec_l3Do.j3 k x10 false x176000 x176001 x176002 x176003 x179000 x179001 x179002 x179003 x179004 x179005))) else (if x179000 = 10 then (spec_l3Do.j3 k x10 (decide (x11 < x12)) x176000 x176001 x176002 x176003 x179000 x179001 x179002 x179003 x179004 x179005) else (spec_l3Do.j3 k x10 false x176000 x176001 x176002 x176003 x179000 x179001 x179002 x179003 x179004 x179005)))
def spec_l3Do.j3 : Nat → Int → Bool → Int → List Int → List Int → List Bool → Int → Int → Int → Int → Int → Int → Option (Int × List Int × List Int × List Bool × Int × Bool)
 | 0, _, _, _, _, _, _, _, _, _, _, _, _ => none
 | k + 1, x10, x155, x176000, x176001, x176002, x176003, x179000, x179001, x179002, x179003, x179004, x179005 => if x155 = true then (some (wrap64 ((wrap64 (x176000 + x179005)) + 1), x176001, x176002, x176003, 0, false)) else (some (x10, x176001, x176002, x176003, 0, false))
def spec_l3Do.j0 : Nat → List Int → Int → Int → Int → Int → Bool → Int → List Int → List Int → List Bool → Int → Int → Int → Int → Int → Int → Option (Int × List Int × List Int × List Bool × Int × Bool)
 | 0, _, _, _, _, _, _, _, _, _, _, _, _, _, _, _, _ => none
 | k + 1, x1, x10, x11, x12, x34, x63, x176000, x176001, x176002, x176003, x179000, x179001, x179002, x179003, x179004, x179005 => if x63 = true then (if 0 ≤ x179002 then (if x179002 < (x176001.length : Int) then (spec_l3Do.j2 k x10 x11 x12 x176000 (x176001.set (x179002 : Int).toNat x179004) x176002 x176003 x179000 x179001 x179002 x179003 x179004 x179005) else (none)) else (none)) else (if x34 = 5 then (if (wrap64 (x12 + x179004)) ≥ 8 then (some (x176000, x176001, x176002, x176003, 1, false)) else (if 0 ≤ (wrap64 (x12 + x179004)) then (if (wrap64 (x12 + x179004)) < (x1.length : Int) then (if 0 ≤ x179002 then (if x179002 < (x176001.length : Int) then (spec_l3Do.j2 k x10 x11 x12 x176000 (x176001.set (x179002 : Int).toNat (rd x1 (wrap64 (x12 + x179004)))) x176002 x176003 x179000 x179001 x179002 x179003 x179004 x179005) else (none)) else (none)) else (none)) else (none))) else (if x34 = 7 then (spec_l3Do.j1 k x10 x11 x12 (x34 == 7) x176000 x176001 x176002 x176003 x179000 x179001 x179002 x179003 x179004 x179005) else (spec_l3Do.j1 k x10 x11 x12 (x34 == 6) x176000 x176001 x176002 x176003 x179000 x179001 x179002 x179003 x179004 x179005)))
def spec_l3Do.j1 : Nat → Int → Int → Int → Bool → Int → List Int → List Int → List Bool → Int → Int → Int → Int → Int → Int → Option (Int × List Int × List Int × List Bool × Int × Bool)
 | 0, _, _, _, _, _, _, _, _, _, _, _, _, _, _ => none
 | k + 1, x10, x11, x12, x93, x176000, x176001, x176002, x176003, x179000, x179001, x179002, x179003, x179004, x179005 => if x93 = true then (if x179004 ≥ 16 then (some (x176000, x176001, x176002, x176003, 2, false)) else (if x179000 = 7 then (if 0 ≤ x179004 then (if x179004 < (x176002.length : Int) then (if x179004 < (x176003.length : Int) then (spec_l3Do.j2 k x10 x11 x12 x176000 x176001 (x176002.set (x179004 : Int).toNat x11) (x176003.set (x179004 : Int).toNat true) x179000 x179001 x179002 x179003 x179004 x179005) else (none)) else (none)) else (none)) else (if 0 ≤ x179004 then (if x179004 < (x176003.length : Int) then (if rdOf false x176003 x179004 = true then (if x179004 < (x176002.length : Int) then (if 0 ≤ x179002 then (if x179002 < (x176001.length : Int) then (spec_l3Do.j2 k x10 x11 x12 x176000 (x176001.set (x179002 : Int).toNat (rd x176002 x179004)) x176002 x176003 x179000 x179001 x179002 x179003 x179004 x179005) else (none)) else (none)) else (none)) else (some (x176000, x176001, x176002, x176003, 3, false))) else (none)) else (none)))) else (spec_l3Do.j2 k x10 x11 x12 x176000 x176001 x176002 x176003 x179000 x179001 x179002 x179003 x179004 x179005)
end
def spec_l3Do.f (k : Nat) (l0 : List (S26)) (l1 : List Int) (a2_0 : Int) (l2_1 : List Int) (l2_2 : List Int) (l2_3 : List Bool) : Option (Int × List Int × List Int × List Bool × Int × Bool) := if 0 ≤ a2_0 then (if a2_0 < (l0.length : Int) then (if 0 ≤ ((rd_T26 l0 a2_0).f2) then (if ((rd_T26 l0 a2_0).f2) < (l2_1.length : Int) then (if 0 ≤ ((rd_T26 l0 a2_0).f3) then (if ((rd_T26 l0 a2_0).f3) < (l2_1.length : Int) then (if ((rd_T26 l0 a2_0).f0) = 11 then (some (a2_0, l2_1, l2_2, l2_3, 0, true)) else (if ((rd_T26 l0 a2_0).f0) = 1 then ((spec_l1Do.f ((rd_T26 l0 a2_0).f1) (rd l2_1 ((rd_T26 l0 a2_0).f2)) (rd l2_1 ((rd_T26 l0 a2_0).f3))).bind fun t181 => (spec_l3Do.j2 k (wrap64 (a2_0 + 1)) (rd l2_1 ((rd_T26 l0 a2_0).f2)) (rd l2_1 ((rd_T26 l0 a2_0).f3)) a2_0 (l2_1.set (((rd_T26 l0 a2_0).f2) : Int).toNat t181) l2_2 l2_3 ((rd_T26 l0 a2_0).f0) ((rd_T26 l0 a2_0).f1) ((rd_T26 l0 a2_0).f2) ((rd_T26 l0 a2_0).f3) ((rd_T26 l0 a2_0).f4) ((rd_T26 l0 a2_0).f5))) else (if ((rd_T26 l0 a2_0).f0) = 2 then ((spec_l1Do.f ((rd_T26 l0 a2_0).f1) (rd l2_1 ((rd_T26 l0 a2_0).f2)) ((rd_T26 l0 a2_0).f4)).bind fun t183 => (spec_l3Do.j2 k (wrap64 (a2_0 + 1)) (rd l2_1 ((rd_T26 l0 a2_0).f2)) (rd l2_1 ((rd_T26 l0 a2_0).f3)) a2_0 (l2_1.set (((rd_T26 l0 a2_0).f2) : Int).toNat t183) l2_2 l2_3 ((rd_T26 l0 a2_0).f0) ((rd_T26 l0 a2_0).f1) ((rd_T26 l0 a2_0).f2) ((rd_T26 l0 a2_0).f3) ((rd_T26 l0 a2_0).f4) ((rd_T26 l0 a2_0).f5))) else (if ((rd_T26 l0 a2_0).f0) = 3 then (spec_l3Do.j0 k l1 (wrap64 (a2_0 + 1)) (rd l2_1 ((rd_T26 l0 a2_0).f2)) (rd l2_1 ((rd_T26 l0 a2_0).f3)) ((rd_T26 l0 a2_0).f0) (((rd_T26 l0 a2_0).f0) == 3) a2_0 l2_1 l2_2 l2_3 ((rd_T26 l0 a2_0).f0) ((rd_T26 l0 a2_0).f1) ((rd_T26 l0 a2_0).f2) ((rd_T26 l0 a2_0).f3) ((rd_T26 l0 a2_0).f4) ((rd_T26 l0 a2_0).f5)) else (spec_l3Do.j0 k l1 (wrap64 (a2_0 + 1)) (rd l2_1 ((rd_T26 l0 a2_0).f2)) (rd l2_1 ((rd_T26 l0 a2_0).f3)) ((rd_T26 l0 a2_0).f0) (((rd_T26 l0 a2_0).f0) == 4) a2_0 l2_1 l2_2 l2_3 ((rd_T26 l0 a2_0).f0) ((rd_T26 l0 a2_0).f1) ((rd_T26 l0 a2_0).f2) ((rd_T26 l0 a2_0).f3) ((rd_T26 l0 a2_0).f4) ((rd_T26 l0 a2_0).f5)))))) else (none)) else (none)) else (none)) else (none)) else (none)) else (none)
theorem spec_l3Do.mono_l : ∀ k, (∀ y0 y1 y2 y3 y4 y5 y6 y7 y8 y9 y10 y11 y12, LeO (spec_l3Do.j2 k y0 y1 y2 y3 y4 y5 y6 y7 y8 y9 y10 y11 y12) (spec_l3Do.j2 (k + 1) y0 y1 y2 y3 y4 y5 y6 y7 y8 y9 y10 y11 y12)) ∧ (∀ y0 y1 y2 y3 y4 y5 y6 y7 y8 y9 y10 y11, LeO (spec_l3Do.j3 k y0 y1 y2 y3 y4 y5 y6 y7 y8 y9 y10 y11) (spec_l3Do.j3 (k + 1) y0 y1 y2 y3 y4 y5 y6 y7 y8 y9 y10 y11)) ∧ (∀ y0 y1 y2 y3 y4 y5 y6 y7 y8 y9 y10 y11 y12 y13 y14 y15, LeO (spec_l3Do.j0 k y0 y1 y2 y3 y4 y5 y6 y7 y8 y9 y10 y11 y12 y13 y14 y15) (spec_l3Do.j0 (k + 1) y0 y1 y2 y3 y4 y5 y6 y7 y8 y9 y10 y11 y12 y13 y14 y15)) ∧ (∀ y0 y1 y2 y3 y4 y5 y6 y7 y8 y9 y10 y11 y12 y13, LeO (spec_l3Do.j1 k y0 y1 y2 y3 y4 y5 y6 y7 y8 y9 y10 y11 y12 y13) (spec_l3Do.j1 (k + 1) y0 y1 y2 y3 y4 y5 y6 y7 y8 y9 y10 y11 y12 y13))
 | 0 => ⟨fun _ _ _ _ _ _ _ _ _ _ _ _ _ r h => by simp [spec_l3Do.j2] at h, fun _ _ _ _ _ _ _ _ _ _ _ _ r h => by simp [spec_l3Do.j3] at h, fun _ _ _ _ _ _ _ _ _ _ _ _ _ _ _ _ r h => by simp [spec_l3Do.j0] at h, fun _ _ _ _ _ _ _ _ _ _ _ _ _ _ r h => by simp [spec_l3Do.j1] at h⟩
 | k + 1 => by
  obtain ⟨ih0, ih1, ih2, ih3⟩ := spec_l3Do.mono_l k
  refine ⟨?_, ?_, ?_, ?_⟩
  ·intro y0 y1 y2 y3 y4 y5 y6 y7 y8 y9 y10 y11 y12
   unfold spec_l3Do.j2
   repeat' first
   | (with_reducible exact ih0 _ _ _ _ _ _ _ _ _ _ _ _ _)
   | (with_reducible exact ih1 _ _ _ _ _ _ _ _ _ _ _ _)
   | (with_reducible exact ih2 _ _ _ _ _ _ _ _ _ _ _ _ _ _ _ _)
   | (with_reducible exact ih3 _ _ _ _ _ _ _ _ _ _ _ _ _ _)
   | (with_reducible exact LeO.refl _)
   | (with_reducible exact LeO.none _)
   | (with_reducible refine LeO.ite ?_ ?_)
   | (with_reducible refine LeO.bind ?_ (fun _ => ?_))
   | exact ih0 _ _ _ _ _ _ _ _ _ _ _ _ _
   | exact ih1 _ _ _ _ _ _ _ _ _ _ _ _
   | exact ih2 _ _ _ _ _ _ _ _ _ _ _ _ _ _ _ _
   | exact ih3 _ _ _ _ _ _ _ _ _ _ _ _ _ _
   | exact LeO.none _
   | refine LeO.ite ?_ ?_
   | refine LeO.bind ?_ (fun _ => ?_)
  ·intro y0 y1 y2 y3 y4 y5 y6 y7 y8 y9 y10 y11
   unfold spec_l3Do.j3
   repeat' first
   | (with_reducible exact ih0 _ _ _ _ _ _ _ _ _ _ _ _ _)
   | (with_reducible exact ih1 _ _ _ _ _ _ _ _ _ _ _ _)
   | (with_reducible exact ih2 _ _ _ _ _ _ _ _ _ _ _ _ _ _ _ _)
   | (with_reducible exact ih3 _ _ _ _ _ _ _ _ _ _ _ _ _ _)
   | (with_reducible exact LeO.refl _)
   | (with_reducible exact LeO.none _)
   | (with_reducible refine LeO.ite ?_ ?_)
   | (with_reducible refine LeO.bind ?_ (fun _ => ?_))
   | exact ih0 _ _ _ _ _ _ _ _ _ _ _ _ _
   | exact ih1 _ _ _ _ _ _ _ _ _ _ _ _
   | exact ih2 _ _ _ _ _ _ _ _ _ _ _ _ _ _ _ _
   | exact ih3 _ _ _ _ _ _ _ _ _ _ _ _ _ _
   | exact LeO.none _
   | refine LeO.ite ?_ ?_
   | refine LeO.bind ?_ (fun _ => ?_)
  ·intro y0 y1 y2 y3 y4 y5 y6 y7 y8 y9 y10 y11 y12 y13 y14 y15
   unfold spec_l3Do.j0
   repeat' first
   | (with_reducible exact ih0 _ _ _ _ _ _ _ _ _ _ _ _ _)
   | (with_reducible exact ih1 _ _ _ _ _ _ _ _ _ _ _ _)
   | (with_reducible exact ih2 _ _ _ _ _ _ _ _ _ _ _ _ _ _ _ _)
   | (with_reducible exact ih3 _ _ _ _ _ _ _ _ _ _ _ _ _ _)
   | (with_reducible exact LeO.refl _)
   | (with_reducible exact LeO.none _)
   | (with_reducible refine LeO.ite ?_ ?_)
   | (with_reducible refine LeO.bind ?_ (fun _ => ?_))
   | exact ih0 _ _ _ _ _ _ _ _ _ _ _ _ _
   | exact ih1 _ _ _ _ _ _ _ _ _ _ _ _
   | exact ih2 _ _ _ _ _ _ _ _ _ _ _ _ _ _ _ _
   | exact ih3 _ _ _ _ _ _ _ _ _ _ _ _ _ _
   | exact LeO.none _
   | refine LeO.ite ?_ ?_
   | refine LeO.bind ?_ (fun _ => ?_)
  ·intro y0 y1 y2 y3 y4 y5 y6 y7 y8 y9 y10 y11 y12 y13
   unfold spec_l3Do.j1
   repeat' first
   | (with_reducible exact ih0 _ _ _ _ _ _ _ _ _ _ _ _ _)
   | (with_reducible exact ih1 _ _ _ _ _ _ _ _ _ _ _ _)
   | (with_reducible exact ih2 _ _ _ _ _ _ _ _ _ _ _ _ _ _ _ _)
   | (with_reducible exact ih3 _ _ _ _ _ _ _ _ _ _ _ _ _ _)
   | (with_reducible exact LeO.refl _)
   | (with_reducible exact LeO.none _)
   | (with_reducible refine LeO.ite ?_ ?_)
   | (with_reducible refine LeO.bind ?_ (fun _ => ?_))
   | exact ih0 _ _ _ _ _ _ _ _ _ _ _ _ _
   | exact ih1 _ _ _ _ _ _ _ _ _ _ _ _
   | exact ih2 _ _ _ _ _ _ _ _ _ _ _ _ _ _ _ _
   | exact ih3 _ _ _ _ _ _ _ _ _ _ _ _ _ _
   | exact LeO.none _
   | refine LeO.ite ?_ ?_
   | refine LeO.bind ?_ (fun _ => ?_)
theorem spec_l3Do.mono : ∀ a0 a1 a2 a3 a4 a5 k, LeO (spec_l3Do.f k a0 a1 a2 a3 a4 a5) (spec_l3Do.f (k + 1) a0 a1 a2 a3 a4 a5) := by
 intro a0 a1 a2 a3 a4 a5 k
 obtain ⟨ih0, ih1, ih2, ih3⟩ := spec_l3Do.mono_l k
 unfold spec_l3Do.f
 repeat' first
   | (with_reducible exact ih0 _ _ _ _ _ _ _ _ _ _ _ _ _)
   | (with_reducible exact ih1 _ _ _ _ _ _ _ _ _ _ _ _)
   | (with_reducible exact ih2 _ _ _ _ _ _ _ _ _ _ _ _ _ _ _ _)
   | (with_reducible exact ih3 _ _ _ _ _ _ _ _ _ _ _ _ _ _)
   | (with_reducible exact LeO.refl _)
   | (with_reducible exact LeO.none _)
   | (with_reducible refine LeO.ite ?_ ?_)
   | (with_reducible refine LeO.bind ?_ (fun _ => ?_))
   | exact ih0 _ _ _ _ _ _ _ _ _ _ _ _ _
   | exact ih1 _ _ _ _ _ _ _ _ _ _ _ _
   | exact ih2 _ _ _ _ _ _ _ _ _ _ _ _ _ _ _ _
   | exact ih3 _ _ _ _ _ _ _ _ _ _ _ _ _ _
   | exact LeO.none _
   | refine LeO.ite ?_ ?_
   | refine LeO.bind ?_ (fun _ => ?_)
def spec_l3Do.T9 : Bool × List (List Nat × List Nat) := (true, [([], []), ([0], [0]), ([], []), ([2], [2]), ([], []), ([4], [4]), ([], []), ([], []), ([5, 6, 7], [5, 6, 7]), ([1, 3, 0, 1, 2, 3, 4, 5, 6, 7, 8], [1, 3]), ([9, 8, 8, 0, 1, 2, 3, 4, 5, 6, 7, 8], [8, 9])])
def spec_l3Do.B9 : List Nat := [0, 1, 0, 4, 0, 16, 0, 0, 240, 511, 1023]
theorem spec_l3Do.tab9 : rtab .any (opsOf Try.f92 9) = spec_l3Do.T9 := by kernel_rfl
theorem spec_l3Do.bits9 : waitsOk spec_l3Do.T9.2 spec_l3Do.B9 = true := by kernel_rfl
def spec_l3Do.T11 : Bool × List (List Nat × List Nat) := (true, [([], []), ([0], [0]), ([], []), ([2], [2]), ([], []), ([4], [4]), ([], []), ([], []), ([7], [7]), ([5, 6, 8], [5, 6, 8]), ([1, 3, 0, 1, 2, 3, 4, 5, 6, 7, 8, 9], [1, 3]), ([10, 9, 9, 0, 1, 2, 3, 4, 5, 6, 7, 8, 9], [9, 10])])
def spec_l3Do.B11 : List Nat := [0, 1, 0, 4, 0, 16, 0, 0, 128, 496, 1023, 2047]
theorem spec_l3Do.tab11 : rtab .any (opsOf Try.f92 11) = spec_l3Do.T11 := by kernel_rfl
theorem spec_l3Do.bits11 : waitsOk spec_l3Do.T11.2 spec_l3Do.B11 = true := by kernel_rfl
def spec_l3Do.T18 : Bool × List (List Nat × List Nat) := (true, [([], []), ([0], [0]), ([], []), ([2], [2]), ([], []), ([], []), ([], []), ([6], [6]), ([5, 7], [5, 7]), ([4, 8], [4, 8]), ([9], [9]), ([1, 3, 0, 1, 2, 3, 4, 5, 6, 7, 8, 9, 10], [1, 3]), ([11, 10, 0, 1, 2, 3, 4, 5, 6, 7, 8, 9, 10], [10, 11])])
def spec_l3Do.B18 : List Nat := [0, 1, 0, 4, 0, 0, 0, 64, 224, 496, 1008, 2047, 4095]
theorem spec_l3Do.tab18 : rtab .any (opsOf Try.f92 18) = spec_l3Do.T18 := by kernel_rfl
theorem spec_l3Do.bits18 : waitsOk spec_l3Do.T18.2 spec_l3Do.B18 = true := by kernel_rfl
def spec_l3Do.T28 : Bool × List (List Nat × List Nat) := (true, [([], []), ([0], [0]), ([], []), ([2], [2]), ([], []), ([4], [4]), ([], []), ([6], [6]), ([5, 7], [5, 7]), ([8], [8]), ([1, 3, 0, 1, 2, 3, 4, 5, 6, 7, 8, 9], [1, 3]), ([10, 9, 0, 1, 2, 3, 4, 5, 6, 7, 8, 9], [9, 10])])
def spec_l3Do.B28 : List Nat := [0, 1, 0, 4, 0, 16, 0, 64, 240, 496, 1023, 2047]
theorem spec_l3Do.tab28 : rtab .any (opsOf Try.f92 28) = spec_l3Do.T28 := by kernel_rfl
theorem spec_l3Do.bits28 : waitsOk spec_l3Do.T28.2 spec_l3Do.B28 = true := by kernel_rfl
set_option maxHeartbeats 8000000 in
set_option maxRecDepth 100000 in
theorem spec_l3Do.calls (k : Nat) (A0 : Option Addr) (c0 : Nat) (l0 : List (S26)) (A1 : Option Addr) (c1 : Nat) (l1 : List Int) (a2_0 : Int) (P2_1_ : Nat → Prop) (u9000_ : Value) (l2_1 : List Int) (P2_2_ : Nat → Prop) (u9001_ : Value) (l2_2 : List Int) (P2_3_ : Nat → Prop) (u9002_ : Value) (l2_3 : List Bool) (r1 : Int) (r2 : List Int) (r3 : List Int) (r4 : List Bool) (r5 : Int) (r6 : Bool) (w0 w : World) (hB : Below w0.heap.size w0 w) (hr0 : ∀ W_, Kept w W_ (fun k_ => P2_1_ k_ ∨ P2_2_ k_ ∨ P2_3_ k_) → Kd.C k26 W_ A0 l0.length l0) (hc0 : l0.length ≤ c0) (hr1 : ∀ W_, Kept w W_ (fun k_ => P2_1_ k_ ∨ P2_2_ k_ ∨ P2_3_ k_) → Kd.C (Kd.int .i64) W_ A1 l1.length l1) (hc1 : l1.length ≤ c1) (ho2_1 : Kd.R (Kd.int .i64) 3 w w0.heap.size P2_1_ u9000_ l2_1) (hp2_1_2_2 : ∀ k_, P2_1_ k_ → ¬ P2_2_ k_) (ho2_2 : Kd.R (Kd.int .i64) 3 w w0.heap.size P2_2_ u9001_ l2_2) (hp2_2_2_1 : ∀ k_, P2_2_ k_ → ¬ P2_1_ k_) (ho2_3 : Kd.R Kd.bool 4 w w0.heap.size P2_3_ u9002_ l2_3) (h : spec_l3Do.f k l0 l1 a2_0 l2_1 l2_2 l2_3 = some (r1, r2, r3, r4, r5, r6)) :
  Calls Try.prog 92 #[.slice A0 l0.length c0, .slice A1 l1.length c1, .agg #[.int .i64 a2_0, u9000_, u9001_, u9002_]] w fun e w' => ∃ v1_ v2_ v3_ : Value, e = .returned (.tuple #[.agg #[.int .i64 r1, v1_, v2_, v3_], .int .i64 r5, .bool r6]) ∧ Kd.R (Kd.int .i64) 3 w' w0.heap.size (fun k_ => ((P2_1_ k_ ∨ P2_2_ k_ ∨ P2_3_ k_) ∨ w.heap.size ≤ k_) ∧ some k_ ≠ (v2_ : Value).ownBlock) v1_ r2 ∧ Kd.R (Kd.int .i64) 3 w' w0.heap.size (fun k_ => ((P2_1_ k_ ∨ P2_2_ k_ ∨ P2_3_ k_) ∨ w.heap.size ≤ k_) ∧ some k_ ≠ (v1_ : Value).ownBlock) v2_ r3 ∧ Kd.R Kd.bool 4 w' w0.heap.size (fun k_ => ((P2_1_ k_ ∨ P2_2_ k_ ∨ P2_3_ k_) ∨ w.heap.size ≤ k_)) v3_ r4 ∧ Below w0.heap.size w0 w' ∧ Kept w w' (fun k_ => P2_1_ k_ ∨ P2_2_ k_ ∨ P2_3_ k_) := by
 have hu116 := Try.underlying116
 have hu26 := Try.underlying26
 have HR0 := Aside0.mk hr0
 have HC0 := Aside0.mk hc0
 clear hr0 hc0
 have HR1 := Aside0.mk hr1
 have HC1 := Aside0.mk hc1
 clear hr1 hc1
 have HO2_1 := Aside0.mk (show Kd.R (Kd.int .i64) 3 w w0.heap.size (fun k_ => ((P2_1_ k_ ∨ P2_2_ k_ ∨ P2_3_ k_) ∨ w.heap.size ≤ k_) ∧ some k_ ≠ (u9001_ : Value).ownBlock) u9000_ l2_1 from Kd.R_mono ho2_1 (fun k_ hk => ⟨(.inl (.inl hk)), fun e_ => hp2_1_2_2 k_ hk (ho2_2.1 k_ e_.symm)⟩))
 have HO2_2 := Aside0.mk (show Kd.R (Kd.int .i64) 3 w w0.heap.size (fun k_ => ((P2_1_ k_ ∨ P2_2_ k_ ∨ P2_3_ k_) ∨ w.heap.size ≤ k_) ∧ some k_ ≠ (u9000_ : Value).ownBlock) u9001_ l2_2 from Kd.R_mono ho2_2 (fun k_ hk => ⟨(.inl (.inr (.inl hk))), fun e_ => hp2_2_2_1 k_ hk (ho2_1.1 k_ e_.symm)⟩))
 have HO2_3 := Aside0.mk (show Kd.R Kd.bool 4 w w0.heap.size (fun k_ => ((P2_1_ k_ ∨ P2_2_ k_ ∨ P2_3_ k_) ∨ w.heap.size ≤ k_)) u9002_ l2_3 from Kd.R_mono ho2_3 (fun k_ hk => (.inl (.inr (.inr hk)))))
 have HK := Aside0.mk (Kept.refl w (fun k_ => P2_1_ k_ ∨ P2_2_ k_ ∨ P2_3_ k_))
 have HW0 := Aside0.mk hB.size
 have HB := Aside0.mk hB
 clear hB
 have H : (if 0 ≤ a2_0 then (if a2_0 < (l0.length : Int) then (if 0 ≤ ((rd_T26 l0 a2_0).f2) then (if ((rd_T26 l0 a2_0).f2) < (l2_1.length : Int) then (if 0 ≤ ((rd_T26 l0 a2_0).f3) then (if ((rd_T26 l0 a2_0).f3) < (l2_1.length : Int) then (if ((rd_T26 l0 a2_0).f0) = 11 then (some (a2_0, l2_1, l2_2, l2_3, 0, true)) else (if ((rd_T26 l0 a2_0).f0) = 1 then ((spec_l1Do.f ((rd_T26 l0 a2_0).f1) (rd l2_1 ((rd_T26 l0 a2_0).f2)) (rd l2_1 ((rd_T26 l0 a2_0).f3))).bind fun t181 => (spec_l3Do.j2 k (wrap64 (a2_0 + 1)) (rd l2_1 ((rd_T26 l0 a2_0).f2)) (rd l2_1 ((rd_T26 l0 a2_0).f3)) a2_0 (l2_1.set (((rd_T26 l0 a2_0).f2) : Int).toNat t181) l2_2 l2_3 ((rd_T26 l0 a2_0).f0) ((rd_T26 l0 a2_0).f1) ((rd_T26 l0 a2_0).f2) ((rd_T26 l0 a2_0).f3) ((rd_T26 l0 a2_0).f4) ((rd_T26 l0 a2_0).f5))) else (if ((rd_T26 l0 a2_0).f0) = 2 then ((spec_l1Do.f ((rd_T26 l0 a2_0).f1) (rd l2_1 ((rd_T26 l0 a2_0).f2)) ((rd_T26 l0 a2_0).f4)).bind fun t183 => (spec_l3Do.j2 k (wrap64 (a2_0 + 1)) (rd l2_1 ((rd_T26 l0 a2_0).f2)) (rd l2_1 ((rd_T26 l0 a2_0).f3)) a2_0 (l2_1.set (((rd_T26 l0 a2_0).f2) : Int).toNat t183) l2_2 l2_3 ((rd_T26 l0 a2_0).f0) ((rd_T26 l0 a2_0).f1) ((rd_T26 l0 a2_0).f2) ((rd_T26 l0 a2_0).f3) ((rd_T26 l0 a2_0).f4) ((rd_T26 l0 a2_0).f5))) else (if ((rd_T26 l0 a2_0).f0) = 3 then (spec_l3Do.j0 k l1 (wrap64 (a2_0 + 1)) (rd l2_1 ((rd_T26 l0 a2_0).f2)) (rd l2_1 ((rd_T26 l0 a2_0).f3)) ((rd_T26 l0 a2_0).f0) (((rd_T26 l0 a2_0).f0) == 3) a2_0 l2_1 l2_2 l2_3 ((rd_T26 l0 a2_0).f0) ((rd_T26 l0 a2_0).f1) ((rd_T26 l0 a2_0).f2) ((rd_T26 l0 a2_0).f3) ((rd_T26 l0 a2_0).f4) ((rd_T26 l0 a2_0).f5)) else (spec_l3Do.j0 k l1 (wrap64 (a2_0 + 1)) (rd l2_1 ((rd_T26 l0 a2_0).f2)) (rd l2_1 ((rd_T26 l0 a2_0).f3)) ((rd_T26 l0 a2_0).f0) (((rd_T26 l0 a2_0).f0) == 4) a2_0 l2_1 l2_2 l2_3 ((rd_T26 l0 a2_0).f0) ((rd_T26 l0 a2_0).f1) ((rd_T26 l0 a2_0).f2) ((rd_T26 l0 a2_0).f3) ((rd_T26 l0 a2_0).f4) ((rd_T26 l0 a2_0).f5)))))) else (none)) else (none)) else (none)) else (none)) else (none)) else (none)) = some (r1, r2, r3, r4, r5, r6) := h
 clear h
 by_cases c4 : 0 ≤ a2_0
 ·rw [if_pos c4] at H
  have c4b0 : decide (0 ≤ a2_0) = true := decide_eq_true c4
  clear c4
  by_cases c5 : a2_0 < (l0.length : Int)
  ·rw [if_pos c5] at H
   have c5b0 : decide (a2_0 < (l0.length : Int)) = true := decide_eq_true c5
   clear c5
   by_cases c6 : 0 ≤ ((rd_T26 l0 a2_0).f2)
   ·rw [if_pos c6] at H
    have c6b0 : decide (0 ≤ ((rd_T26 l0 a2_0).f2)) = true := decide_eq_true c6
    clear c6
    by_cases c7 : ((rd_T26 l0 a2_0).f2) < (l2_1.length : Int)
    ·rw [if_pos c7] at H
     have c7b0 : decide (((rd_T26 l0 a2_0).f2) < (l2_1.length : Int)) = true := decide_eq_true c7
     clear c7
     by_cases c8 : 0 ≤ ((rd_T26 l0 a2_0).f3)
     ·rw [if_pos c8] at H
      have c8b0 : decide (0 ≤ ((rd_T26 l0 a2_0).f3)) = true := decide_eq_true c8
      clear c8
      by_cases c9 : ((rd_T26 l0 a2_0).f3) < (l2_1.length : Int)
      ·rw [if_pos c9] at H
       have c9b0 : decide (((rd_T26 l0 a2_0).f3) < (l2_1.length : Int)) = true := decide_eq_true c9
       clear c9
       have HC10 := Aside0.mk H
       clear H
       obtain ⟨Ao11, co11, eo11⟩ := Kd.R_slice HO2_1.out
       subst eo11
       obtain ⟨Ao12, co12, eo12⟩ := Kd.R_slice HO2_2.out
       subst eo12
       obtain ⟨Ao13, co13, eo13⟩ := Kd.R_slice HO2_3.out
       subst eo13
       go_enter Try.func92, Try.ntmps92
       go_upto_block 0 with (first | ((with_reducible refine gate_dst (N := 5) rfl ?_); refine box_event ?hg (N := 5) ?hd (cs := #[.int .i64 a2_0, .slice Ao11 l2_1.length co11, .slice Ao12 l2_2.length co12, .slice Ao13 l2_3.length co13]) (t := 116) ?hr ?_; (case hd => rfl); (case hg => rfl); (case hr => first | (go_simp; done) | (go_simp; rfl)); intro gb175 hg w14 hbox hb; have n0_ := Aside0.mk (Kd.R_below (zR_ HO2_1.out) hb); have n1_ := Aside0.mk (Kd.R_below (zR_ HO2_2.out) hb); have n2_ := Aside0.mk (Kd.R_below (zR_ HO2_3.out) hb); have n3_ := Aside0.mk (Kept.below (S := (fun k_ => P2_1_ k_ ∨ P2_2_ k_ ∨ P2_3_ k_)) (by repeat (first | (with_reducible first | exact HK.out | apply Kept.alloc | apply Kept.drewN | apply Kept.drew) | exact HK.out)) hb); have n4_ := Aside0.mk (below_step (zb_ HB.out) hb); have n5_ := Aside0.mk (hbox); have n6_ := Aside0.mk ((by rw [hg]; exact (by first | exact HK.out.1 | exact (show Kept w _ (fun k_ => P2_1_ k_ ∨ P2_2_ k_ ∨ P2_3_ k_) from by repeat (first | (with_reducible first | exact HK.out | apply Kept.alloc | apply Kept.drewN | apply Kept.drew) | exact HK.out)).1) : w.heap.size ≤ gb175)); have n7_ := Aside0.mk ((by rw [hg]; exact (below_size (zb_ HB.out)) : w0.heap.size ≤ gb175)); clear HO2_1; clear HO2_2; clear HO2_3; clear HK; clear HB; have HO2_1 := n0_; have HO2_2 := n1_; have HO2_3 := n2_; have HK := n3_; have HB := n4_; have BK175 := n5_; have GW175 := n6_; have GE175 := n7_; clear n0_ n1_ n2_ n3_ n4_ n5_ n6_ n7_; clear hb hbox hg) | ((with_reducible refine gate_dst (N := 6) rfl ?_); refine box_event ?hg (N := 6) ?hd (cs := #[.int .i64 0, .slice none 0 0, .slice none 0 0, .slice none 0 0]) (t := 116) ?hr ?_; (case hd => rfl); (case hg => rfl); (case hr => first | (go_simp; done) | (go_simp; rfl)); intro gb176 hg w15 hbox hb; have n0_ := Aside0.mk (Kd.R_below (zR_ HO2_1.out) hb); have n1_ := Aside0.mk (Kd.R_below (zR_ HO2_2.out) hb); have n2_ := Aside0.mk (Kd.R_below (zR_ HO2_3.out) hb); have n3_ := Aside0.mk (blk_below (g := gb175) (o := .cells #[.int .i64 a2_0, .slice Ao11 l2_1.length co11, .slice Ao12 l2_2.length co12, .slice Ao13 l2_3.length co13] 116 (0, 0)) (zO_ BK175.out) hb); have n4_ := Aside0.mk (Kept.below (S := (fun k_ => P2_1_ k_ ∨ P2_2_ k_ ∨ P2_3_ k_)) (by repeat (first | (with_reducible first | exact HK.out | apply Kept.alloc | apply Kept.drewN | apply Kept.drew | refine Kept.setCell ?_ (.inr GW175.out) _) | exact HK.out)) hb); have n5_ := Aside0.mk (below_step (by repeat (first | (with_reducible first | exact HB.out | apply ba_ | apply bn_ | apply bd_ | refine bs_ ?_ GE175.out) | exact HB.out)) hb); have n6_ := Aside0.mk (hbox); have n7_ := Aside0.mk ((by rw [hg]; exact (by first | exact HK.out.1 | exact (show Kept w _ (fun k_ => P2_1_ k_ ∨ P2_2_ k_ ∨ P2_3_ k_) from by repeat (first | (with_reducible first | exact HK.out | apply Kept.alloc | apply Kept.drewN | apply Kept.drew | refine Kept.setCell ?_ (.inr GW175.out) _) | exact HK.out)).1) : w.heap.size ≤ gb176)); have n8_ := Aside0.mk ((by rw [hg]; exact (below_size (by repeat (first | (with_reducible first | exact HB.out | apply ba_ | apply bn_ | apply bd_ | refine bs_ ?_ GE175.out) | exact HB.out))) : w0.heap.size ≤ gb176)); have n9_ := Aside0.mk ((by rw [hg]; exact Nat.ne_of_lt (blk_lt (g := gb175) (o := .cells #[.int .i64 a2_0, .slice Ao11 l2_1.length co11, .slice Ao12 l2_2.length co12, .slice Ao13 l2_3.length co13] 116 (0, 0)) (zO_ BK175.out)) : gb175 ≠ gb176)); have n10_ := Aside0.mk ((by rw [hg]; exact Nat.ne_of_gt (blk_lt (g := gb175) (o := .cells #[.int .i64 a2_0, .slice Ao11 l2_1.length co11, .slice Ao12 l2_2.length co12, .slice Ao13 l2_3.length co13] 116 (0, 0)) (zO_ BK175.out)) : gb176 ≠ gb175)); clear HO2_1; clear HO2_2; clear HO2_3; clear BK175; clear HK; clear HB; have HO2_1 := n0_; have HO2_2 := n1_; have HO2_3 := n2_; have BK175 := n3_; have HK := n4_; have HB := n5_; have BK176 := n6_; have GW176 := n7_; have GE176 := n8_; have NB175_176 := n9_; have NB176_175 := n10_; clear n0_ n1_ n2_ n3_ n4_ n5_ n6_ n7_ n8_ n9_ n10_; clear hb hbox hg; have hnb16 := NB175_176.out; have hnc16 := NB176_175.out; have hcz17_0 : w15.cell? ⟨gb175, 0, none⟩ = some (.int .i64 a2_0) := (blk_cell BK175.out 0).trans rfl; have hcz17_1 : w15.cell? ⟨gb175, 1, none⟩ = some (.slice Ao11 l2_1.length co11) := (blk_cell BK175.out 1).trans rfl; have hcz17_2 : w15.cell? ⟨gb175, 2, none⟩ = some (.slice Ao12 l2_2.length co12) := (blk_cell BK175.out 2).trans rfl; have hcz17_3 : w15.cell? ⟨gb175, 3, none⟩ = some (.slice Ao13 l2_3.length co13) := (blk_cell BK175.out 3).trans rfl; have hfz17_0 := blk_frozen BK175.out 0; have hfz17_1 := blk_frozen BK175.out 1; have hfz17_2 := blk_frozen BK175.out 2; have hfz17_3 := blk_frozen BK175.out 3; have p177 : 0 ≤ (a2_0 : Int) := dt_; have q177 : a2_0 < (l0.length : Int) := dt_; obtain ⟨ad177, e177, hx177_0, hx177_1, hx177_2, hx177_3, hx177_4, hx177_5⟩ := at_T26 (Kd.C_kept_now HR0.out HK.out) a2_0 p177 q177; cases e177; replace p177 := eq_true p177; replace q177 := eq_true q177) | ((with_reducible refine gate_dst (N := 9) rfl ?_); refine box_event ?hg (N := 9) ?hd (cs := #[.int .i64 0, .int .i64 0, .int .i64 0, .int .i64 0, .int .i64 0, .int .i64 0]) (t := 26) ?hr ?_; (case hd => rfl); (case hg => rfl); (case hr => first | (go_simp; done) | (go_simp; rfl)); intro gb178 hg w18 hbox hb; have n0_ := Aside0.mk (Kd.R_below (zR_ HO2_1.out) hb); have n1_ := Aside0.mk (Kd.R_below (zR_ HO2_2.out) hb); have n2_ := Aside0.mk (Kd.R_below (zR_ HO2_3.out) hb); have n3_ := Aside0.mk (blk_below (g := gb175) (o := .cells #[.int .i64 a2_0, .slice Ao11 l2_1.length co11, .slice Ao12 l2_2.length co12, .slice Ao13 l2_3.length co13] 116 (0, 0)) (zO_ BK175.out) hb); have n4_ := Aside0.mk (blk_below (g := gb176) (o := .cells #[.int .i64 0, .slice none 0 0, .slice none 0 0, .slice none 0 0] 116 (0, 0)) (zO_ BK176.out) hb); have n5_ := Aside0.mk (Kept.below (S := (fun k_ => P2_1_ k_ ∨ P2_2_ k_ ∨ P2_3_ k_)) (by repeat (first | (with_reducible first | exact HK.out | apply Kept.alloc | apply Kept.drewN | apply Kept.drew | refine Kept.setCell ?_ (.inr GW175.out) _ | refine Kept.setCell ?_ (.inr GW176.out) _) | exact HK.out)) hb); have n6_ := Aside0.mk (below_step (by repeat (first | (with_reducible first | exact HB.out | apply ba_ | apply bn_ | apply bd_ | refine bs_ ?_ GE175.out | refine bs_ ?_ GE176.out) | exact HB.out)) hb); have n7_ := Aside0.mk (hbox); have n8_ := Aside0.mk ((by rw [hg]; exact (by first | exact HK.out.1 | exact (show Kept w _ (fun k_ => P2_1_ k_ ∨ P2_2_ k_ ∨ P2_3_ k_) from by repeat (first | (with_reducible first | exact HK.out | apply Kept.alloc | apply Kept.drewN | apply Kept.drew | refine Kept.setCell ?_ (.inr GW175.out) _ | refine Kept.setCell ?_ (.inr GW176.out) _) | exact HK.out)).1) : w.heap.size ≤ gb178)); have n9_ := Aside0.mk ((by rw [hg]; exact (below_size (by repeat (first | (with_reducible first | exact HB.out | apply ba_ | apply bn_ | apply bd_ | refine bs_ ?_ GE175.out | refine bs_ ?_ GE176.out) | exact HB.out))) : w0.heap.size ≤ gb178)); have n10_ := Aside0.mk ((by rw [hg]; exact Nat.ne_of_lt (blk_lt (g := gb175) (o := .cells #[.int .i64 a2_0, .slice Ao11 l2_1.length co11, .slice Ao12 l2_2.length co12, .slice Ao13 l2_3.length co13] 116 (0, 0)) (zO_ BK175.out)) : gb175 ≠ gb178)); have n11_ := Aside0.mk ((by rw [hg]; exact Nat.ne_of_gt (blk_lt (g := gb175) (o := .cells #[.int .i64 a2_0, .slice Ao11 l2_1.length co11, .slice Ao12 l2_2.length co12, .slice Ao13 l2_3.length co13] 116 (0, 0)) (zO_ BK175.out)) : gb178 ≠ gb175)); have n12_ := Aside0.mk ((by rw [hg]; exact Nat.ne_of_lt (blk_lt (g := gb176) (o := .cells #[.int .i64 0, .slice none 0 0, .slice none 0 0, .slice none 0 0] 116 (0, 0)) (zO_ BK176.out)) : gb176 ≠ gb178)); have n13_ := Aside0.mk ((by rw [hg]; exact Nat.ne_of_gt (blk_lt (g := gb176) (o := .cells #[.int .i64 0, .slice none 0 0, .slice none 0 0, .slice none 0 0] 116 (0, 0)) (zO_ BK176.out)) : gb178 ≠ gb176)); clear HO2_1; clear HO2_2; clear HO2_3; clear BK175; clear BK176; clear HK; clear HB; have HO2_1 := n0_; have HO2_2 := n1_; have HO2_3 := n2_; have BK175 := n3_; have BK176 := n4_; have HK := n5_; have HB := n6_; have BK178 := n7_; have GW178 := n8_; have GE178 := n9_; have NB175_178 := n10_; have NB178_175 := n11_; have NB176_178 := n12_; have NB178_176 := n13_; clear n0_ n1_ n2_ n3_ n4_ n5_ n6_ n7_ n8_ n9_ n10_ n11_ n12_ n13_; clear hb hbox hg; have hnb19 := NB178_175.out; have hnc19 := NB175_178.out; have hnb20 := NB178_176.out; have hnc20 := NB176_178.out; have hcz21_0 : w18.cell? ⟨gb178, 0, none⟩ = some (.int .i64 0) := (blk_cell BK178.out 0).trans rfl; have hcz21_1 : w18.cell? ⟨gb178, 1, none⟩ = some (.int .i64 0) := (blk_cell BK178.out 1).trans rfl; have hcz21_2 : w18.cell? ⟨gb178, 2, none⟩ = some (.int .i64 0) := (blk_cell BK178.out 2).trans rfl; have hcz21_3 : w18.cell? ⟨gb178, 3, none⟩ = some (.int .i64 0) := (blk_cell BK178.out 3).trans rfl; have hcz21_4 : w18.cell? ⟨gb178, 4, none⟩ = some (.int .i64 0) := (blk_cell BK178.out 4).trans rfl; have hcz21_5 : w18.cell? ⟨gb178, 5, none⟩ = some (.int .i64 0) := (blk_cell BK178.out 5).trans rfl; have hfz21_0 := blk_frozen BK178.out 0; have hfz21_1 := blk_frozen BK178.out 1; have hfz21_2 := blk_frozen BK178.out 2; have hfz21_3 := blk_frozen BK178.out 3; have hfz21_4 := blk_frozen BK178.out 4; have hfz21_5 := blk_frozen BK178.out 5; have hcz22_0 : w18.cell? ⟨gb175, 0, none⟩ = some (.int .i64 a2_0) := (blk_cell BK175.out 0).trans rfl; have hcz22_1 : w18.cell? ⟨gb175, 1, none⟩ = some (.slice Ao11 l2_1.length co11) := (blk_cell BK175.out 1).trans rfl; have hcz22_2 : w18.cell? ⟨gb175, 2, none⟩ = some (.slice Ao12 l2_2.length co12) := (blk_cell BK175.out 2).trans rfl; have hcz22_3 : w18.cell? ⟨gb175, 3, none⟩ = some (.slice Ao13 l2_3.length co13) := (blk_cell BK175.out 3).trans rfl; have hfz22_0 := blk_frozen BK175.out 0; have hfz22_1 := blk_frozen BK175.out 1; have hfz22_2 := blk_frozen BK175.out 2; have hfz22_3 := blk_frozen BK175.out 3; have p179 : 0 ≤ (((rd_T26 l0 a2_0).f2) : Int) := dt_; have q179 : ((rd_T26 l0 a2_0).f2) < (l2_1.length : Int) := dt_; obtain ⟨ad179, e179, hx179_0⟩ := Kd.at_int (Kd.R_reads' HO2_1.out).2.2 ((rd_T26 l0 a2_0).f2) p179 q179; cases e179; have hn179_0 : ad179.block ≠ gb178 := Kd.own_blk (Kd.R_ne HO2_1.out BK178.out (by decide)); have hn179_1 : ad179.block ≠ gb178 := Kd.own_blk (Kd.R_ne HO2_1.out BK178.out (by decide)); have hn179_2 : ad179.block ≠ gb178 := Kd.own_blk (Kd.R_ne HO2_1.out BK178.out (by decide)); have hn179_3 : ad179.block ≠ gb178 := Kd.own_blk (Kd.R_ne HO2_1.out BK178.out (by decide)); have hn179_4 : ad179.block ≠ gb178 := Kd.own_blk (Kd.R_ne HO2_1.out BK178.out (by decide)); have hn179_5 : ad179.block ≠ gb178 := Kd.own_blk (Kd.R_ne HO2_1.out BK178.out (by decide)); replace hx179_0 := (cell_far (p := ⟨gb178, 0, none⟩) (by first | (rw [add_block]; exact hn179_0) | (show (Addr.add _ _).block ≠ _; rw [add_block]; exact hn179_0) | exact hn179_0) (.int .i64 ((rd_T26 l0 a2_0).f0))).trans hx179_0; replace hx179_0 := (cell_far (p := ⟨gb178, 1, none⟩) (by first | (rw [add_block]; exact hn179_1) | (show (Addr.add _ _).block ≠ _; rw [add_block]; exact hn179_1) | exact hn179_1) (.int .i64 ((rd_T26 l0 a2_0).f1))).trans hx179_0; replace hx179_0 := (cell_far (p := ⟨gb178, 2, none⟩) (by first | (rw [add_block]; exact hn179_2) | (show (Addr.add _ _).block ≠ _; rw [add_block]; exact hn179_2) | exact hn179_2) (.int .i64 ((rd_T26 l0 a2_0).f2))).trans hx179_0; replace hx179_0 := (cell_far (p := ⟨gb178, 3, none⟩) (by first | (rw [add_block]; exact hn179_3) | (show (Addr.add _ _).block ≠ _; rw [add_block]; exact hn179_3) | exact hn179_3) (.int .i64 ((rd_T26 l0 a2_0).f3))).trans hx179_0; replace hx179_0 := (cell_far (p := ⟨gb178, 4, none⟩) (by first | (rw [add_block]; exact hn179_4) | (show (Addr.add _ _).block ≠ _; rw [add_block]; exact hn179_4) | exact hn179_4) (.int .i64 ((rd_T26 l0 a2_0).f4))).trans hx179_0; replace hx179_0 := (cell_far (p := ⟨gb178, 5, none⟩) (by first | (rw [add_block]; exact hn179_5) | (show (Addr.add _ _).block ≠ _; rw [add_block]; exact hn179_5) | exact hn179_5) (.int .i64 ((rd_T26 l0 a2_0).f5))).trans hx179_0; clear hn179_0; clear hn179_1; clear hn179_2; clear hn179_3; clear hn179_4; clear hn179_5; replace p179 := eq_true p179; replace q179 := eq_true q179; have p180 : 0 ≤ (((rd_T26 l0 a2_0).f3) : Int) := dt_; have q180 : ((rd_T26 l0 a2_0).f3) < (l2_1.length : Int) := dt_; obtain ⟨ad180, e180, hx180_0⟩ := Kd.at_int (Kd.R_reads' HO2_1.out).2.2 ((rd_T26 l0 a2_0).f3) p180 q180; obtain rfl : ad179 = ad180 := (by injection e180); have hn180_0 : ad179.block ≠ gb178 := Kd.own_blk (Kd.R_ne HO2_1.out BK178.out (by decide)); have hn180_1 : ad179.block ≠ gb178 := Kd.own_blk (Kd.R_ne HO2_1.out BK178.out (by decide)); have hn180_2 : ad179.block ≠ gb178 := Kd.own_blk (Kd.R_ne HO2_1.out BK178.out (by decide)); have hn180_3 : ad179.block ≠ gb178 := Kd.own_blk (Kd.R_ne HO2_1.out BK178.out (by decide)); have hn180_4 : ad179.block ≠ gb178 := Kd.own_blk (Kd.R_ne HO2_1.out BK178.out (by decide)); have hn180_5 : ad179.block ≠ gb178 := Kd.own_blk (Kd.R_ne HO2_1.out BK178.out (by decide)); replace hx180_0 := (cell_far (p := ⟨gb178, 0, none⟩) (by first | (rw [add_block]; exact hn180_0) | (show (Addr.add _ _).block ≠ _; rw [add_block]; exact hn180_0) | exact hn180_0) (.int .i64 ((rd_T26 l0 a2_0).f0))).trans hx180_0; replace hx180_0 := (cell_far (p := ⟨gb178, 1, none⟩) (by first | (rw [add_block]; exact hn180_1) | (show (Addr.add _ _).block ≠ _; rw [add_block]; exact hn180_1) | exact hn180_1) (.int .i64 ((rd_T26 l0 a2_0).f1))).trans hx180_0; replace hx180_0 := (cell_far (p := ⟨gb178, 2, none⟩) (by first | (rw [add_block]; exact hn180_2) | (show (Addr.add _ _).block ≠ _; rw [add_block]; exact hn180_2) | exact hn180_2) (.int .i64 ((rd_T26 l0 a2_0).f2))).trans hx180_0; replace hx180_0 := (cell_far (p := ⟨gb178, 3, none⟩) (by first | (rw [add_block]; exact hn180_3) | (show (Addr.add _ _).block ≠ _; rw [add_block]; exact hn180_3) | exact hn180_3) (.int .i64 ((rd_T26 l0 a2_0).f3))).trans hx180_0; replace hx180_0 := (cell_far (p := ⟨gb178, 4, none⟩) (by first | (rw [add_block]; exact hn180_4) | (show (Addr.add _ _).block ≠ _; rw [add_block]; exact hn180_4) | exact hn180_4) (.int .i64 ((rd_T26 l0 a2_0).f4))).trans hx180_0; replace hx180_0 := (cell_far (p := ⟨gb178, 5, none⟩) (by first | (rw [add_block]; exact hn180_5) | (show (Addr.add _ _).block ≠ _; rw [add_block]; exact hn180_5) | exact hn180_5) (.int .i64 ((rd_T26 l0 a2_0).f5))).trans hx180_0; clear hn180_0; clear hn180_1; clear hn180_2; clear hn180_3; clear hn180_4; clear hn180_5; replace p180 := eq_true p180; replace q180 := eq_true q180))
       (try simp only [Act.put, List.setIfInBounds_toArray, List.set_cons_zero, List.set_cons_succ])
       go_cut [] (fun wc => ∃ (kq : Nat) (x176001_9 : List Int) (x176002_9 : List Int) (x176003_9 : List Bool) (x177000_9 : Int) (u176001 : Value) (u176002 : Value) (u176003 : Value), Aside0 (spec_l3Do.j2 kq (wrap64 (a2_0 + 1)) (rd l2_1 ((rd_T26 l0 a2_0).f2)) (rd l2_1 ((rd_T26 l0 a2_0).f3)) a2_0 x176001_9 x176002_9 x176003_9 ((rd_T26 l0 a2_0).f0) ((rd_T26 l0 a2_0).f1) ((rd_T26 l0 a2_0).f2) ((rd_T26 l0 a2_0).f3) ((rd_T26 l0 a2_0).f4) ((rd_T26 l0 a2_0).f5) = some (r1, r2, r3, r4, r5, r6)) ∧ Aside0 (kq ≤ k) ∧ Aside0 (Kd.R (Kd.int .i64) 3 wc w0.heap.size (fun k_ => ((P2_1_ k_ ∨ P2_2_ k_ ∨ P2_3_ k_) ∨ w.heap.size ≤ k_) ∧ some k_ ≠ (u176002 : Value).ownBlock) u176001 x176001_9) ∧ Aside0 (Kd.R (Kd.int .i64) 3 wc w0.heap.size (fun k_ => ((P2_1_ k_ ∨ P2_2_ k_ ∨ P2_3_ k_) ∨ w.heap.size ≤ k_) ∧ some k_ ≠ (u176001 : Value).ownBlock) u176002 x176002_9) ∧ Aside0 (Kd.R Kd.bool 4 wc w0.heap.size (fun k_ => ((P2_1_ k_ ∨ P2_2_ k_ ∨ P2_3_ k_) ∨ w.heap.size ≤ k_)) u176003 x176003_9) ∧ Aside0 (wc.heap[gb175]? = some (.cells #[.int .i64 a2_0, u176001, u176002, u176003] 116 (0, 0))) ∧ Aside0 (wc.heap[gb176]? = some (.cells #[.int .i64 x177000_9, (.slice none 0 0), (.slice none 0 0), (.slice none 0 0)] 116 (0, 0))) ∧ Aside0 (wc.heap[gb178]? = some (.cells #[.int .i64 ((rd_T26 l0 a2_0).f0), .int .i64 ((rd_T26 l0 a2_0).f1), .int .i64 ((rd_T26 l0 a2_0).f2), .int .i64 ((rd_T26 l0 a2_0).f3), .int .i64 ((rd_T26 l0 a2_0).f4), .int .i64 ((rd_T26 l0 a2_0).f5)] 26 (0, 0))) ∧ Aside0 (Kept w wc (fun k_ => P2_1_ k_ ∨ P2_2_ k_ ∨ P2_3_ k_)) ∧ Aside0 (Below w0.heap.size w0 wc))
       case first =>
        have H := HC10.out
        clear HC10
        by_cases c23 : ((rd_T26 l0 a2_0).f0) = 11
        ·rw [if_pos c23] at H
         have c23b0 : (((rd_T26 l0 a2_0).f0) == 11) = true := beq_iff_eq.mpr c23
         have c23b1 : (((rd_T26 l0 a2_0).f0) != 11) = false := bne_eq_false_iff_eq.mpr c23
         clear c23
         (first | rw [c23b0] | (simp only [i64_w, i32_w]; rw [c23b0]) | skip)
         simp only [Option.some.injEq, Prod.mk.injEq] at H
         obtain ⟨rfl, rfl, rfl, rfl, rfl, rfl⟩ := H
         have hnb24 := NB175_176.out
         have hnc24 := NB176_175.out
         have hnb25 := NB175_178.out
         have hnc25 := NB178_175.out
         have hcz26_0 : w18.cell? ⟨gb175, 0, none⟩ = some (.int .i64 a2_0) := (blk_cell BK175.out 0).trans rfl
         have hcz26_1 : w18.cell? ⟨gb175, 1, none⟩ = some (.slice (some ad179) l2_1.length co11) := (blk_cell BK175.out 1).trans rfl
         have hcz26_2 : w18.cell? ⟨gb175, 2, none⟩ = some (.slice Ao12 l2_2.length co12) := (blk_cell BK175.out 2).trans rfl
         have hcz26_3 : w18.cell? ⟨gb175, 3, none⟩ = some (.slice Ao13 l2_3.length co13) := (blk_cell BK175.out 3).trans rfl
         have hfz26_0 := blk_frozen BK175.out 0
         have hfz26_1 := blk_frozen BK175.out 1
         have hfz26_2 := blk_frozen BK175.out 2
         have hfz26_3 := blk_frozen BK175.out 3
         have hnb27 := NB176_178.out
         have hnc27 := NB178_176.out
         have hcz28_0 : w18.cell? ⟨gb176, 0, none⟩ = some (.int .i64 0) := (blk_cell BK176.out 0).trans rfl
         have hcz28_1 : w18.cell? ⟨gb176, 1, none⟩ = some (.slice none 0 0) := (blk_cell BK176.out 1).trans rfl
         have hcz28_2 : w18.cell? ⟨gb176, 2, none⟩ = some (.slice none 0 0) := (blk_cell BK176.out 2).trans rfl
         have hcz28_3 : w18.cell? ⟨gb176, 3, none⟩ = some (.slice none 0 0) := (blk_cell BK176.out 3).trans rfl
         have hfz28_0 := blk_frozen BK176.out 0
         have hfz28_1 := blk_frozen BK176.out 1
         have hfz28_2 := blk_frozen BK176.out 2
         have hfz28_3 := blk_frozen BK176.out 3
         go_wp2
         refine bodyPost_ret (results_ctt rfl _ _ gb176 116 #[.int .i64 a2_0, .slice (some ad179) l2_1.length co11, .slice Ao12 l2_2.length co12, .slice Ao13 l2_3.length co13] (0, 0) _ rfl (by (with_reducible repeat (first | refine on_ ?_ _ | refine od_ ?_ | refine oa_ ?_ _)); refine blk_put (cs := #[.int .i64 a2_0, .slice (some ad179) l2_1.length co11, .slice Ao12 l2_2.length co12, .slice none 0 0]) ?_ 3 _ rfl; refine blk_put (cs := #[.int .i64 a2_0, .slice (some ad179) l2_1.length co11, .slice none 0 0, .slice none 0 0]) ?_ 2 _ rfl; refine blk_put (cs := #[.int .i64 a2_0, .slice none 0 0, .slice none 0 0, .slice none 0 0]) ?_ 1 _ rfl; refine blk_put (cs := #[.int .i64 0, .slice none 0 0, .slice none 0 0, .slice none 0 0]) ?_ 0 _ rfl; refine blk_far ?_ NB176_178.out _; refine blk_far ?_ NB176_178.out _; refine blk_far ?_ NB176_178.out _; refine blk_far ?_ NB176_178.out _; refine blk_far ?_ NB176_178.out _; refine blk_far ?_ NB176_178.out _; (with_reducible repeat (first | refine on_ ?_ _ | refine od_ ?_ | refine oa_ ?_ _)); exact BK176.out) Try.underlying116 rfl (by kernel_rfl)) rfl ?_
         exact ⟨_, _, _, by first | rfl | (simp <;> rfl) | (simp [*] <;> rfl), by (with_reducible repeat (first | apply Ra_ | apply Rn_ | apply Rd_)); exact Kd.R_mono (Kd.R_far (p := ⟨gb176, 3, none⟩) (Kd.R_far (p := ⟨gb176, 2, none⟩) (Kd.R_far (p := ⟨gb176, 1, none⟩) (Kd.R_far (p := ⟨gb176, 0, none⟩) (Kd.R_far (p := ⟨gb178, 5, none⟩) (Kd.R_far (p := ⟨gb178, 4, none⟩) (Kd.R_far (p := ⟨gb178, 3, none⟩) (Kd.R_far (p := ⟨gb178, 2, none⟩) (Kd.R_far (p := ⟨gb178, 1, none⟩) (Kd.R_far (p := ⟨gb178, 0, none⟩) (Kd.R_types (Kd.R_types HO2_1.out BK178.out (by decide)) BK176.out (by decide)) (fun _ hk => hk.1.2) (.int .i64 ((rd_T26 l0 a2_0).f0))) (fun _ hk => hk.1.2) (.int .i64 ((rd_T26 l0 a2_0).f1))) (fun _ hk => hk.1.2) (.int .i64 ((rd_T26 l0 a2_0).f2))) (fun _ hk => hk.1.2) (.int .i64 ((rd_T26 l0 a2_0).f3))) (fun _ hk => hk.1.2) (.int .i64 ((rd_T26 l0 a2_0).f4))) (fun _ hk => hk.1.2) (.int .i64 ((rd_T26 l0 a2_0).f5))) (fun _ hk => hk.2) (.int .i64 a2_0)) (fun _ hk => hk.2) (.slice (some ad179) l2_1.length co11)) (fun _ hk => hk.2) (.slice Ao12 l2_2.length co12)) (fun _ hk => hk.2) (.slice Ao13 l2_3.length co13)) (fun _ hk => ⟨hk.1.1.1, hk.1.1.2⟩), by (with_reducible repeat (first | apply Ra_ | apply Rn_ | apply Rd_)); exact Kd.R_mono (Kd.R_far (p := ⟨gb176, 3, none⟩) (Kd.R_far (p := ⟨gb176, 2, none⟩) (Kd.R_far (p := ⟨gb176, 1, none⟩) (Kd.R_far (p := ⟨gb176, 0, none⟩) (Kd.R_far (p := ⟨gb178, 5, none⟩) (Kd.R_far (p := ⟨gb178, 4, none⟩) (Kd.R_far (p := ⟨gb178, 3, none⟩) (Kd.R_far (p := ⟨gb178, 2, none⟩) (Kd.R_far (p := ⟨gb178, 1, none⟩) (Kd.R_far (p := ⟨gb178, 0, none⟩) (Kd.R_types (Kd.R_types HO2_2.out BK178.out (by decide)) BK176.out (by decide)) (fun _ hk => hk.1.2) (.int .i64 ((rd_T26 l0 a2_0).f0))) (fun _ hk => hk.1.2) (.int .i64 ((rd_T26 l0 a2_0).f1))) (fun _ hk => hk.1.2) (.int .i64 ((rd_T26 l0 a2_0).f2))) (fun _ hk => hk.1.2) (.int .i64 ((rd_T26 l0 a2_0).f3))) (fun _ hk => hk.1.2) (.int .i64 ((rd_T26 l0 a2_0).f4))) (fun _ hk => hk.1.2) (.int .i64 ((rd_T26 l0 a2_0).f5))) (fun _ hk => hk.2) (.int .i64 a2_0)) (fun _ hk => hk.2) (.slice (some ad179) l2_1.length co11)) (fun _ hk => hk.2) (.slice Ao12 l2_2.length co12)) (fun _ hk => hk.2) (.slice Ao13 l2_3.length co13)) (fun _ hk => ⟨hk.1.1.1, hk.1.1.2⟩), by (with_reducible repeat (first | apply Ra_ | apply Rn_ | apply Rd_)); exact Kd.R_mono (Kd.R_far (p := ⟨gb176, 3, none⟩) (Kd.R_far (p := ⟨gb176, 2, none⟩) (Kd.R_far (p := ⟨gb176, 1, none⟩) (Kd.R_far (p := ⟨gb176, 0, none⟩) (Kd.R_far (p := ⟨gb178, 5, none⟩) (Kd.R_far (p := ⟨gb178, 4, none⟩) (Kd.R_far (p := ⟨gb178, 3, none⟩) (Kd.R_far (p := ⟨gb178, 2, none⟩) (Kd.R_far (p := ⟨gb178, 1, none⟩) (Kd.R_far (p := ⟨gb178, 0, none⟩) (Kd.R_types (Kd.R_types HO2_3.out BK178.out (by decide)) BK176.out (by decide)) (fun _ hk => hk.1.2) (.int .i64 ((rd_T26 l0 a2_0).f0))) (fun _ hk => hk.1.2) (.int .i64 ((rd_T26 l0 a2_0).f1))) (fun _ hk => hk.1.2) (.int .i64 ((rd_T26 l0 a2_0).f2))) (fun _ hk => hk.1.2) (.int .i64 ((rd_T26 l0 a2_0).f3))) (fun _ hk => hk.1.2) (.int .i64 ((rd_T26 l0 a2_0).f4))) (fun _ hk => hk.1.2) (.int .i64 ((rd_T26 l0 a2_0).f5))) (fun _ hk => hk.2) (.int .i64 a2_0)) (fun _ hk => hk.2) (.slice (some ad179) l2_1.length co11)) (fun _ hk => hk.2) (.slice Ao12 l2_2.length co12)) (fun _ hk => hk.2) (.slice Ao13 l2_3.length co13)) (fun _ hk => hk.1.1), by repeat (first | (with_reducible first | exact HB.out | apply ba_ | apply bn_ | apply bd_ | refine bs_ ?_ GE175.out | refine bs_ ?_ GE176.out | refine bs_ ?_ GE178.out) | exact HB.out), by repeat (first | (with_reducible first | exact HK.out | apply Kept.alloc | apply Kept.drewN | apply Kept.drew | refine Kept.setCell ?_ (.inr GW175.out) _ | refine Kept.setCell ?_ (.inr GW176.out) _ | refine Kept.setCell ?_ (.inr GW178.out) _) | exact HK.out)⟩
        rw [if_neg c23] at H
        have c23b0 : (((rd_T26 l0 a2_0).f0) == 11) = false := beq_eq_false_iff_ne.mpr c23
        have c23b1 : (((rd_T26 l0 a2_0).f0) != 11) = true := bne_iff_ne.mpr c23
        (first | rw [c23b0] | (simp only [i64_w, i32_w]; rw [c23b0]) | skip)
        by_cases c29 : ((rd_T26 l0 a2_0).f0) = 1
        ·rw [if_pos c29] at H
         have c29b0 : (((rd_T26 l0 a2_0).f0) == 1) = true := beq_iff_eq.mpr c29
         have c29b1 : (((rd_T26 l0 a2_0).f0) != 1) = false := bne_eq_false_iff_eq.mpr c29
         clear c29
         replace H := Option.bind_eq_some_iff.mp H
         obtain ⟨t181, A300, H⟩ := H
         (try dsimp only at H)
         have A30 := Aside0.mk A300
         clear A300
         obtain ⟨y182, hy182⟩ : ∃ y_ : List Int, y_ = (l2_1.set (((rd_T26 l0 a2_0).f2) : Int).toNat t181) := ⟨_, rfl⟩
         replace H : (spec_l3Do.j2 k (wrap64 (a2_0 + 1)) (rd l2_1 ((rd_T26 l0 a2_0).f2)) (rd l2_1 ((rd_T26 l0 a2_0).f3)) a2_0 y182 l2_2 l2_3 ((rd_T26 l0 a2_0).f0) ((rd_T26 l0 a2_0).f1) ((rd_T26 l0 a2_0).f2) ((rd_T26 l0 a2_0).f3) ((rd_T26 l0 a2_0).f4) ((rd_T26 l0 a2_0).f5)) = some (r1, r2, r3, r4, r5, r6) := by first | (rw [hy182]; with_reducible exact H) | (have H2_ := (Option.bind_some _ _).symm.trans H; rw [hy182]; with_reducible exact H2_) | (have H2_ := (Option.bind_some _ _).symm.trans H; with_reducible exact H2_) | with_reducible exact H | (rw [hy182]; exact H) | exact H
         have Ny182 := Aside0.mk hy182
         clear hy182
         have H' := Aside0.mk H
         clear H
         try go_wp2
         have n0_ : Aside0 (Kd.R (Kd.int .i64) 3 ((((((w18.setCell ⟨gb178, 0, none⟩ (.int .i64 ((rd_T26 l0 a2_0).f0))).setCell ⟨gb178, 1, none⟩ (.int .i64 ((rd_T26 l0 a2_0).f1))).setCell ⟨gb178, 2, none⟩ (.int .i64 ((rd_T26 l0 a2_0).f2))).setCell ⟨gb178, 3, none⟩ (.int .i64 ((rd_T26 l0 a2_0).f3))).setCell ⟨gb178, 4, none⟩ (.int .i64 ((rd_T26 l0 a2_0).f4))).setCell ⟨gb178, 5, none⟩ (.int .i64 ((rd_T26 l0 a2_0).f5))) w0.heap.size (fun k_ => ((P2_1_ k_ ∨ P2_2_ k_ ∨ P2_3_ k_) ∨ w.heap.size ≤ k_) ∧ some k_ ≠ (.slice Ao12 l2_2.length co12 : Value).ownBlock) (.slice (some ad179) l2_1.length co11) l2_1) := ⟨by (with_reducible repeat (first | apply Ra_ | apply Rn_ | apply Rd_)); exact Kd.R_mono (Kd.R_far (p := ⟨gb178, 5, none⟩) (Kd.R_far (p := ⟨gb178, 4, none⟩) (Kd.R_far (p := ⟨gb178, 3, none⟩) (Kd.R_far (p := ⟨gb178, 2, none⟩) (Kd.R_far (p := ⟨gb178, 1, none⟩) (Kd.R_far (p := ⟨gb178, 0, none⟩) (Kd.R_types HO2_1.out BK178.out (by decide)) (fun _ hk => hk.2) (.int .i64 ((rd_T26 l0 a2_0).f0))) (fun _ hk => hk.2) (.int .i64 ((rd_T26 l0 a2_0).f1))) (fun _ hk => hk.2) (.int .i64 ((rd_T26 l0 a2_0).f2))) (fun _ hk => hk.2) (.int .i64 ((rd_T26 l0 a2_0).f3))) (fun _ hk => hk.2) (.int .i64 ((rd_T26 l0 a2_0).f4))) (fun _ hk => hk.2) (.int .i64 ((rd_T26 l0 a2_0).f5))) (fun _ hk => ⟨hk.1.1, hk.1.2⟩)⟩
         have n1_ : Aside0 (Kd.R (Kd.int .i64) 3 ((((((w18.setCell ⟨gb178, 0, none⟩ (.int .i64 ((rd_T26 l0 a2_0).f0))).setCell ⟨gb178, 1, none⟩ (.int .i64 ((rd_T26 l0 a2_0).f1))).setCell ⟨gb178, 2, none⟩ (.int .i64 ((rd_T26 l0 a2_0).f2))).setCell ⟨gb178, 3, none⟩ (.int .i64 ((rd_T26 l0 a2_0).f3))).setCell ⟨gb178, 4, none⟩ (.int .i64 ((rd_T26 l0 a2_0).f4))).setCell ⟨gb178, 5, none⟩ (.int .i64 ((rd_T26 l0 a2_0).f5))) w0.heap.size (fun k_ => ((P2_1_ k_ ∨ P2_2_ k_ ∨ P2_3_ k_) ∨ w.heap.size ≤ k_) ∧ some k_ ≠ (.slice (some ad179) l2_1.length co11 : Value).ownBlock) (.slice Ao12 l2_2.length co12) l2_2) := ⟨by (with_reducible repeat (first | apply Ra_ | apply Rn_ | apply Rd_)); exact Kd.R_mono (Kd.R_far (p := ⟨gb178, 5, none⟩) (Kd.R_far (p := ⟨gb178, 4, none⟩) (Kd.R_far (p := ⟨gb178, 3, none⟩) (Kd.R_far (p := ⟨gb178, 2, none⟩) (Kd.R_far (p := ⟨gb178, 1, none⟩) (Kd.R_far (p := ⟨gb178, 0, none⟩) (Kd.R_types HO2_2.out BK178.out (by decide)) (fun _ hk => hk.2) (.int .i64 ((rd_T26 l0 a2_0).f0))) (fun _ hk => hk.2) (.int .i64 ((rd_T26 l0 a2_0).f1))) (fun _ hk => hk.2) (.int .i64 ((rd_T26 l0 a2_0).f2))) (fun _ hk => hk.2) (.int .i64 ((rd_T26 l0 a2_0).f3))) (fun _ hk => hk.2) (.int .i64 ((rd_T26 l0 a2_0).f4))) (fun _ hk => hk.2) (.int .i64 ((rd_T26 l0 a2_0).f5))) (fun _ hk => ⟨hk.1.1, hk.1.2⟩)⟩
         have n2_ : Aside0 (Kd.R Kd.bool 4 ((((((w18.setCell ⟨gb178, 0, none⟩ (.int .i64 ((rd_T26 l0 a2_0).f0))).setCell ⟨gb178, 1, none⟩ (.int .i64 ((rd_T26 l0 a2_0).f1))).setCell ⟨gb178, 2, none⟩ (.int .i64 ((rd_T26 l0 a2_0).f2))).setCell ⟨gb178, 3, none⟩ (.int .i64 ((rd_T26 l0 a2_0).f3))).setCell ⟨gb178, 4, none⟩ (.int .i64 ((rd_T26 l0 a2_0).f4))).setCell ⟨gb178, 5, none⟩ (.int .i64 ((rd_T26 l0 a2_0).f5))) w0.heap.size (fun k_ => ((P2_1_ k_ ∨ P2_2_ k_ ∨ P2_3_ k_) ∨ w.heap.size ≤ k_)) (.slice Ao13 l2_3.length co13) l2_3) := ⟨by (with_reducible repeat (first | apply Ra_ | apply Rn_ | apply Rd_)); exact Kd.R_mono (Kd.R_far (p := ⟨gb178, 5, none⟩) (Kd.R_far (p := ⟨gb178, 4, none⟩) (Kd.R_far (p := ⟨gb178, 3, none⟩) (Kd.R_far (p := ⟨gb178, 2, none⟩) (Kd.R_far (p := ⟨gb178, 1, none⟩) (Kd.R_far (p := ⟨gb178, 0, none⟩) (Kd.R_types HO2_3.out BK178.out (by decide)) (fun _ hk => hk.2) (.int .i64 ((rd_T26 l0 a2_0).f0))) (fun _ hk => hk.2) (.int .i64 ((rd_T26 l0 a2_0).f1))) (fun _ hk => hk.2) (.int .i64 ((rd_T26 l0 a2_0).f2))) (fun _ hk => hk.2) (.int .i64 ((rd_T26 l0 a2_0).f3))) (fun _ hk => hk.2) (.int .i64 ((rd_T26 l0 a2_0).f4))) (fun _ hk => hk.2) (.int .i64 ((rd_T26 l0 a2_0).f5))) (fun _ hk => hk.1)⟩
         have n3_ : Aside0 (((((((w18.setCell ⟨gb178, 0, none⟩ (.int .i64 ((rd_T26 l0 a2_0).f0))).setCell ⟨gb178, 1, none⟩ (.int .i64 ((rd_T26 l0 a2_0).f1))).setCell ⟨gb178, 2, none⟩ (.int .i64 ((rd_T26 l0 a2_0).f2))).setCell ⟨gb178, 3, none⟩ (.int .i64 ((rd_T26 l0 a2_0).f3))).setCell ⟨gb178, 4, none⟩ (.int .i64 ((rd_T26 l0 a2_0).f4))).setCell ⟨gb178, 5, none⟩ (.int .i64 ((rd_T26 l0 a2_0).f5))).heap[gb175]? = some (.cells #[.int .i64 a2_0, .slice (some ad179) l2_1.length co11, .slice Ao12 l2_2.length co12, .slice Ao13 l2_3.length co13] 116 (0, 0))) := ⟨by (with_reducible repeat (first | refine on_ ?_ _ | refine od_ ?_ | refine oa_ ?_ _)); refine blk_far ?_ NB175_178.out _; refine blk_far ?_ NB175_178.out _; refine blk_far ?_ NB175_178.out _; refine blk_far ?_ NB175_178.out _; refine blk_far ?_ NB175_178.out _; refine blk_far ?_ NB175_178.out _; (with_reducible repeat (first | refine on_ ?_ _ | refine od_ ?_ | refine oa_ ?_ _)); exact BK175.out⟩
         have n4_ : Aside0 (((((((w18.setCell ⟨gb178, 0, none⟩ (.int .i64 ((rd_T26 l0 a2_0).f0))).setCell ⟨gb178, 1, none⟩ (.int .i64 ((rd_T26 l0 a2_0).f1))).setCell ⟨gb178, 2, none⟩ (.int .i64 ((rd_T26 l0 a2_0).f2))).setCell ⟨gb178, 3, none⟩ (.int .i64 ((rd_T26 l0 a2_0).f3))).setCell ⟨gb178, 4, none⟩ (.int .i64 ((rd_T26 l0 a2_0).f4))).setCell ⟨gb178, 5, none⟩ (.int .i64 ((rd_T26 l0 a2_0).f5))).heap[gb176]? = some (.cells #[.int .i64 0, .slice none 0 0, .slice none 0 0, .slice none 0 0] 116 (0, 0))) := ⟨by (with_reducible repeat (first | refine on_ ?_ _ | refine od_ ?_ | refine oa_ ?_ _)); refine blk_far ?_ NB176_178.out _; refine blk_far ?_ NB176_178.out _; refine blk_far ?_ NB176_178.out _; refine blk_far ?_ NB176_178.out _; refine blk_far ?_ NB176_178.out _; refine blk_far ?_ NB176_178.out _; (with_reducible repeat (first | refine on_ ?_ _ | refine od_ ?_ | refine oa_ ?_ _)); exact BK176.out⟩
         have n5_ : Aside0 (((((((w18.setCell ⟨gb178, 0, none⟩ (.int .i64 ((rd_T26 l0 a2_0).f0))).setCell ⟨gb178, 1, none⟩ (.int .i64 ((rd_T26 l0 a2_0).f1))).setCell ⟨gb178, 2, none⟩ (.int .i64 ((rd_T26 l0 a2_0).f2))).setCell ⟨gb178, 3, none⟩ (.int .i64 ((rd_T26 l0 a2_0).f3))).setCell ⟨gb178, 4, none⟩ (.int .i64 ((rd_T26 l0 a2_0).f4))).setCell ⟨gb178, 5, none⟩ (.int .i64 ((rd_T26 l0 a2_0).f5))).heap[gb178]? = some (.cells #[.int .i64 ((rd_T26 l0 a2_0).f0), .int .i64 ((rd_T26 l0 a2_0).f1), .int .i64 ((rd_T26 l0 a2_0).f2), .int .i64 ((rd_T26 l0 a2_0).f3), .int .i64 ((rd_T26 l0 a2_0).f4), .int .i64 ((rd_T26 l0 a2_0).f5)] 26 (0, 0))) := ⟨by (with_reducible repeat (first | refine on_ ?_ _ | refine od_ ?_ | refine oa_ ?_ _)); refine blk_put (cs := #[.int .i64 ((rd_T26 l0 a2_0).f0), .int .i64 ((rd_T26 l0 a2_0).f1), .int .i64 ((rd_T26 l0 a2_0).f2), .int .i64 ((rd_T26 l0 a2_0).f3), .int .i64 ((rd_T26 l0 a2_0).f4), .int .i64 0]) ?_ 5 _ rfl; refine blk_put (cs := #[.int .i64 ((rd_T26 l0 a2_0).f0), .int .i64 ((rd_T26 l0 a2_0).f1), .int .i64 ((rd_T26 l0 a2_0).f2), .int .i64 ((rd_T26 l0 a2_0).f3), .int .i64 0, .int .i64 0]) ?_ 4 _ rfl; refine blk_put (cs := #[.int .i64 ((rd_T26 l0 a2_0).f0), .int .i64 ((rd_T26 l0 a2_0).f1), .int .i64 ((rd_T26 l0 a2_0).f2), .int .i64 0, .int .i64 0, .int .i64 0]) ?_ 3 _ rfl; refine blk_put (cs := #[.int .i64 ((rd_T26 l0 a2_0).f0), .int .i64 ((rd_T26 l0 a2_0).f1), .int .i64 0, .int .i64 0, .int .i64 0, .int .i64 0]) ?_ 2 _ rfl; refine blk_put (cs := #[.int .i64 ((rd_T26 l0 a2_0).f0), .int .i64 0, .int .i64 0, .int .i64 0, .int .i64 0, .int .i64 0]) ?_ 1 _ rfl; refine blk_put (cs := #[.int .i64 0, .int .i64 0, .int .i64 0, .int .i64 0, .int .i64 0, .int .i64 0]) ?_ 0 _ rfl; (with_reducible repeat (first | refine on_ ?_ _ | refine od_ ?_ | refine oa_ ?_ _)); exact BK178.out⟩
         have n6_ : Aside0 (Kept w ((((((w18.setCell ⟨gb178, 0, none⟩ (.int .i64 ((rd_T26 l0 a2_0).f0))).setCell ⟨gb178, 1, none⟩ (.int .i64 ((rd_T26 l0 a2_0).f1))).setCell ⟨gb178, 2, none⟩ (.int .i64 ((rd_T26 l0 a2_0).f2))).setCell ⟨gb178, 3, none⟩ (.int .i64 ((rd_T26 l0 a2_0).f3))).setCell ⟨gb178, 4, none⟩ (.int .i64 ((rd_T26 l0 a2_0).f4))).setCell ⟨gb178, 5, none⟩ (.int .i64 ((rd_T26 l0 a2_0).f5))) (fun k_ => P2_1_ k_ ∨ P2_2_ k_ ∨ P2_3_ k_)) := ⟨by repeat (first | (with_reducible first | exact HK.out | apply Kept.alloc | apply Kept.drewN | apply Kept.drew | refine Kept.setCell ?_ (.inr GW175.out) _ | refine Kept.setCell ?_ (.inr GW176.out) _ | refine Kept.setCell ?_ (.inr GW178.out) _) | exact HK.out)⟩
         have n7_ : Aside0 (Below w0.heap.size w0 ((((((w18.setCell ⟨gb178, 0, none⟩ (.int .i64 ((rd_T26 l0 a2_0).f0))).setCell ⟨gb178, 1, none⟩ (.int .i64 ((rd_T26 l0 a2_0).f1))).setCell ⟨gb178, 2, none⟩ (.int .i64 ((rd_T26 l0 a2_0).f2))).setCell ⟨gb178, 3, none⟩ (.int .i64 ((rd_T26 l0 a2_0).f3))).setCell ⟨gb178, 4, none⟩ (.int .i64 ((rd_T26 l0 a2_0).f4))).setCell ⟨gb178, 5, none⟩ (.int .i64 ((rd_T26 l0 a2_0).f5)))) := ⟨by repeat (first | (with_reducible first | exact HB.out | apply ba_ | apply bn_ | apply bd_ | refine bs_ ?_ GE175.out | refine bs_ ?_ GE176.out | refine bs_ ?_ GE178.out) | exact HB.out)⟩
         (try clear HO2_1)
         (try clear HO2_2)
         (try clear HO2_3)
         (try clear BK175)
         (try clear BK176)
         (try clear BK178)
         (try clear HK)
         (try clear HB)
         generalize ((((((w18.setCell ⟨gb178, 0, none⟩ (.int .i64 ((rd_T26 l0 a2_0).f0))).setCell ⟨gb178, 1, none⟩ (.int .i64 ((rd_T26 l0 a2_0).f1))).setCell ⟨gb178, 2, none⟩ (.int .i64 ((rd_T26 l0 a2_0).f2))).setCell ⟨gb178, 3, none⟩ (.int .i64 ((rd_T26 l0 a2_0).f3))).setCell ⟨gb178, 4, none⟩ (.int .i64 ((rd_T26 l0 a2_0).f4))).setCell ⟨gb178, 5, none⟩ (.int .i64 ((rd_T26 l0 a2_0).f5))) = w32 at n0_ n1_ n2_ n3_ n4_ n5_ n6_ n7_ ⊢
         have HO2_1 := n0_
         have HO2_2 := n1_
         have HO2_3 := n2_
         have BK175 := n3_
         have BK176 := n4_
         have BK178 := n5_
         have HK := n6_
         have HB := n7_
         clear n0_ n1_ n2_ n3_ n4_ n5_ n6_ n7_
         have n0_ := Aside0.mk (Kd.R_drew HO2_1.out)
         have n1_ := Aside0.mk (Kd.R_drew HO2_2.out)
         have n2_ := Aside0.mk (Kd.R_drew HO2_3.out)
         have n3_ := Aside0.mk (blk_drew BK175.out)
         have n4_ := Aside0.mk (blk_drew BK176.out)
         have n5_ := Aside0.mk (blk_drew BK178.out)
         have n6_ := Aside0.mk (Kept.drew HK.out)
         have n7_ := Aside0.mk (below_drew1 HB.out)
         clear HO2_1
         clear HO2_2
         clear HO2_3
         clear BK175
         clear BK176
         clear BK178
         clear HK
         clear HB
         have HO2_1 := n0_
         have HO2_2 := n1_
         have HO2_3 := n2_
         have BK175 := n3_
         have BK176 := n4_
         have BK178 := n5_
         have HK := n6_
         have HB := n7_
         clear n0_ n1_ n2_ n3_ n4_ n5_ n6_ n7_
         refine start_ (n := 11) (S := fun w' => w'.cell? ⟨gb175, 0, none⟩ = some (.int .i64 a2_0) ∧ w'.cell? ⟨gb175, 1, none⟩ = some (.slice (some ad179) l2_1.length co11) ∧ w'.cell? ⟨gb175, 2, none⟩ = some (.slice Ao12 l2_2.length co12) ∧ w'.cell? ⟨gb175, 3, none⟩ = some (.slice Ao13 l2_3.length co13) ∧ w'.cell? ⟨gb178, 0, none⟩ = some (.int .i64 ((rd_T26 l0 a2_0).f0)) ∧ w'.cell? ⟨gb178, 1, none⟩ = some (.int .i64 ((rd_T26 l0 a2_0).f1)) ∧ w'.cell? ⟨gb178, 2, none⟩ = some (.int .i64 ((rd_T26 l0 a2_0).f2)) ∧ w'.cell? ⟨gb178, 3, none⟩ = some (.int .i64 ((rd_T26 l0 a2_0).f3)) ∧ w'.cell? ⟨gb178, 4, none⟩ = some (.int .i64 ((rd_T26 l0 a2_0).f4)) ∧ w'.cell? ⟨gb178, 5, none⟩ = some (.int .i64 ((rd_T26 l0 a2_0).f5))) (ds := [10]) #[false, false, false, false, false, false, false, false, false, false, false] (by kernel_rfl) rfl rfl ⟨(blk_cell BK175.out 0).trans rfl, (blk_cell BK175.out 1).trans rfl, (blk_cell BK175.out 2).trans rfl, (blk_cell BK175.out 3).trans rfl, (blk_cell BK178.out 0).trans rfl, (blk_cell BK178.out 1).trans rfl, (blk_cell BK178.out 2).trans rfl, (blk_cell BK178.out 3).trans rfl, (blk_cell BK178.out 4).trans rfl, (blk_cell BK178.out 5).trans rfl⟩ (fun hHeld => ?_); refine with_tabW spec_l3Do.tab9 spec_l3Do.bits9 (fun HT_ HW_ => ?_)
         generalize w32.drew = w33 at HO2_1 HO2_2 HO2_3 BK175 BK176 BK178 HK HB hHeld ⊢
         refine pz_ 0 (some 40) (v := ?_) (a' := ?_) (any_of HT_.out (by kernel_rfl)) rfl rfl (fun _ _ _ h => h) (by rfl) ?_ ?_ ?_;rotate_left;intro w';go_simp;with_reducible rfl;rotate_left;simp only [Act.put, yy_];rfl
         refine pz_ 2 (some 42) (v := ?_) (a' := ?_) (any_of HT_.out (by kernel_rfl)) rfl rfl (fun _ _ _ h => h) (by rfl) ?_ ?_ ?_;rotate_left;intro w';go_simp;with_reducible rfl;rotate_left;simp only [Act.put, yy_];rfl
         refine pz_ 4 (some 44) (v := ?_) (a' := ?_) (any_of HT_.out (by kernel_rfl)) rfl rfl (fun _ _ _ h => h) (by rfl) ?_ ?_ ?_;rotate_left;intro w';go_simp;with_reducible rfl;rotate_left;simp only [Act.put, yy_];rfl
         refine pz_ 6 (some 46) (v := ?_) (a' := ?_) (any_of HT_.out (by kernel_rfl)) rfl rfl (fun _ _ _ h => h) (by rfl) ?_ ?_ ?_;rotate_left;intro w';go_simp;with_reducible rfl;rotate_left;simp only [Act.put, yy_];rfl
         refine pz_ 7 (some 47) (v := ?_) (a' := ?_) (any_of HT_.out (by kernel_rfl)) rfl rfl (fun _ _ _ h => h) (by rfl) ?_ ?_ ?_;rotate_left;intro w';go_simp;with_reducible rfl;rotate_left;simp only [Act.put, yy_];rfl
         refine tz_ 1 (some 41) (v := ?_) (a' := ?_) (take_ofW HT_.out HW_.out (by kernel_rfl)) rfl rfl (fun _ _ _ h => h) (by rfl) ?_ hHeld ?_ ?_;rotate_left;rintro w' ⟨s0, s1, s2, s3, s4, s5, s6, s7, s8, s9⟩;go_simp;with_reducible rfl;rotate_left;simp only [Act.put, yy_];rfl
         refine tz_ 3 (some 43) (v := ?_) (a' := ?_) (take_ofW HT_.out HW_.out (by kernel_rfl)) rfl rfl (fun _ _ _ h => h) (by rfl) ?_ hHeld ?_ ?_;rotate_left;rintro w' ⟨s0, s1, s2, s3, s4, s5, s6, s7, s8, s9⟩;go_simp;with_reducible rfl;rotate_left;simp only [Act.put, yy_];rfl
         refine tz_ 5 (some 45) (v := ?_) (a' := ?_) (take_ofW HT_.out HW_.out (by kernel_rfl)) rfl rfl (fun _ _ _ h => h) (by rfl) ?_ hHeld ?_ ?_;rotate_left;rintro w' ⟨s0, s1, s2, s3, s4, s5, s6, s7, s8, s9⟩;go_simp;with_reducible rfl;rotate_left;simp only [Act.put, yy_];rfl
         refine one_ (i := 8) (N := some 48) #[true, true, true, true, true, true, true, true, true, false, false] rfl rfl (one_of HT_.out (by kernel_rfl)) (by decide) (fun K hK => ?_)
         refine goes_ Try.func101 (by kernel_rfl) rfl #[.int .i64 ((rd_T26 l0 a2_0).f1), .int .i64 (rd l2_1 ((rd_T26 l0 a2_0).f2)), .int .i64 (rd l2_1 ((rd_T26 l0 a2_0).f3))] (by rfl) rfl rfl (by simp only [zA_, zB_, zD_] <;> rfl) ?_
         with_reducible refine (spec_l1Do.calls ((rd_T26 l0 a2_0).f1) (rd l2_1 ((rd_T26 l0 a2_0).f2)) (rd l2_1 ((rd_T26 l0 a2_0).f3)) t181 _ A30.out).mono ?_
         rintro e w' ⟨rfl, ⟨nd, rfl⟩⟩
         refine ⟨_, rfl, ?_⟩
         have p31 : 0 ≤ (((rd_T26 l0 a2_0).f2) : Int) := dt_
         have q31 : (((rd_T26 l0 a2_0).f2) : Int) < ((l2_1.length : Int) : Int) := dt_
         obtain ⟨go31, co31, eo31, gb31, gl31, cl31, HG31⟩ := Kd.R_form HO2_1.out (by omega)
         (first | cases eo31 | (injection eo31 with ea_ en_ ec_; (first | subst ea_ | (injection ea_ with ea_; subst ea_)); subst ec_; clear en_))
         have GB31 := Aside0.mk gb31
         have GG31 := Aside0.mk HG31
         clear gb31 gl31 HG31
         have HMgo31 := Aside0.mk (show ((P2_1_ go31 ∨ P2_2_ go31 ∨ P2_3_ go31) ∨ w.heap.size ≤ go31) from (HO2_1.out.1 _ rfl).1)
         (first | simp only [add_plain] at hx179_0 | skip)
         (first | simp only [add_plain] at hx180_0 | skip)
         obtain ⟨hx31_0, hf31_0⟩ := Kd.R_celln 0 HO2_1.out (((rd_T26 l0 a2_0).f2) : Int) p31 q31
         replace p31 := eq_true p31
         replace q31 := eq_true q31
         have HP34 := Kd.R_putn HO2_1.out (((rd_T26 l0 a2_0).f2) : Int) t181
         rw [← Ny182.out] at HP34
         have HQ34 := Aside0.mk HP34
         clear HP34
         refine hK.out _ _ ⟨(blk_cell BK175.out 0).trans rfl, (blk_cell BK175.out 1).trans rfl, (blk_cell BK175.out 2).trans rfl, (blk_cell BK175.out 3).trans rfl, (blk_cell BK178.out 0).trans rfl, (blk_cell BK178.out 1).trans rfl, (blk_cell BK178.out 2).trans rfl, (blk_cell BK178.out 3).trans rfl, (blk_cell BK178.out 4).trans rfl, (blk_cell BK178.out 5).trans rfl⟩ (fun hHeld => ?_)
         clear hK K
         refine norm_ (a' := ?_) ?_ ?_
         rotate_left
         ·show Act.put _ (some 48) _ = _
          simp only [Act.put, yy_]
          rfl
         refine pz_ 9 (some 49) (v := ?_) (a' := ?_) (any_of HT_.out (by kernel_rfl)) rfl rfl (fun _ _ _ h => h) (by rfl) ?_ ?_ ?_;rotate_left;intro w';go_simp;with_reducible rfl;rotate_left;simp only [Act.put, yy_];rfl
         refine last_ (i := 10) (N := none) #[true, true, true, true, true, true, true, true, true, true, true] rfl rfl (one_of HT_.out (by kernel_rfl)) (by decide) (fun K hK => ?_)
         refine skip_ (w1 := ?_) (by rfl) rfl ?_ ?_
         rotate_left
         ·go_simp
          rfl
         refine hK.out _ _ ?_
         clear hK K
         refine done_ (done_of HT_.out (by kernel_rfl)) ?_
         try go_wp2
         go_meet
         case rel => exact ⟨_, (y182), (l2_2), (l2_3), (0), (.slice (some ⟨go31, 0, none⟩) l2_1.length co11), (.slice Ao12 l2_2.length co12), (.slice Ao13 l2_3.length co13), H', ⟨by first | omega | exact Nat.le_refl _⟩, ⟨zR_ HQ34.out⟩, ⟨by (with_reducible repeat (first | apply Ra_ | apply Rn_ | apply Rd_)); exact Kd.R_mono (Kd.R_far (p := ⟨go31, (((rd_T26 l0 a2_0).f2) : Int).toNat, none⟩) (Kd.R_mono HO2_2.out (fun k_ hk => (⟨hk, fun e_ => hk.2 (by rw [e_]; rfl)⟩ : _ ∧ k_ ≠ go31))) (fun _ hk => hk.2) (.int .i64 t181)) (fun _ hk => ⟨hk.1.1, hk.1.2⟩)⟩, ⟨by (with_reducible repeat (first | apply Ra_ | apply Rn_ | apply Rd_)); exact Kd.R_mono (Kd.R_far (p := ⟨go31, (((rd_T26 l0 a2_0).f2) : Int).toNat, none⟩) (Kd.R_types HO2_3.out GG31.out (by decide)) (fun _ hk => hk.2) (.int .i64 t181)) (fun _ hk => hk.1)⟩, ⟨by (with_reducible repeat (first | refine on_ ?_ _ | refine od_ ?_ | refine oa_ ?_ _)); refine blk_far ?_ (by have h_ := Kd.R_ne HO2_1.out BK175.out (by decide); intro e_; exact h_ (by rw [e_]; rfl)) _; (with_reducible repeat (first | refine on_ ?_ _ | refine od_ ?_ | refine oa_ ?_ _)); exact BK175.out⟩, ⟨by (with_reducible repeat (first | refine on_ ?_ _ | refine od_ ?_ | refine oa_ ?_ _)); refine blk_far ?_ (by have h_ := Kd.R_ne HO2_1.out BK176.out (by decide); intro e_; exact h_ (by rw [e_]; rfl)) _; (with_reducible repeat (first | refine on_ ?_ _ | refine od_ ?_ | refine oa_ ?_ _)); exact BK176.out⟩, ⟨by (with_reducible repeat (first | refine on_ ?_ _ | refine od_ ?_ | refine oa_ ?_ _)); refine blk_far ?_ (by have h_ := Kd.R_ne HO2_1.out BK178.out (by decide); intro e_; exact h_ (by rw [e_]; rfl)) _; (with_reducible repeat (first | refine on_ ?_ _ | refine od_ ?_ | refine oa_ ?_ _)); exact BK178.out⟩, ⟨by repeat (first | (with_reducible first | exact HK.out | apply Kept.alloc | apply Kept.drewN | apply Kept.drew | refine Kept.setCell ?_ HMgo31.out _ | refine Kept.setCell ?_ (.inr GW175.out) _ | refine Kept.setCell ?_ (.inr GW176.out) _ | refine Kept.setCell ?_ (.inr GW178.out) _) | exact HK.out)⟩, ⟨by repeat (first | (with_reducible first | exact HB.out | apply ba_ | apply bn_ | apply bd_ | refine bs_ ?_ GB31.out | refine bs_ ?_ GE175.out | refine bs_ ?_ GE176.out | refine bs_ ?_ GE178.out) | exact HB.out)⟩⟩
        rw [if_neg c29] at H
        have c29b0 : (((rd_T26 l0 a2_0).f0) == 1) = false := beq_eq_false_iff_ne.mpr c29
        have c29b1 : (((rd_T26 l0 a2_0).f0) != 1) = true := bne_iff_ne.mpr c29
        by_cases c35 : ((rd_T26 l0 a2_0).f0) = 2
        ·rw [if_pos c35] at H
         have c35b0 : (((rd_T26 l0 a2_0).f0) == 2) = true := beq_iff_eq.mpr c35
         have c35b1 : (((rd_T26 l0 a2_0).f0) != 2) = false := bne_eq_false_iff_eq.mpr c35
         clear c35
         replace H := Option.bind_eq_some_iff.mp H
         obtain ⟨t183, A360, H⟩ := H
         (try dsimp only at H)
         have A36 := Aside0.mk A360
         clear A360
         obtain ⟨y184, hy184⟩ : ∃ y_ : List Int, y_ = (l2_1.set (((rd_T26 l0 a2_0).f2) : Int).toNat t183) := ⟨_, rfl⟩
         replace H : (spec_l3Do.j2 k (wrap64 (a2_0 + 1)) (rd l2_1 ((rd_T26 l0 a2_0).f2)) (rd l2_1 ((rd_T26 l0 a2_0).f3)) a2_0 y184 l2_2 l2_3 ((rd_T26 l0 a2_0).f0) ((rd_T26 l0 a2_0).f1) ((rd_T26 l0 a2_0).f2) ((rd_T26 l0 a2_0).f3) ((rd_T26 l0 a2_0).f4) ((rd_T26 l0 a2_0).f5)) = some (r1, r2, r3, r4, r5, r6) := by first | (rw [hy184]; with_reducible exact H) | (have H2_ := (Option.bind_some _ _).symm.trans H; rw [hy184]; with_reducible exact H2_) | (have H2_ := (Option.bind_some _ _).symm.trans H; with_reducible exact H2_) | with_reducible exact H | (rw [hy184]; exact H) | exact H
         have Ny184 := Aside0.mk hy184
         clear hy184
         have H' := Aside0.mk H
         clear H
         try go_wp2
         have n0_ : Aside0 (Kd.R (Kd.int .i64) 3 ((((((w18.setCell ⟨gb178, 0, none⟩ (.int .i64 ((rd_T26 l0 a2_0).f0))).setCell ⟨gb178, 1, none⟩ (.int .i64 ((rd_T26 l0 a2_0).f1))).setCell ⟨gb178, 2, none⟩ (.int .i64 ((rd_T26 l0 a2_0).f2))).setCell ⟨gb178, 3, none⟩ (.int .i64 ((rd_T26 l0 a2_0).f3))).setCell ⟨gb178, 4, none⟩ (.int .i64 ((rd_T26 l0 a2_0).f4))).setCell ⟨gb178, 5, none⟩ (.int .i64 ((rd_T26 l0 a2_0).f5))) w0.heap.size (fun k_ => ((P2_1_ k_ ∨ P2_2_ k_ ∨ P2_3_ k_) ∨ w.heap.size ≤ k_) ∧ some k_ ≠ (.slice Ao12 l2_2.length co12 : Value).ownBlock) (.slice (some ad179) l2_1.length co11) l2_1) := ⟨by (with_reducible repeat (first | apply Ra_ | apply Rn_ | apply Rd_)); exact Kd.R_mono (Kd.R_far (p := ⟨gb178, 5, none⟩) (Kd.R_far (p := ⟨gb178, 4, none⟩) (Kd.R_far (p := ⟨gb178, 3, none⟩) (Kd.R_far (p := ⟨gb178, 2, none⟩) (Kd.R_far (p := ⟨gb178, 1, none⟩) (Kd.R_far (p := ⟨gb178, 0, none⟩) (Kd.R_types HO2_1.out BK178.out (by decide)) (fun _ hk => hk.2) (.int .i64 ((rd_T26 l0 a2_0).f0))) (fun _ hk => hk.2) (.int .i64 ((rd_T26 l0 a2_0).f1))) (fun _ hk => hk.2) (.int .i64 ((rd_T26 l0 a2_0).f2))) (fun _ hk => hk.2) (.int .i64 ((rd_T26 l0 a2_0).f3))) (fun _ hk => hk.2) (.int .i64 ((rd_T26 l0 a2_0).f4))) (fun _ hk => hk.2) (.int .i64 ((rd_T26 l0 a2_0).f5))) (fun _ hk => ⟨hk.1.1, hk.1.2⟩)⟩
         have n1_ : Aside0 (Kd.R (Kd.int .i64) 3 ((((((w18.setCell ⟨gb178, 0, none⟩ (.int .i64 ((rd_T26 l0 a2_0).f0))).setCell ⟨gb178, 1, none⟩ (.int .i64 ((rd_T26 l0 a2_0).f1))).setCell ⟨gb178, 2, none⟩ (.int .i64 ((rd_T26 l0 a2_0).f2))).setCell ⟨gb178, 3, none⟩ (.int .i64 ((rd_T26 l0 a2_0).f3))).setCell ⟨gb178, 4, none⟩ (.int .i64 ((rd_T26 l0 a2_0).f4))).setCell ⟨gb178, 5, none⟩ (.int .i64 ((rd_T26 l0 a2_0).f5))) w0.heap.size (fun k_ => ((P2_1_ k_ ∨ P2_2_ k_ ∨ P2_3_ k_) ∨ w.heap.size ≤ k_) ∧ some k_ ≠ (.slice (some ad179) l2_1.length co11 : Value).ownBlock) (.slice Ao12 l2_2.length co12) l2_2) := ⟨by (with_reducible repeat (first | apply Ra_ | apply Rn_ | apply Rd_)); exact Kd.R_mono (Kd.R_far (p := ⟨gb178, 5, none⟩) (Kd.R_far (p := ⟨gb178, 4, none⟩) (Kd.R_far (p := ⟨gb178, 3, none⟩) (Kd.R_far (p := ⟨gb178, 2, none⟩) (Kd.R_far (p := ⟨gb178, 1, none⟩) (Kd.R_far (p := ⟨gb178, 0, none⟩) (Kd.R_types HO2_2.out BK178.out (by decide)) (fun _ hk => hk.2) (.int .i64 ((rd_T26 l0 a2_0).f0))) (fun _ hk => hk.2) (.int .i64 ((rd_T26 l0 a2_0).f1))) (fun _ hk => hk.2) (.int .i64 ((rd_T26 l0 a2_0).f2))) (fun _ hk => hk.2) (.int .i64 ((rd_T26 l0 a2_0).f3))) (fun _ hk => hk.2) (.int .i64 ((rd_T26 l0 a2_0).f4))) (fun _ hk => hk.2) (.int .i64 ((rd_T26 l0 a2_0).f5))) (fun _ hk => ⟨hk.1.1, hk.1.2⟩)⟩
         have n2_ : Aside0 (Kd.R Kd.bool 4 ((((((w18.setCell ⟨gb178, 0, none⟩ (.int .i64 ((rd_T26 l0 a2_0).f0))).setCell ⟨gb178, 1, none⟩ (.int .i64 ((rd_T26 l0 a2_0).f1))).setCell ⟨gb178, 2, none⟩ (.int .i64 ((rd_T26 l0 a2_0).f2))).setCell ⟨gb178, 3, none⟩ (.int .i64 ((rd_T26 l0 a2_0).f3))).setCell ⟨gb178, 4, none⟩ (.int .i64 ((rd_T26 l0 a2_0).f4))).setCell ⟨gb178, 5, none⟩ (.int .i64 ((rd_T26 l0 a2_0).f5))) w0.heap.size (fun k_ => ((P2_1_ k_ ∨ P2_2_ k_ ∨ P2_3_ k_) ∨ w.heap.size ≤ k_)) (.slice Ao13 l2_3.length co13) l2_3) := ⟨by (with_reducible repeat (first | apply Ra_ | apply Rn_ | apply Rd_)); exact Kd.R_mono (Kd.R_far (p := ⟨gb178, 5, none⟩) (Kd.R_far (p := ⟨gb178, 4, none⟩) (Kd.R_far (p := ⟨gb178, 3, none⟩) (Kd.R_far (p := ⟨gb178, 2, none⟩) (Kd.R_far (p := ⟨gb178, 1, none⟩) (Kd.R_far (p := ⟨gb178, 0, none⟩) (Kd.R_types HO2_3.out BK178.out (by decide)) (fun _ hk => hk.2) (.int .i64 ((rd_T26 l0 a2_0).f0))) (fun _ hk => hk.2) (.int .i64 ((rd_T26 l0 a2_0).f1))) (fun _ hk => hk.2) (.int .i64 ((rd_T26 l0 a2_0).f2))) (fun _ hk => hk.2) (.int .i64 ((rd_T26 l0 a2_0).f3))) (fun _ hk => hk.2) (.int .i64 ((rd_T26 l0 a2_0).f4))) (fun _ hk => hk.2) (.int .i64 ((rd_T26 l0 a2_0).f5))) (fun _ hk => hk.1)⟩
         have n3_ : Aside0 (((((((w18.setCell ⟨gb178, 0, none⟩ (.int .i64 ((rd_T26 l0 a2_0).f0))).setCell ⟨gb178, 1, none⟩ (.int .i64 ((rd_T26 l0 a2_0).f1))).setCell ⟨gb178, 2, none⟩ (.int .i64 ((rd_T26 l0 a2_0).f2))).setCell ⟨gb178, 3, none⟩ (.int .i64 ((rd_T26 l0 a2_0).f3))).setCell ⟨gb178, 4, none⟩ (.int .i64 ((rd_T26 l0 a2_0).f4))).setCell ⟨gb178, 5, none⟩ (.int .i64 ((rd_T26 l0 a2_0).f5))).heap[gb175]? = some (.cells #[.int .i64 a2_0, .slice (some ad179) l2_1.length co11, .slice Ao12 l2_2.length co12, .slice Ao13 l2_3.length co13] 116 (0, 0))) := ⟨by (with_reducible repeat (first | refine on_ ?_ _ | refine od_ ?_ | refine oa_ ?_ _)); refine blk_far ?_ NB175_178.out _; refine blk_far ?_ NB175_178.out _; refine blk_far ?_ NB175_178.out _; refine blk_far ?_ NB175_178.out _; refine blk_far ?_ NB175_178.out _; refine blk_far ?_ NB175_178.out _; (with_reducible repeat (first | refine on_ ?_ _ | refine od_ ?_ | refine oa_ ?_ _)); exact BK175.out⟩
         have n4_ : Aside0 (((((((w18.setCell ⟨gb178, 0, none⟩ (.int .i64 ((rd_T26 l0 a2_0).f0))).setCell ⟨gb178, 1, none⟩ (.int .i64 ((rd_T26 l0 a2_0).f1))).setCell ⟨gb178, 2, none⟩ (.int .i64 ((rd_T26 l0 a2_0).f2))).setCell ⟨gb178, 3, none⟩ (.int .i64 ((rd_T26 l0 a2_0).f3))).setCell ⟨gb178, 4, none⟩ (.int .i64 ((rd_T26 l0 a2_0).f4))).setCell ⟨gb178, 5, none⟩ (.int .i64 ((rd_T26 l0 a2_0).f5))).heap[gb176]? = some (.cells #[.int .i64 0, .slice none 0 0, .slice none 0 0, .slice none 0 0] 116 (0, 0))) := ⟨by (with_reducible repeat (first | refine on_ ?_ _ | refine od_ ?_ | refine oa_ ?_ _)); refine blk_far ?_ NB176_178.out _; refine blk_far ?_ NB176_178.out _; refine blk_far ?_ NB176_178.out _; refine blk_far ?_ NB176_178.out _; refine blk_far ?_ NB176_178.out _; refine blk_far ?_ NB176_178.out _; (with_reducible repeat (first | refine on_ ?_ _ | refine od_ ?_ | refine oa_ ?_ _)); exact BK176.out⟩
         have n5_ : Aside0 (((((((w18.setCell ⟨gb178, 0, none⟩ (.int .i64 ((rd_T26 l0 a2_0).f0))).setCell ⟨gb178, 1, none⟩ (.int .i64 ((rd_T26 l0 a2_0).f1))).setCell ⟨gb178, 2, none⟩ (.int .i64 ((rd_T26 l0 a2_0).f2))).setCell ⟨gb178, 3, none⟩ (.int .i64 ((rd_T26 l0 a2_0).f3))).setCell ⟨gb178, 4, none⟩ (.int .i64 ((rd_T26 l0 a2_0).f4))).setCell ⟨gb178, 5, none⟩ (.int .i64 ((rd_T26 l0 a2_0).f5))).heap[gb178]? = some (.cells #[.int .i64 ((rd_T26 l0 a2_0).f0), .int .i64 ((rd_T26 l0 a2_0).f1), .int .i64 ((rd_T26 l0 a2_0).f2), .int .i64 ((rd_T26 l0 a2_0).f3), .int .i64 ((rd_T26 l0 a2_0).f4), .int .i64 ((rd_T26 l0 a2_0).f5)] 26 (0, 0))) := ⟨by (with_reducible repeat (first | refine on_ ?_ _ | refine od_ ?_ | refine oa_ ?_ _)); refine blk_put (cs := #[.int .i64 ((rd_T26 l0 a2_0).f0), .int .i64 ((rd_T26 l0 a2_0).f1), .int .i64 ((rd_T26 l0 a2_0).f2), .int .i64 ((rd_T26 l0 a2_0).f3), .int .i64 ((rd_T26 l0 a2_0).f4), .int .i64 0]) ?_ 5 _ rfl; refine blk_put (cs := #[.int .i64 ((rd_T26 l0 a2_0).f0), .int .i64 ((rd_T26 l0 a2_0).f1), .int .i64 ((rd_T26 l0 a2_0).f2), .int .i64 ((rd_T26 l0 a2_0).f3), .int .i64 0, .int .i64 0]) ?_ 4 _ rfl; refine blk_put (cs := #[.int .i64 ((rd_T26 l0 a2_0).f0), .int .i64 ((rd_T26 l0 a2_0).f1), .int .i64 ((rd_T26 l0 a2_0).f2), .int .i64 0, .int .i64 0, .int .i64 0]) ?_ 3 _ rfl; refine blk_put (cs := #[.int .i64 ((rd_T26 l0 a2_0).f0), .int .i64 ((rd_T26 l0 a2_0).f1), .int .i64 0, .int .i64 0, .int .i64 0, .int .i64 0]) ?_ 2 _ rfl; refine blk_put (cs := #[.int .i64 ((rd_T26 l0 a2_0).f0), .int .i64 0, .int .i64 0, .int .i64 0, .int .i64 0, .int .i64 0]) ?_ 1 _ rfl; refine blk_put (cs := #[.int .i64 0, .int .i64 0, .int .i64 0, .int .i64 0, .int .i64 0, .int .i64 0]) ?_ 0 _ rfl; (with_reducible repeat (first | refine on_ ?_ _ | refine od_ ?_ | refine oa_ ?_ _)); exact BK178.out⟩
         have n6_ : Aside0 (Kept w ((((((w18.setCell ⟨gb178, 0, none⟩ (.int .i64 ((rd_T26 l0 a2_0).f0))).setCell ⟨gb178, 1, none⟩ (.int .i64 ((rd_T26 l0 a2_0).f1))).setCell ⟨gb178, 2, none⟩ (.int .i64 ((rd_T26 l0 a2_0).f2))).setCell ⟨gb178, 3, none⟩ (.int .i64 ((rd_T26 l0 a2_0).f3))).setCell ⟨gb178, 4, none⟩ (.int .i64 ((rd_T26 l0 a2_0).f4))).setCell ⟨gb178, 5, none⟩ (.int .i64 ((rd_T26 l0 a2_0).f5))) (fun k_ => P2_1_ k_ ∨ P2_2_ k_ ∨ P2_3_ k_)) := ⟨by repeat (first | (with_reducible first | exact HK.out | apply Kept.alloc | apply Kept.drewN | apply Kept.drew | refine Kept.setCell ?_ (.inr GW175.out) _ | refine Kept.setCell ?_ (.inr GW176.out) _ | refine Kept.setCell ?_ (.inr GW178.out) _) | exact HK.out)⟩
         have n7_ : Aside0 (Below w0.heap.size w0 ((((((w18.setCell ⟨gb178, 0, none⟩ (.int .i64 ((rd_T26 l0 a2_0).f0))).setCell ⟨gb178, 1, none⟩ (.int .i64 ((rd_T26 l0 a2_0).f1))).setCell ⟨gb178, 2, none⟩ (.int .i64 ((rd_T26 l0 a2_0).f2))).setCell ⟨gb178, 3, none⟩ (.int .i64 ((rd_T26 l0 a2_0).f3))).setCell ⟨gb178, 4, none⟩ (.int .i64 ((rd_T26 l0 a2_0).f4))).setCell ⟨gb178, 5, none⟩ (.int .i64 ((rd_T26 l0 a2_0).f5)))) := ⟨by repeat (first | (with_reducible first | exact HB.out | apply ba_ | apply bn_ | apply bd_ | refine bs_ ?_ GE175.out | refine bs_ ?_ GE176.out | refine bs_ ?_ GE178.out) | exact HB.out)⟩
         (try clear HO2_1)
         (try clear HO2_2)
         (try clear HO2_3)
         (try clear BK175)
         (try clear BK176)
         (try clear BK178)
         (try clear HK)
         (try clear HB)
         generalize ((((((w18.setCell ⟨gb178, 0, none⟩ (.int .i64 ((rd_T26 l0 a2_0).f0))).setCell ⟨gb178, 1, none⟩ (.int .i64 ((rd_T26 l0 a2_0).f1))).setCell ⟨gb178, 2, none⟩ (.int .i64 ((rd_T26 l0 a2_0).f2))).setCell ⟨gb178, 3, none⟩ (.int .i64 ((rd_T26 l0 a2_0).f3))).setCell ⟨gb178, 4, none⟩ (.int .i64 ((rd_T26 l0 a2_0).f4))).setCell ⟨gb178, 5, none⟩ (.int .i64 ((rd_T26 l0 a2_0).f5))) = w38 at n0_ n1_ n2_ n3_ n4_ n5_ n6_ n7_ ⊢
         have HO2_1 := n0_
         have HO2_2 := n1_
         have HO2_3 := n2_
         have BK175 := n3_
         have BK176 := n4_
         have BK178 := n5_
         have HK := n6_
         have HB := n7_
         clear n0_ n1_ n2_ n3_ n4_ n5_ n6_ n7_
         have n0_ := Aside0.mk (Kd.R_drew HO2_1.out)
         have n1_ := Aside0.mk (Kd.R_drew HO2_2.out)
         have n2_ := Aside0.mk (Kd.R_drew HO2_3.out)
         have n3_ := Aside0.mk (blk_drew BK175.out)
         have n4_ := Aside0.mk (blk_drew BK176.out)
         have n5_ := Aside0.mk (blk_drew BK178.out)
         have n6_ := Aside0.mk (Kept.drew HK.out)
         have n7_ := Aside0.mk (below_drew1 HB.out)
         clear HO2_1
         clear HO2_2
         clear HO2_3
         clear BK175
         clear BK176
         clear BK178
         clear HK
         clear HB
         have HO2_1 := n0_
         have HO2_2 := n1_
         have HO2_3 := n2_
         have BK175 := n3_
         have BK176 := n4_
         have BK178 := n5_
         have HK := n6_
         have HB := n7_
         clear n0_ n1_ n2_ n3_ n4_ n5_ n6_ n7_
         refine start_ (n := 12) (S := fun w' => w'.cell? ⟨gb175, 0, none⟩ = some (.int .i64 a2_0) ∧ w'.cell? ⟨gb175, 1, none⟩ = some (.slice (some ad179) l2_1.length co11) ∧ w'.cell? ⟨gb175, 2, none⟩ = some (.slice Ao12 l2_2.length co12) ∧ w'.cell? ⟨gb175, 3, none⟩ = some (.slice Ao13 l2_3.length co13) ∧ w'.cell? ⟨gb178, 0, none⟩ = some (.int .i64 ((rd_T26 l0 a2_0).f0)) ∧ w'.cell? ⟨gb178, 1, none⟩ = some (.int .i64 ((rd_T26 l0 a2_0).f1)) ∧ w'.cell? ⟨gb178, 2, none⟩ = some (.int .i64 ((rd_T26 l0 a2_0).f2)) ∧ w'.cell? ⟨gb178, 3, none⟩ = some (.int .i64 ((rd_T26 l0 a2_0).f3)) ∧ w'.cell? ⟨gb178, 4, none⟩ = some (.int .i64 ((rd_T26 l0 a2_0).f4)) ∧ w'.cell? ⟨gb178, 5, none⟩ = some (.int .i64 ((rd_T26 l0 a2_0).f5))) (ds := [11]) #[false, false, false, false, false, false, false, false, false, false, false, false] (by kernel_rfl) rfl rfl ⟨(blk_cell BK175.out 0).trans rfl, (blk_cell BK175.out 1).trans rfl, (blk_cell BK175.out 2).trans rfl, (blk_cell BK175.out 3).trans rfl, (blk_cell BK178.out 0).trans rfl, (blk_cell BK178.out 1).trans rfl, (blk_cell BK178.out 2).trans rfl, (blk_cell BK178.out 3).trans rfl, (blk_cell BK178.out 4).trans rfl, (blk_cell BK178.out 5).trans rfl⟩ (fun hHeld => ?_); refine with_tabW spec_l3Do.tab11 spec_l3Do.bits11 (fun HT_ HW_ => ?_)
         generalize w38.drew = w39 at HO2_1 HO2_2 HO2_3 BK175 BK176 BK178 HK HB hHeld ⊢
         refine pz_ 0 (some 52) (v := ?_) (a' := ?_) (any_of HT_.out (by kernel_rfl)) rfl rfl (fun _ _ _ h => h) (by rfl) ?_ ?_ ?_;rotate_left;intro w';go_simp;with_reducible rfl;rotate_left;simp only [Act.put, yy_];rfl
         refine pz_ 2 (some 54) (v := ?_) (a' := ?_) (any_of HT_.out (by kernel_rfl)) rfl rfl (fun _ _ _ h => h) (by rfl) ?_ ?_ ?_;rotate_left;intro w';go_simp;with_reducible rfl;rotate_left;simp only [Act.put, yy_];rfl
         refine pz_ 4 (some 56) (v := ?_) (a' := ?_) (any_of HT_.out (by kernel_rfl)) rfl rfl (fun _ _ _ h => h) (by rfl) ?_ ?_ ?_;rotate_left;intro w';go_simp;with_reducible rfl;rotate_left;simp only [Act.put, yy_];rfl
         refine pz_ 6 (some 58) (v := ?_) (a' := ?_) (any_of HT_.out (by kernel_rfl)) rfl rfl (fun _ _ _ h => h) (by rfl) ?_ ?_ ?_;rotate_left;intro w';go_simp;with_reducible rfl;rotate_left;simp only [Act.put, yy_];rfl
         refine pz_ 7 (some 59) (v := ?_) (a' := ?_) (any_of HT_.out (by kernel_rfl)) rfl rfl (fun _ _ _ h => h) (by rfl) ?_ ?_ ?_;rotate_left;intro w';go_simp;with_reducible rfl;rotate_left;simp only [Act.put, yy_];rfl
         refine tz_ 1 (some 53) (v := ?_) (a' := ?_) (take_ofW HT_.out HW_.out (by kernel_rfl)) rfl rfl (fun _ _ _ h => h) (by rfl) ?_ hHeld ?_ ?_;rotate_left;rintro w' ⟨s0, s1, s2, s3, s4, s5, s6, s7, s8, s9⟩;go_simp;with_reducible rfl;rotate_left;simp only [Act.put, yy_];rfl
         refine tz_ 3 (some 55) (v := ?_) (a' := ?_) (take_ofW HT_.out HW_.out (by kernel_rfl)) rfl rfl (fun _ _ _ h => h) (by rfl) ?_ hHeld ?_ ?_;rotate_left;rintro w' ⟨s0, s1, s2, s3, s4, s5, s6, s7, s8, s9⟩;go_simp;with_reducible rfl;rotate_left;simp only [Act.put, yy_];rfl
         refine tz_ 5 (some 57) (v := ?_) (a' := ?_) (take_ofW HT_.out HW_.out (by kernel_rfl)) rfl rfl (fun _ _ _ h => h) (by rfl) ?_ hHeld ?_ ?_;rotate_left;rintro w' ⟨s0, s1, s2, s3, s4, s5, s6, s7, s8, s9⟩;go_simp;with_reducible rfl;rotate_left;simp only [Act.put, yy_];rfl
         refine tz_ 8 (some 60) (v := ?_) (a' := ?_) (take_ofW HT_.out HW_.out (by kernel_rfl)) rfl rfl (fun _ _ _ h => h) (by rfl) ?_ hHeld ?_ ?_;rotate_left;rintro w' ⟨s0, s1, s2, s3, s4, s5, s6, s7, s8, s9⟩;go_simp;with_reducible rfl;rotate_left;simp only [Act.put, yy_];rfl
         refine one_ (i := 9) (N := some 61) #[true, true, true, true, true, true, true, true, true, true, false, false] rfl rfl (one_of HT_.out (by kernel_rfl)) (by decide) (fun K hK => ?_)
         refine goes_ Try.func101 (by kernel_rfl) rfl #[.int .i64 ((rd_T26 l0 a2_0).f1), .int .i64 (rd l2_1 ((rd_T26 l0 a2_0).f2)), .int .i64 ((rd_T26 l0 a2_0).f4)] (by rfl) rfl rfl (by simp only [zA_, zB_, zD_] <;> rfl) ?_
         with_reducible refine (spec_l1Do.calls ((rd_T26 l0 a2_0).f1) (rd l2_1 ((rd_T26 l0 a2_0).f2)) ((rd_T26 l0 a2_0).f4) t183 _ A36.out).mono ?_
         rintro e w' ⟨rfl, ⟨nd, rfl⟩⟩
         refine ⟨_, rfl, ?_⟩
         have p37 : 0 ≤ (((rd_T26 l0 a2_0).f2) : Int) := dt_
         have q37 : (((rd_T26 l0 a2_0).f2) : Int) < ((l2_1.length : Int) : Int) := dt_
         obtain ⟨go37, co37, eo37, gb37, gl37, cl37, HG37⟩ := Kd.R_form HO2_1.out (by omega)
         (first | cases eo37 | (injection eo37 with ea_ en_ ec_; (first | subst ea_ | (injection ea_ with ea_; subst ea_)); subst ec_; clear en_))
         have GB37 := Aside0.mk gb37
         have GG37 := Aside0.mk HG37
         clear gb37 gl37 HG37
         have HMgo37 := Aside0.mk (show ((P2_1_ go37 ∨ P2_2_ go37 ∨ P2_3_ go37) ∨ w.heap.size ≤ go37) from (HO2_1.out.1 _ rfl).1)
         obtain ⟨hx37_0, hf37_0⟩ := Kd.R_celln 0 HO2_1.out (((rd_T26 l0 a2_0).f2) : Int) p37 q37
         replace p37 := eq_true p37
         replace q37 := eq_true q37
         have HP40 := Kd.R_putn HO2_1.out (((rd_T26 l0 a2_0).f2) : Int) t183
         rw [← Ny184.out] at HP40
         have HQ40 := Aside0.mk HP40
         clear HP40
         refine hK.out _ _ ⟨(blk_cell BK175.out 0).trans rfl, (blk_cell BK175.out 1).trans rfl, (blk_cell BK175.out 2).trans rfl, (blk_cell BK175.out 3).trans rfl, (blk_cell BK178.out 0).trans rfl, (blk_cell BK178.out 1).trans rfl, (blk_cell BK178.out 2).trans rfl, (blk_cell BK178.out 3).trans rfl, (blk_cell BK178.out 4).trans rfl, (blk_cell BK178.out 5).trans rfl⟩ (fun hHeld => ?_)
         clear hK K
         refine norm_ (a' := ?_) ?_ ?_
         rotate_left
         ·show Act.put _ (some 61) _ = _
          simp only [Act.put, yy_]
          rfl
         refine pz_ 10 (some 62) (v := ?_) (a' := ?_) (any_of HT_.out (by kernel_rfl)) rfl rfl (fun _ _ _ h => h) (by rfl) ?_ ?_ ?_;rotate_left;intro w';go_simp;with_reducible rfl;rotate_left;simp only [Act.put, yy_];rfl
         refine last_ (i := 11) (N := none) #[true, true, true, true, true, true, true, true, true, true, true, true] rfl rfl (one_of HT_.out (by kernel_rfl)) (by decide) (fun K hK => ?_)
         refine skip_ (w1 := ?_) (by rfl) rfl ?_ ?_
         rotate_left
         ·go_simp
          rfl
         refine hK.out _ _ ?_
         clear hK K
         refine done_ (done_of HT_.out (by kernel_rfl)) ?_
         try go_wp2
         go_meet
         case rel => exact ⟨_, (y184), (l2_2), (l2_3), (0), (.slice (some ⟨go37, 0, none⟩) l2_1.length co11), (.slice Ao12 l2_2.length co12), (.slice Ao13 l2_3.length co13), H', ⟨by first | omega | exact Nat.le_refl _⟩, ⟨zR_ HQ40.out⟩, ⟨by (with_reducible repeat (first | apply Ra_ | apply Rn_ | apply Rd_)); exact Kd.R_mono (Kd.R_far (p := ⟨go37, (((rd_T26 l0 a2_0).f2) : Int).toNat, none⟩) (Kd.R_mono HO2_2.out (fun k_ hk => (⟨hk, fun e_ => hk.2 (by rw [e_]; rfl)⟩ : _ ∧ k_ ≠ go37))) (fun _ hk => hk.2) (.int .i64 t183)) (fun _ hk => ⟨hk.1.1, hk.1.2⟩)⟩, ⟨by (with_reducible repeat (first | apply Ra_ | apply Rn_ | apply Rd_)); exact Kd.R_mono (Kd.R_far (p := ⟨go37, (((rd_T26 l0 a2_0).f2) : Int).toNat, none⟩) (Kd.R_types HO2_3.out GG37.out (by decide)) (fun _ hk => hk.2) (.int .i64 t183)) (fun _ hk => hk.1)⟩, ⟨by (with_reducible repeat (first | refine on_ ?_ _ | refine od_ ?_ | refine oa_ ?_ _)); refine blk_far ?_ (by have h_ := Kd.R_ne HO2_1.out BK175.out (by decide); intro e_; exact h_ (by rw [e_]; rfl)) _; (with_reducible repeat (first | refine on_ ?_ _ | refine od_ ?_ | refine oa_ ?_ _)); exact BK175.out⟩, ⟨by (with_reducible repeat (first | refine on_ ?_ _ | refine od_ ?_ | refine oa_ ?_ _)); refine blk_far ?_ (by have h_ := Kd.R_ne HO2_1.out BK176.out (by decide); intro e_; exact h_ (by rw [e_]; rfl)) _; (with_reducible repeat (first | refine on_ ?_ _ | refine od_ ?_ | refine oa_ ?_ _)); exact BK176.out⟩, ⟨by (with_reducible repeat (first | refine on_ ?_ _ | refine od_ ?_ | refine oa_ ?_ _)); refine blk_far ?_ (by have h_ := Kd.R_ne HO2_1.out BK178.out (by decide); intro e_; exact h_ (by rw [e_]; rfl)) _; (with_reducible repeat (first | refine on_ ?_ _ | refine od_ ?_ | refine oa_ ?_ _)); exact BK178.out⟩, ⟨by repeat (first | (with_reducible first | exact HK.out | apply Kept.alloc | apply Kept.drewN | apply Kept.drew | refine Kept.setCell ?_ HMgo37.out _ | refine Kept.setCell ?_ (.inr GW175.out) _ | refine Kept.setCell ?_ (.inr GW176.out) _ | refine Kept.setCell ?_ (.inr GW178.out) _) | exact HK.out)⟩, ⟨by repeat (first | (with_reducible first | exact HB.out | apply ba_ | apply bn_ | apply bd_ | refine bs_ ?_ GB37.out | refine bs_ ?_ GE175.out | refine bs_ ?_ GE176.out | refine bs_ ?_ GE178.out) | exact HB.out)⟩⟩
        rw [if_neg c35] at H
        have c35b0 : (((rd_T26 l0 a2_0).f0) == 2) = false := beq_eq_false_iff_ne.mpr c35
        have c35b1 : (((rd_T26 l0 a2_0).f0) != 2) = true := bne_iff_ne.mpr c35
        have HC41 := Aside0.mk H
        clear H
        go_upto_if 63 with (fail)
        go_cut [63] (fun v63 wc => ∃ (kq : Nat) (x63_40 : Bool), v63 = .bool x63_40 ∧ Aside0 (spec_l3Do.j0 kq l1 (wrap64 (a2_0 + 1)) (rd l2_1 ((rd_T26 l0 a2_0).f2)) (rd l2_1 ((rd_T26 l0 a2_0).f3)) ((rd_T26 l0 a2_0).f0) x63_40 a2_0 l2_1 l2_2 l2_3 ((rd_T26 l0 a2_0).f0) ((rd_T26 l0 a2_0).f1) ((rd_T26 l0 a2_0).f2) ((rd_T26 l0 a2_0).f3) ((rd_T26 l0 a2_0).f4) ((rd_T26 l0 a2_0).f5) = some (r1, r2, r3, r4, r5, r6)) ∧ Aside0 (kq ≤ k) ∧ Aside0 (Kd.R (Kd.int .i64) 3 wc w0.heap.size (fun k_ => ((P2_1_ k_ ∨ P2_2_ k_ ∨ P2_3_ k_) ∨ w.heap.size ≤ k_) ∧ some k_ ≠ ((.slice Ao12 l2_2.length co12) : Value).ownBlock) (.slice (some ad179) l2_1.length co11) l2_1) ∧ Aside0 (Kd.R (Kd.int .i64) 3 wc w0.heap.size (fun k_ => ((P2_1_ k_ ∨ P2_2_ k_ ∨ P2_3_ k_) ∨ w.heap.size ≤ k_) ∧ some k_ ≠ ((.slice (some ad179) l2_1.length co11) : Value).ownBlock) (.slice Ao12 l2_2.length co12) l2_2) ∧ Aside0 (Kd.R Kd.bool 4 wc w0.heap.size (fun k_ => ((P2_1_ k_ ∨ P2_2_ k_ ∨ P2_3_ k_) ∨ w.heap.size ≤ k_)) (.slice Ao13 l2_3.length co13) l2_3) ∧ Aside0 (wc.heap[gb175]? = some (.cells #[.int .i64 a2_0, (.slice (some ad179) l2_1.length co11), (.slice Ao12 l2_2.length co12), (.slice Ao13 l2_3.length co13)] 116 (0, 0))) ∧ Aside0 (wc.heap[gb176]? = some (.cells #[.int .i64 0, (.slice none 0 0), (.slice none 0 0), (.slice none 0 0)] 116 (0, 0))) ∧ Aside0 (wc.heap[gb178]? = some (.cells #[.int .i64 ((rd_T26 l0 a2_0).f0), .int .i64 ((rd_T26 l0 a2_0).f1), .int .i64 ((rd_T26 l0 a2_0).f2), .int .i64 ((rd_T26 l0 a2_0).f3), .int .i64 ((rd_T26 l0 a2_0).f4), .int .i64 ((rd_T26 l0 a2_0).f5)] 26 (0, 0))) ∧ Aside0 (Kept w wc (fun k_ => P2_1_ k_ ∨ P2_2_ k_ ∨ P2_3_ k_)) ∧ Aside0 (Below w0.heap.size w0 wc))
        case first =>
         have H := HC41.out
         clear HC41
         by_cases c42 : ((rd_T26 l0 a2_0).f0) = 3
         ·rw [if_pos c42] at H
          have c42b0 : (((rd_T26 l0 a2_0).f0) == 3) = true := beq_iff_eq.mpr c42
          have c42b1 : (((rd_T26 l0 a2_0).f0) != 3) = false := bne_eq_false_iff_eq.mpr c42
          clear c42
          (first | rw [c42b0] | (simp only [i64_w, i32_w]; rw [c42b0]) | skip)
          have H' := Aside0.mk H
          clear H
          go_wp2
          go_meet
          case rel => exact ⟨_, ((((rd_T26 l0 a2_0).f0) == 3)), (by first | rfl | (simp; done) | (simp [*]; done)), H', ⟨by first | omega | exact Nat.le_refl _⟩, ⟨by (with_reducible repeat (first | apply Ra_ | apply Rn_ | apply Rd_)); exact Kd.R_mono (Kd.R_far (p := ⟨gb178, 5, none⟩) (Kd.R_far (p := ⟨gb178, 4, none⟩) (Kd.R_far (p := ⟨gb178, 3, none⟩) (Kd.R_far (p := ⟨gb178, 2, none⟩) (Kd.R_far (p := ⟨gb178, 1, none⟩) (Kd.R_far (p := ⟨gb178, 0, none⟩) (Kd.R_types HO2_1.out BK178.out (by decide)) (fun _ hk => hk.2) (.int .i64 ((rd_T26 l0 a2_0).f0))) (fun _ hk => hk.2) (.int .i64 ((rd_T26 l0 a2_0).f1))) (fun _ hk => hk.2) (.int .i64 ((rd_T26 l0 a2_0).f2))) (fun _ hk => hk.2) (.int .i64 ((rd_T26 l0 a2_0).f3))) (fun _ hk => hk.2) (.int .i64 ((rd_T26 l0 a2_0).f4))) (fun _ hk => hk.2) (.int .i64 ((rd_T26 l0 a2_0).f5))) (fun _ hk => ⟨hk.1.1, hk.1.2⟩)⟩, ⟨by (with_reducible repeat (first | apply Ra_ | apply Rn_ | apply Rd_)); exact Kd.R_mono (Kd.R_far (p := ⟨gb178, 5, none⟩) (Kd.R_far (p := ⟨gb178, 4, none⟩) (Kd.R_far (p := ⟨gb178, 3, none⟩) (Kd.R_far (p := ⟨gb178, 2, none⟩) (Kd.R_far (p := ⟨gb178, 1, none⟩) (Kd.R_far (p := ⟨gb178, 0, none⟩) (Kd.R_types HO2_2.out BK178.out (by decide)) (fun _ hk => hk.2) (.int .i64 ((rd_T26 l0 a2_0).f0))) (fun _ hk => hk.2) (.int .i64 ((rd_T26 l0 a2_0).f1))) (fun _ hk => hk.2) (.int .i64 ((rd_T26 l0 a2_0).f2))) (fun _ hk => hk.2) (.int .i64 ((rd_T26 l0 a2_0).f3))) (fun _ hk => hk.2) (.int .i64 ((rd_T26 l0 a2_0).f4))) (fun _ hk => hk.2) (.int .i64 ((rd_T26 l0 a2_0).f5))) (fun _ hk => ⟨hk.1.1, hk.1.2⟩)⟩, ⟨by (with_reducible repeat (first | apply Ra_ | apply Rn_ | apply Rd_)); exact Kd.R_mono (Kd.R_far (p := ⟨gb178, 5, none⟩) (Kd.R_far (p := ⟨gb178, 4, none⟩) (Kd.R_far (p := ⟨gb178, 3, none⟩) (Kd.R_far (p := ⟨gb178, 2, none⟩) (Kd.R_far (p := ⟨gb178, 1, none⟩) (Kd.R_far (p := ⟨gb178, 0, none⟩) (Kd.R_types HO2_3.out BK178.out (by decide)) (fun _ hk => hk.2) (.int .i64 ((rd_T26 l0 a2_0).f0))) (fun _ hk => hk.2) (.int .i64 ((rd_T26 l0 a2_0).f1))) (fun _ hk => hk.2) (.int .i64 ((rd_T26 l0 a2_0).f2))) (fun _ hk => hk.2) (.int .i64 ((rd_T26 l0 a2_0).f3))) (fun _ hk => hk.2) (.int .i64 ((rd_T26 l0 a2_0).f4))) (fun _ hk => hk.2) (.int .i64 ((rd_T26 l0 a2_0).f5))) (fun _ hk => hk.1)⟩, ⟨by (with_reducible repeat (first | refine on_ ?_ _ | refine od_ ?_ | refine oa_ ?_ _)); refine blk_far ?_ NB175_178.out _; refine blk_far ?_ NB175_178.out _; refine blk_far ?_ NB175_178.out _; refine blk_far ?_ NB175_178.out _; refine blk_far ?_ NB175_178.out _; refine blk_far ?_ NB175_178.out _; (with_reducible repeat (first | refine on_ ?_ _ | refine od_ ?_ | refine oa_ ?_ _)); exact BK175.out⟩, ⟨by (with_reducible repeat (first | refine on_ ?_ _ | refine od_ ?_ | refine oa_ ?_ _)); refine blk_far ?_ NB176_178.out _; refine blk_far ?_ NB176_178.out _; refine blk_far ?_ NB176_178.out _; refine blk_far ?_ NB176_178.out _; refine blk_far ?_ NB176_178.out _; refine blk_far ?_ NB176_178.out _; (with_reducible repeat (first | refine on_ ?_ _ | refine od_ ?_ | refine oa_ ?_ _)); exact BK176.out⟩, ⟨by (with_reducible repeat (first | refine on_ ?_ _ | refine od_ ?_ | refine oa_ ?_ _)); refine blk_put (cs := #[.int .i64 ((rd_T26 l0 a2_0).f0), .int .i64 ((rd_T26 l0 a2_0).f1), .int .i64 ((rd_T26 l0 a2_0).f2), .int .i64 ((rd_T26 l0 a2_0).f3), .int .i64 ((rd_T26 l0 a2_0).f4), .int .i64 0]) ?_ 5 _ rfl; refine blk_put (cs := #[.int .i64 ((rd_T26 l0 a2_0).f0), .int .i64 ((rd_T26 l0 a2_0).f1), .int .i64 ((rd_T26 l0 a2_0).f2), .int .i64 ((rd_T26 l0 a2_0).f3), .int .i64 0, .int .i64 0]) ?_ 4 _ rfl; refine blk_put (cs := #[.int .i64 ((rd_T26 l0 a2_0).f0), .int .i64 ((rd_T26 l0 a2_0).f1), .int .i64 ((rd_T26 l0 a2_0).f2), .int .i64 0, .int .i64 0, .int .i64 0]) ?_ 3 _ rfl; refine blk_put (cs := #[.int .i64 ((rd_T26 l0 a2_0).f0), .int .i64 ((rd_T26 l0 a2_0).f1), .int .i64 0, .int .i64 0, .int .i64 0, .int .i64 0]) ?_ 2 _ rfl; refine blk_put (cs := #[.int .i64 ((rd_T26 l0 a2_0).f0), .int .i64 0, .int .i64 0, .int .i64 0, .int .i64 0, .int .i64 0]) ?_ 1 _ rfl; refine blk_put (cs := #[.int .i64 0, .int .i64 0, .int .i64 0, .int .i64 0, .int .i64 0, .int .i64 0]) ?_ 0 _ rfl; (with_reducible repeat (first | refine on_ ?_ _ | refine od_ ?_ | refine oa_ ?_ _)); exact BK178.out⟩, ⟨by repeat (first | (with_reducible first | exact HK.out | apply Kept.alloc | apply Kept.drewN | apply Kept.drew | refine Kept.setCell ?_ (.inr GW175.out) _ | refine Kept.setCell ?_ (.inr GW176.out) _ | refine Kept.setCell ?_ (.inr GW178.out) _) | exact HK.out)⟩, ⟨by repeat (first | (with_reducible first | exact HB.out | apply ba_ | apply bn_ | apply bd_ | refine bs_ ?_ GE175.out | refine bs_ ?_ GE176.out | refine bs_ ?_ GE178.out) | exact HB.out)⟩⟩
         rw [if_neg c42] at H
         have c42b0 : (((rd_T26 l0 a2_0).f0) == 3) = false := beq_eq_false_iff_ne.mpr c42
         have c42b1 : (((rd_T26 l0 a2_0).f0) != 3) = true := bne_iff_ne.mpr c42
         (first | rw [c42b0] | (simp only [i64_w, i32_w]; rw [c42b0]) | skip)
         have H' := Aside0.mk H
         clear H
         go_wp2
         go_meet
         case rel => exact ⟨_, ((((rd_T26 l0 a2_0).f0) == 4)), (by first | rfl | (simp; done) | (simp [*]; done)), H', ⟨by first | omega | exact Nat.le_refl _⟩, ⟨by (with_reducible repeat (first | apply Ra_ | apply Rn_ | apply Rd_)); exact Kd.R_mono (Kd.R_far (p := ⟨gb178, 5, none⟩) (Kd.R_far (p := ⟨gb178, 4, none⟩) (Kd.R_far (p := ⟨gb178, 3, none⟩) (Kd.R_far (p := ⟨gb178, 2, none⟩) (Kd.R_far (p := ⟨gb178, 1, none⟩) (Kd.R_far (p := ⟨gb178, 0, none⟩) (Kd.R_types HO2_1.out BK178.out (by decide)) (fun _ hk => hk.2) (.int .i64 ((rd_T26 l0 a2_0).f0))) (fun _ hk => hk.2) (.int .i64 ((rd_T26 l0 a2_0).f1))) (fun _ hk => hk.2) (.int .i64 ((rd_T26 l0 a2_0).f2))) (fun _ hk => hk.2) (.int .i64 ((rd_T26 l0 a2_0).f3))) (fun _ hk => hk.2) (.int .i64 ((rd_T26 l0 a2_0).f4))) (fun _ hk => hk.2) (.int .i64 ((rd_T26 l0 a2_0).f5))) (fun _ hk => ⟨hk.1.1, hk.1.2⟩)⟩, ⟨by (with_reducible repeat (first | apply Ra_ | apply Rn_ | apply Rd_)); exact Kd.R_mono (Kd.R_far (p := ⟨gb178, 5, none⟩) (Kd.R_far (p := ⟨gb178, 4, none⟩) (Kd.R_far (p := ⟨gb178, 3, none⟩) (Kd.R_far (p := ⟨gb178, 2, none⟩) (Kd.R_far (p := ⟨gb178, 1, none⟩) (Kd.R_far (p := ⟨gb178, 0, none⟩) (Kd.R_types HO2_2.out BK178.out (by decide)) (fun _ hk => hk.2) (.int .i64 ((rd_T26 l0 a2_0).f0))) (fun _ hk => hk.2) (.int .i64 ((rd_T26 l0 a2_0).f1))) (fun _ hk => hk.2) (.int .i64 ((rd_T26 l0 a2_0).f2))) (fun _ hk => hk.2) (.int .i64 ((rd_T26 l0 a2_0).f3))) (fun _ hk => hk.2) (.int .i64 ((rd_T26 l0 a2_0).f4))) (fun _ hk => hk.2) (.int .i64 ((rd_T26 l0 a2_0).f5))) (fun _ hk => ⟨hk.1.1, hk.1.2⟩)⟩, ⟨by (with_reducible repeat (first | apply Ra_ | apply Rn_ | apply Rd_)); exact Kd.R_mono (Kd.R_far (p := ⟨gb178, 5, none⟩) (Kd.R_far (p := ⟨gb178, 4, none⟩) (Kd.R_far (p := ⟨gb178, 3, none⟩) (Kd.R_far (p := ⟨gb178, 2, none⟩) (Kd.R_far (p := ⟨gb178, 1, none⟩) (Kd.R_far (p := ⟨gb178, 0, none⟩) (Kd.R_types HO2_3.out BK178.out (by decide)) (fun _ hk => hk.2) (.int .i64 ((rd_T26 l0 a2_0).f0))) (fun _ hk => hk.2) (.int .i64 ((rd_T26 l0 a2_0).f1))) (fun _ hk => hk.2) (.int .i64 ((rd_T26 l0 a2_0).f2))) (fun _ hk => hk.2) (.int .i64 ((rd_T26 l0 a2_0).f3))) (fun _ hk => hk.2) (.int .i64 ((rd_T26 l0 a2_0).f4))) (fun _ hk => hk.2) (.int .i64 ((rd_T26 l0 a2_0).f5))) (fun _ hk => hk.1)⟩, ⟨by (with_reducible repeat (first | refine on_ ?_ _ | refine od_ ?_ | refine oa_ ?_ _)); refine blk_far ?_ NB175_178.out _; refine blk_far ?_ NB175_178.out _; refine blk_far ?_ NB175_178.out _; refine blk_far ?_ NB175_178.out _; refine blk_far ?_ NB175_178.out _; refine blk_far ?_ NB175_178.out _; (with_reducible repeat (first | refine on_ ?_ _ | refine od_ ?_ | refine oa_ ?_ _)); exact BK175.out⟩, ⟨by (with_reducible repeat (first | refine on_ ?_ _ | refine od_ ?_ | refine oa_ ?_ _)); refine blk_far ?_ NB176_178.out _; refine blk_far ?_ NB176_178.out _; refine blk_far ?_ NB176_178.out _; refine blk_far ?_ NB176_178.out _; refine blk_far ?_ NB176_178.out _; refine blk_far ?_ NB176_178.out _; (with_reducible repeat (first | refine on_ ?_ _ | refine od_ ?_ | refine oa_ ?_ _)); exact BK176.out⟩, ⟨by (with_reducible repeat (first | refine on_ ?_ _ | refine od_ ?_ | refine oa_ ?_ _)); refine blk_put (cs := #[.int .i64 ((rd_T26 l0 a2_0).f0), .int .i64 ((rd_T26 l0 a2_0).f1), .int .i64 ((rd_T26 l0 a2_0).f2), .int .i64 ((rd_T26 l0 a2_0).f3), .int .i64 ((rd_T26 l0 a2_0).f4), .int .i64 0]) ?_ 5 _ rfl; refine blk_put (cs := #[.int .i64 ((rd_T26 l0 a2_0).f0), .int .i64 ((rd_T26 l0 a2_0).f1), .int .i64 ((rd_T26 l0 a2_0).f2), .int .i64 ((rd_T26 l0 a2_0).f3), .int .i64 0, .int .i64 0]) ?_ 4 _ rfl; refine blk_put (cs := #[.int .i64 ((rd_T26 l0 a2_0).f0), .int .i64 ((rd_T26 l0 a2_0).f1), .int .i64 ((rd_T26 l0 a2_0).f2), .int .i64 0, .int .i64 0, .int .i64 0]) ?_ 3 _ rfl; refine blk_put (cs := #[.int .i64 ((rd_T26 l0 a2_0).f0), .int .i64 ((rd_T26 l0 a2_0).f1), .int .i64 0, .int .i64 0, .int .i64 0, .int .i64 0]) ?_ 2 _ rfl; refine blk_put (cs := #[.int .i64 ((rd_T26 l0 a2_0).f0), .int .i64 0, .int .i64 0, .int .i64 0, .int .i64 0, .int .i64 0]) ?_ 1 _ rfl; refine blk_put (cs := #[.int .i64 0, .int .i64 0, .int .i64 0, .int .i64 0, .int .i64 0, .int .i64 0]) ?_ 0 _ rfl; (with_reducible repeat (first | refine on_ ?_ _ | refine od_ ?_ | refine oa_ ?_ _)); exact BK178.out⟩, ⟨by repeat (first | (with_reducible first | exact HK.out | apply Kept.alloc | apply Kept.drewN | apply Kept.drew | refine Kept.setCell ?_ (.inr GW175.out) _ | refine Kept.setCell ?_ (.inr GW176.out) _ | refine Kept.setCell ?_ (.inr GW178.out) _) | exact HK.out)⟩, ⟨by repeat (first | (with_reducible first | exact HB.out | apply ba_ | apply bn_ | apply bd_ | refine bs_ ?_ GE175.out | refine bs_ ?_ GE176.out | refine bs_ ?_ GE178.out) | exact HB.out)⟩⟩
        case rest =>
         clear HC41
         obtain ⟨kq, x63_40, rfl, HA, HJ40, HO_176001, HO_176002, HO_176003, BK175, BK176, BK178, HK, HB⟩ := hcut
         cases kq with
         | zero => exact absurd HA.out (by simp [spec_l3Do.j0])
         | succ kj40 =>
          have H := HA.out
          clear HA
          simp only [spec_l3Do.j0] at H
          by_cases c43 : x63_40 = true
          ·subst c43
           have H1 : (if 0 ≤ ((rd_T26 l0 a2_0).f2) then (if ((rd_T26 l0 a2_0).f2) < (l2_1.length : Int) then (spec_l3Do.j2 kj40 (wrap64 (a2_0 + 1)) (rd l2_1 ((rd_T26 l0 a2_0).f2)) (rd l2_1 ((rd_T26 l0 a2_0).f3)) a2_0 (l2_1.set (((rd_T26 l0 a2_0).f2) : Int).toNat ((rd_T26 l0 a2_0).f4)) l2_2 l2_3 ((rd_T26 l0 a2_0).f0) ((rd_T26 l0 a2_0).f1) ((rd_T26 l0 a2_0).f2) ((rd_T26 l0 a2_0).f3) ((rd_T26 l0 a2_0).f4) ((rd_T26 l0 a2_0).f5)) else (none)) else (none)) = some (r1, r2, r3, r4, r5, r6) := by rw [if_pos rfl] at H; exact H
           clear H
           have H := H1
           clear H1
           by_cases c44 : 0 ≤ ((rd_T26 l0 a2_0).f2)
           ·rw [if_pos c44] at H
            have c44b0 : decide (0 ≤ ((rd_T26 l0 a2_0).f2)) = true := decide_eq_true c44
            clear c44
            by_cases c45 : ((rd_T26 l0 a2_0).f2) < (l2_1.length : Int)
            ·rw [if_pos c45] at H
             have c45b0 : decide (((rd_T26 l0 a2_0).f2) < (l2_1.length : Int)) = true := decide_eq_true c45
             clear c45
             obtain ⟨y185, hy185⟩ : ∃ y_ : List Int, y_ = (l2_1.set (((rd_T26 l0 a2_0).f2) : Int).toNat ((rd_T26 l0 a2_0).f4)) := ⟨_, rfl⟩
             replace H : (spec_l3Do.j2 kj40 (wrap64 (a2_0 + 1)) (rd l2_1 ((rd_T26 l0 a2_0).f2)) (rd l2_1 ((rd_T26 l0 a2_0).f3)) a2_0 y185 l2_2 l2_3 ((rd_T26 l0 a2_0).f0) ((rd_T26 l0 a2_0).f1) ((rd_T26 l0 a2_0).f2) ((rd_T26 l0 a2_0).f3) ((rd_T26 l0 a2_0).f4) ((rd_T26 l0 a2_0).f5)) = some (r1, r2, r3, r4, r5, r6) := by first | (rw [hy185]; with_reducible exact H) | (have H2_ := (Option.bind_some _ _).symm.trans H; rw [hy185]; with_reducible exact H2_) | (have H2_ := (Option.bind_some _ _).symm.trans H; with_reducible exact H2_) | with_reducible exact H | (rw [hy185]; exact H) | exact H
             have Ny185 := Aside0.mk hy185
             clear hy185
             have H' := Aside0.mk H
             clear H
             have hnb47 := NB175_176.out
             have hnc47 := NB176_175.out
             have hnb48 := NB175_178.out
             have hnc48 := NB178_175.out
             have hcz49_0 : wc.cell? ⟨gb175, 0, none⟩ = some (.int .i64 a2_0) := (blk_cell BK175.out 0).trans rfl
             have hcz49_1 : wc.cell? ⟨gb175, 1, none⟩ = some (.slice (some ad179) l2_1.length co11) := (blk_cell BK175.out 1).trans rfl
             have hcz49_2 : wc.cell? ⟨gb175, 2, none⟩ = some (.slice Ao12 l2_2.length co12) := (blk_cell BK175.out 2).trans rfl
             have hcz49_3 : wc.cell? ⟨gb175, 3, none⟩ = some (.slice Ao13 l2_3.length co13) := (blk_cell BK175.out 3).trans rfl
             have hfz49_0 := blk_frozen BK175.out 0
             have hfz49_1 := blk_frozen BK175.out 1
             have hfz49_2 := blk_frozen BK175.out 2
             have hfz49_3 := blk_frozen BK175.out 3
             have hnb50 := NB178_176.out
             have hnc50 := NB176_178.out
             have hcz51_0 : wc.cell? ⟨gb178, 0, none⟩ = some (.int .i64 ((rd_T26 l0 a2_0).f0)) := (blk_cell BK178.out 0).trans rfl
             have hcz51_1 : wc.cell? ⟨gb178, 1, none⟩ = some (.int .i64 ((rd_T26 l0 a2_0).f1)) := (blk_cell BK178.out 1).trans rfl
             have hcz51_2 : wc.cell? ⟨gb178, 2, none⟩ = some (.int .i64 ((rd_T26 l0 a2_0).f2)) := (blk_cell BK178.out 2).trans rfl
             have hcz51_3 : wc.cell? ⟨gb178, 3, none⟩ = some (.int .i64 ((rd_T26 l0 a2_0).f3)) := (blk_cell BK178.out 3).trans rfl
             have hcz51_4 : wc.cell? ⟨gb178, 4, none⟩ = some (.int .i64 ((rd_T26 l0 a2_0).f4)) := (blk_cell BK178.out 4).trans rfl
             have hcz51_5 : wc.cell? ⟨gb178, 5, none⟩ = some (.int .i64 ((rd_T26 l0 a2_0).f5)) := (blk_cell BK178.out 5).trans rfl
             have hfz51_0 := blk_frozen BK178.out 0
             have hfz51_1 := blk_frozen BK178.out 1
             have hfz51_2 := blk_frozen BK178.out 2
             have hfz51_3 := blk_frozen BK178.out 3
             have hfz51_4 := blk_frozen BK178.out 4
             have hfz51_5 := blk_frozen BK178.out 5
             have p46 : 0 ≤ (((rd_T26 l0 a2_0).f2) : Int) := dt_
             have q46 : (((rd_T26 l0 a2_0).f2) : Int) < ((l2_1.length : Int) : Int) := dt_
             obtain ⟨go46, co46, eo46, gb46, gl46, cl46, HG46⟩ := Kd.R_form HO_176001.out (by omega)
             (first | cases eo46 | (injection eo46 with ea_ en_ ec_; (first | subst ea_ | (injection ea_ with ea_; subst ea_)); subst ec_; clear en_))
             have GB46 := Aside0.mk gb46
             have GG46 := Aside0.mk HG46
             clear gb46 gl46 HG46
             have HMgo46 := Aside0.mk (show ((P2_1_ go46 ∨ P2_2_ go46 ∨ P2_3_ go46) ∨ w.heap.size ≤ go46) from (HO_176001.out.1 _ rfl).1)
             obtain ⟨hx46_0, hf46_0⟩ := Kd.R_celln 0 HO_176001.out (((rd_T26 l0 a2_0).f2) : Int) p46 q46
             replace p46 := eq_true p46
             replace q46 := eq_true q46
             have HP52 := Kd.R_putg HO_176001.out (((rd_T26 l0 a2_0).f2) : Int) ((rd_T26 l0 a2_0).f4)
             go_wp2_with (first | ((with_reducible refine gate_store (t := 3) (p := 72) rfl ?_); refine store_event (t := 3) (p := 72) (v := ?vo_w53) (w1 := (wc.setCell ⟨go46, (((rd_T26 l0 a2_0).f2) : Int).toNat, none⟩ (.int .i64 ((rd_T26 l0 a2_0).f4)))) ?hg ?ho ?hn ?hr ?_; (case ho => rfl); (case hg => rfl); (case hn => rfl); (case hr => first | (go_simp; done) | (go_simp; rfl)); intro w53 hw; have hg : wc.grownBy w53 (some go46) := (by rw [hw]; exact HP52.2); have hp_ : Kd.R (Kd.int .i64) 3 w53 w0.heap.size (fun k_ => ((P2_1_ k_ ∨ P2_2_ k_ ∨ P2_3_ k_) ∨ w.heap.size ≤ k_) ∧ some k_ ≠ (.slice Ao12 l2_2.length co12 : Value).ownBlock) (.slice (some ⟨go46, 0, none⟩) l2_1.length co11) y185 := (by rw [hw, Ny185.out]; exact HP52.1); clear HP52; have n0_ := Aside0.mk (hp_); have n1_ := Aside0.mk (Kd.R_after (v := (.slice (some ⟨go46, 0, none⟩) l2_1.length co11)) (v1 := (.slice (some ⟨go46, 0, none⟩) l2_1.length co11)) (ok := (fun k_ => ((P2_1_ k_ ∨ P2_2_ k_ ∨ P2_3_ k_) ∨ w.heap.size ≤ k_))) (zR_ HO_176002.out) hg (.inl rfl)); have n2_ := Aside0.mk (Kd.R_over' (v := (.slice (some ⟨go46, 0, none⟩) l2_1.length co11)) (zR_ HO_176003.out) (Kd.R_typed HO_176001.out) (by decide) hg); have n3_ := Aside0.mk (blk_grown (g := gb175) (o := .cells #[.int .i64 a2_0, .slice (some ⟨go46, 0, none⟩) l2_1.length co11, .slice Ao12 l2_2.length co12, .slice Ao13 l2_3.length co13] 116 (0, 0)) (zO_ BK175.out) hg (Kd.R_ne HO_176001.out BK175.out (by decide))); have n4_ := Aside0.mk (blk_grown (g := gb176) (o := .cells #[.int .i64 0, .slice none 0 0, .slice none 0 0, .slice none 0 0] 116 (0, 0)) (zO_ BK176.out) hg (Kd.R_ne HO_176001.out BK176.out (by decide))); have n5_ := Aside0.mk (blk_grown (g := gb178) (o := .cells #[.int .i64 ((rd_T26 l0 a2_0).f0), .int .i64 ((rd_T26 l0 a2_0).f1), .int .i64 ((rd_T26 l0 a2_0).f2), .int .i64 ((rd_T26 l0 a2_0).f3), .int .i64 ((rd_T26 l0 a2_0).f4), .int .i64 ((rd_T26 l0 a2_0).f5)] 26 (0, 0)) (zO_ BK178.out) hg (Kd.R_ne HO_176001.out BK178.out (by decide))); have n6_ := Aside0.mk ((by rw [hw]; exact below_set (HB.out) GB46.out : Below w0.heap.size w0 w53)); have n7_ := Aside0.mk (Kept.of_grown (S := (fun k_ => P2_1_ k_ ∨ P2_2_ k_ ∨ P2_3_ k_)) hg (by repeat (first | (with_reducible first | exact HK.out | apply Kept.alloc | apply Kept.drewN | apply Kept.drew | refine Kept.setCell ?_ (.inr GW175.out) _ | refine Kept.setCell ?_ (.inr GW176.out) _ | refine Kept.setCell ?_ (.inr GW178.out) _) | exact HK.out)) (fun k_ e_ => (HO_176001.out.1 k_ e_).1)); clear HO_176001; clear HO_176002; clear HO_176003; clear BK175; clear BK176; clear BK178; clear HB; clear HK; have HO_176001 := n0_; have HO_176002 := n1_; have HO_176003 := n2_; have BK175 := n3_; have BK176 := n4_; have BK178 := n5_; have HB := n6_; have HK := n7_; clear n0_ n1_ n2_ n3_ n4_ n5_ n6_ n7_; clear hg hw hp_))
             go_meet
             case rel => exact ⟨_, (y185), (l2_2), (l2_3), (0), (.slice (some ⟨go46, 0, none⟩) l2_1.length co11), (.slice Ao12 l2_2.length co12), (.slice Ao13 l2_3.length co13), H', ⟨by have := HJ40.out; first | omega | exact Nat.le_refl _⟩, ⟨zR_ HO_176001.out⟩, ⟨zR_ HO_176002.out⟩, ⟨zR_ HO_176003.out⟩, ⟨zO_ BK175.out⟩, ⟨zO_ BK176.out⟩, ⟨zO_ BK178.out⟩, ⟨by repeat (first | (with_reducible first | exact HK.out | apply Kept.alloc | apply Kept.drewN | apply Kept.drew | refine Kept.setCell ?_ (.inr GW175.out) _ | refine Kept.setCell ?_ (.inr GW176.out) _ | refine Kept.setCell ?_ (.inr GW178.out) _) | exact HK.out)⟩, ⟨by repeat (first | (with_reducible first | exact HB.out | apply ba_ | apply bn_ | apply bd_ | refine bs_ ?_ GE175.out | refine bs_ ?_ GE176.out | refine bs_ ?_ GE178.out) | exact HB.out)⟩⟩
            rw [if_neg c45] at H
            exact absurd H (by simp)
           rw [if_neg c44] at H
           exact absurd H (by simp)
          ·replace c43 := Bool.eq_false_iff.mpr c43
           subst c43
           have H1 : (if ((rd_T26 l0 a2_0).f0) = 5 then (if (wrap64 ((rd l2_1 ((rd_T26 l0 a2_0).f3)) + ((rd_T26 l0 a2_0).f4))) ≥ 8 then (some (a2_0, l2_1, l2_2, l2_3, 1, false)) else (if 0 ≤ (wrap64 ((rd l2_1 ((rd_T26 l0 a2_0).f3)) + ((rd_T26 l0 a2_0).f4))) then (if (wrap64 ((rd l2_1 ((rd_T26 l0 a2_0).f3)) + ((rd_T26 l0 a2_0).f4))) < (l1.length : Int) then (if 0 ≤ ((rd_T26 l0 a2_0).f2) then (if ((rd_T26 l0 a2_0).f2) < (l2_1.length : Int) then (spec_l3Do.j2 kj40 (wrap64 (a2_0 + 1)) (rd l2_1 ((rd_T26 l0 a2_0).f2)) (rd l2_1 ((rd_T26 l0 a2_0).f3)) a2_0 (l2_1.set (((rd_T26 l0 a2_0).f2) : Int).toNat (rd l1 (wrap64 ((rd l2_1 ((rd_T26 l0 a2_0).f3)) + ((rd_T26 l0 a2_0).f4))))) l2_2 l2_3 ((rd_T26 l0 a2_0).f0) ((rd_T26 l0 a2_0).f1) ((rd_T26 l0 a2_0).f2) ((rd_T26 l0 a2_0).f3) ((rd_T26 l0 a2_0).f4) ((rd_T26 l0 a2_0).f5)) else (none)) else (none)) else (none)) else (none))) else (if ((rd_T26 l0 a2_0).f0) = 7 then (spec_l3Do.j1 kj40 (wrap64 (a2_0 + 1)) (rd l2_1 ((rd_T26 l0 a2_0).f2)) (rd l2_1 ((rd_T26 l0 a2_0).f3)) (((rd_T26 l0 a2_0).f0) == 7) a2_0 l2_1 l2_2 l2_3 ((rd_T26 l0 a2_0).f0) ((rd_T26 l0 a2_0).f1) ((rd_T26 l0 a2_0).f2) ((rd_T26 l0 a2_0).f3) ((rd_T26 l0 a2_0).f4) ((rd_T26 l0 a2_0).f5)) else (spec_l3Do.j1 kj40 (wrap64 (a2_0 + 1)) (rd l2_1 ((rd_T26 l0 a2_0).f2)) (rd l2_1 ((rd_T26 l0 a2_0).f3)) (((rd_T26 l0 a2_0).f0) == 6) a2_0 l2_1 l2_2 l2_3 ((rd_T26 l0 a2_0).f0) ((rd_T26 l0 a2_0).f1) ((rd_T26 l0 a2_0).f2) ((rd_T26 l0 a2_0).f3) ((rd_T26 l0 a2_0).f4) ((rd_T26 l0 a2_0).f5)))) = some (r1, r2, r3, r4, r5, r6) := by rw [if_neg (show ¬ (false = true) by decide)] at H; exact H
           clear H
           have H := H1
           clear H1
           by_cases c54 : ((rd_T26 l0 a2_0).f0) = 5
           ·rw [if_pos c54] at H
            have c54b0 : (((rd_T26 l0 a2_0).f0) == 5) = true := beq_iff_eq.mpr c54
            have c54b1 : (((rd_T26 l0 a2_0).f0) != 5) = false := bne_eq_false_iff_eq.mpr c54
            clear c54
            by_cases c55 : (wrap64 ((rd l2_1 ((rd_T26 l0 a2_0).f3)) + ((rd_T26 l0 a2_0).f4))) ≥ 8
            ·rw [if_pos c55] at H
             have c55b0 : decide (8 ≤ (wrap64 ((rd l2_1 ((rd_T26 l0 a2_0).f3)) + ((rd_T26 l0 a2_0).f4)))) = true := decide_eq_true c55
             clear c55
             simp only [Option.some.injEq, Prod.mk.injEq] at H
             obtain ⟨rfl, rfl, rfl, rfl, rfl, rfl⟩ := H
             have hnb56 := NB178_175.out
             have hnc56 := NB175_178.out
             have hnb57 := NB178_176.out
             have hnc57 := NB176_178.out
             have hcz58_0 : wc.cell? ⟨gb178, 0, none⟩ = some (.int .i64 ((rd_T26 l0 a2_0).f0)) := (blk_cell BK178.out 0).trans rfl
             have hcz58_1 : wc.cell? ⟨gb178, 1, none⟩ = some (.int .i64 ((rd_T26 l0 a2_0).f1)) := (blk_cell BK178.out 1).trans rfl
             have hcz58_2 : wc.cell? ⟨gb178, 2, none⟩ = some (.int .i64 ((rd_T26 l0 a2_0).f2)) := (blk_cell BK178.out 2).trans rfl
             have hcz58_3 : wc.cell? ⟨gb178, 3, none⟩ = some (.int .i64 ((rd_T26 l0 a2_0).f3)) := (blk_cell BK178.out 3).trans rfl
             have hcz58_4 : wc.cell? ⟨gb178, 4, none⟩ = some (.int .i64 ((rd_T26 l0 a2_0).f4)) := (blk_cell BK178.out 4).trans rfl
             have hcz58_5 : wc.cell? ⟨gb178, 5, none⟩ = some (.int .i64 ((rd_T26 l0 a2_0).f5)) := (blk_cell BK178.out 5).trans rfl
             have hfz58_0 := blk_frozen BK178.out 0
             have hfz58_1 := blk_frozen BK178.out 1
             have hfz58_2 := blk_frozen BK178.out 2
             have hfz58_3 := blk_frozen BK178.out 3
             have hfz58_4 := blk_frozen BK178.out 4
             have hfz58_5 := blk_frozen BK178.out 5
             have hnb59 := NB175_176.out
             have hnc59 := NB176_175.out
             have hcz60_0 : wc.cell? ⟨gb175, 0, none⟩ = some (.int .i64 a2_0) := (blk_cell BK175.out 0).trans rfl
             have hcz60_1 : wc.cell? ⟨gb175, 1, none⟩ = some (.slice (some ad179) l2_1.length co11) := (blk_cell BK175.out 1).trans rfl
             have hcz60_2 : wc.cell? ⟨gb175, 2, none⟩ = some (.slice Ao12 l2_2.length co12) := (blk_cell BK175.out 2).trans rfl
             have hcz60_3 : wc.cell? ⟨gb175, 3, none⟩ = some (.slice Ao13 l2_3.length co13) := (blk_cell BK175.out 3).trans rfl
             have hfz60_0 := blk_frozen BK175.out 0
             have hfz60_1 := blk_frozen BK175.out 1
             have hfz60_2 := blk_frozen BK175.out 2
             have hfz60_3 := blk_frozen BK175.out 3
             have hcz61_0 : wc.cell? ⟨gb176, 0, none⟩ = some (.int .i64 0) := (blk_cell BK176.out 0).trans rfl
             have hcz61_1 : wc.cell? ⟨gb176, 1, none⟩ = some (.slice none 0 0) := (blk_cell BK176.out 1).trans rfl
             have hcz61_2 : wc.cell? ⟨gb176, 2, none⟩ = some (.slice none 0 0) := (blk_cell BK176.out 2).trans rfl
             have hcz61_3 : wc.cell? ⟨gb176, 3, none⟩ = some (.slice none 0 0) := (blk_cell BK176.out 3).trans rfl
             have hfz61_0 := blk_frozen BK176.out 0
             have hfz61_1 := blk_frozen BK176.out 1
             have hfz61_2 := blk_frozen BK176.out 2
             have hfz61_3 := blk_frozen BK176.out 3
             go_wp2
             refine bodyPost_ret (results_ctt rfl _ _ gb176 116 #[.int .i64 a2_0, .slice (some ad179) l2_1.length co11, .slice Ao12 l2_2.length co12, .slice Ao13 l2_3.length co13] (0, 0) _ rfl (by (with_reducible repeat (first | refine on_ ?_ _ | refine od_ ?_ | refine oa_ ?_ _)); refine blk_put (cs := #[.int .i64 a2_0, .slice (some ad179) l2_1.length co11, .slice Ao12 l2_2.length co12, .slice none 0 0]) ?_ 3 _ rfl; refine blk_put (cs := #[.int .i64 a2_0, .slice (some ad179) l2_1.length co11, .slice none 0 0, .slice none 0 0]) ?_ 2 _ rfl; refine blk_put (cs := #[.int .i64 a2_0, .slice none 0 0, .slice none 0 0, .slice none 0 0]) ?_ 1 _ rfl; refine blk_put (cs := #[.int .i64 0, .slice none 0 0, .slice none 0 0, .slice none 0 0]) ?_ 0 _ rfl; (with_reducible repeat (first | refine on_ ?_ _ | refine od_ ?_ | refine oa_ ?_ _)); exact BK176.out) Try.underlying116 rfl (by kernel_rfl)) rfl ?_
             exact ⟨_, _, _, by first | rfl | (simp <;> rfl) | (simp [*] <;> rfl), by (with_reducible repeat (first | apply Ra_ | apply Rn_ | apply Rd_)); exact Kd.R_mono (Kd.R_far (p := ⟨gb176, 3, none⟩) (Kd.R_far (p := ⟨gb176, 2, none⟩) (Kd.R_far (p := ⟨gb176, 1, none⟩) (Kd.R_far (p := ⟨gb176, 0, none⟩) (Kd.R_types HO_176001.out BK176.out (by decide)) (fun _ hk => hk.2) (.int .i64 a2_0)) (fun _ hk => hk.2) (.slice (some ad179) l2_1.length co11)) (fun _ hk => hk.2) (.slice Ao12 l2_2.length co12)) (fun _ hk => hk.2) (.slice Ao13 l2_3.length co13)) (fun _ hk => ⟨hk.1.1, hk.1.2⟩), by (with_reducible repeat (first | apply Ra_ | apply Rn_ | apply Rd_)); exact Kd.R_mono (Kd.R_far (p := ⟨gb176, 3, none⟩) (Kd.R_far (p := ⟨gb176, 2, none⟩) (Kd.R_far (p := ⟨gb176, 1, none⟩) (Kd.R_far (p := ⟨gb176, 0, none⟩) (Kd.R_types HO_176002.out BK176.out (by decide)) (fun _ hk => hk.2) (.int .i64 a2_0)) (fun _ hk => hk.2) (.slice (some ad179) l2_1.length co11)) (fun _ hk => hk.2) (.slice Ao12 l2_2.length co12)) (fun _ hk => hk.2) (.slice Ao13 l2_3.length co13)) (fun _ hk => ⟨hk.1.1, hk.1.2⟩), by (with_reducible repeat (first | apply Ra_ | apply Rn_ | apply Rd_)); exact Kd.R_mono (Kd.R_far (p := ⟨gb176, 3, none⟩) (Kd.R_far (p := ⟨gb176, 2, none⟩) (Kd.R_far (p := ⟨gb176, 1, none⟩) (Kd.R_far (p := ⟨gb176, 0, none⟩) (Kd.R_types HO_176003.out BK176.out (by decide)) (fun _ hk => hk.2) (.int .i64 a2_0)) (fun _ hk => hk.2) (.slice (some ad179) l2_1.length co11)) (fun _ hk => hk.2) (.slice Ao12 l2_2.length co12)) (fun _ hk => hk.2) (.slice Ao13 l2_3.length co13)) (fun _ hk => hk.1), by repeat (first | (with_reducible first | exact HB.out | apply ba_ | apply bn_ | apply bd_ | refine bs_ ?_ GE175.out | refine bs_ ?_ GE176.out | refine bs_ ?_ GE178.out) | exact HB.out), by repeat (first | (with_reducible first | exact HK.out | apply Kept.alloc | apply Kept.drewN | apply Kept.drew | refine Kept.setCell ?_ (.inr GW175.out) _ | refine Kept.setCell ?_ (.inr GW176.out) _ | refine Kept.setCell ?_ (.inr GW178.out) _) | exact HK.out)⟩
            rw [if_neg c55] at H
            have c55b0 : decide (8 ≤ (wrap64 ((rd l2_1 ((rd_T26 l0 a2_0).f3)) + ((rd_T26 l0 a2_0).f4)))) = false := decide_eq_false c55
            clear c55
            obtain ⟨ji62, hji62⟩ : ∃ j_ : Int, (wrap64 ((rd l2_1 ((rd_T26 l0 a2_0).f3)) + ((rd_T26 l0 a2_0).f4))) = j_ := ⟨_, rfl⟩
            replace H : (if 0 ≤ (ji62) then (if (ji62) < (l1.length : Int) then (if 0 ≤ ((rd_T26 l0 a2_0).f2) then (if ((rd_T26 l0 a2_0).f2) < (l2_1.length : Int) then (spec_l3Do.j2 kj40 (wrap64 (a2_0 + 1)) (rd l2_1 ((rd_T26 l0 a2_0).f2)) (rd l2_1 ((rd_T26 l0 a2_0).f3)) a2_0 (l2_1.set (((rd_T26 l0 a2_0).f2) : Int).toNat (rd l1 (ji62))) l2_2 l2_3 ((rd_T26 l0 a2_0).f0) ((rd_T26 l0 a2_0).f1) ((rd_T26 l0 a2_0).f2) ((rd_T26 l0 a2_0).f3) ((rd_T26 l0 a2_0).f4) ((rd_T26 l0 a2_0).f5)) else (none)) else (none)) else (none)) else (none)) = some (r1, r2, r3, r4, r5, r6) := by first | (rw [hji62] at H; exact H) | (simp only [hji62] at H ⊢; exact H)
            (try rw [hji62] at c55b0)
            have hji62w : (IntKind.i64.wrap ((rd l2_1 ((rd_T26 l0 a2_0).f3)) + ((rd_T26 l0 a2_0).f4))) = ji62 := (i64_w _).trans hji62
            by_cases c63 : 0 ≤ (ji62)
            ·rw [if_pos c63] at H
             have c63b0 : decide (0 ≤ (ji62)) = true := decide_eq_true c63
             clear c63
             by_cases c64 : (ji62) < (l1.length : Int)
             ·rw [if_pos c64] at H
              have c64b0 : decide ((ji62) < (l1.length : Int)) = true := decide_eq_true c64
              clear c64
              by_cases c65 : 0 ≤ ((rd_T26 l0 a2_0).f2)
              ·rw [if_pos c65] at H
               have c65b0 : decide (0 ≤ ((rd_T26 l0 a2_0).f2)) = true := decide_eq_true c65
               clear c65
               by_cases c66 : ((rd_T26 l0 a2_0).f2) < (l2_1.length : Int)
               ·rw [if_pos c66] at H
                have c66b0 : decide (((rd_T26 l0 a2_0).f2) < (l2_1.length : Int)) = true := decide_eq_true c66
                clear c66
                obtain ⟨y187, hy187⟩ : ∃ y_ : List Int, y_ = (l2_1.set (((rd_T26 l0 a2_0).f2) : Int).toNat (rd l1 (ji62))) := ⟨_, rfl⟩
                replace H : (spec_l3Do.j2 kj40 (wrap64 (a2_0 + 1)) (rd l2_1 ((rd_T26 l0 a2_0).f2)) (rd l2_1 ((rd_T26 l0 a2_0).f3)) a2_0 y187 l2_2 l2_3 ((rd_T26 l0 a2_0).f0) ((rd_T26 l0 a2_0).f1) ((rd_T26 l0 a2_0).f2) ((rd_T26 l0 a2_0).f3) ((rd_T26 l0 a2_0).f4) ((rd_T26 l0 a2_0).f5)) = some (r1, r2, r3, r4, r5, r6) := by first | (rw [hy187]; with_reducible exact H) | (have H2_ := (Option.bind_some _ _).symm.trans H; rw [hy187]; with_reducible exact H2_) | (have H2_ := (Option.bind_some _ _).symm.trans H; with_reducible exact H2_) | with_reducible exact H | (rw [hy187]; exact H) | exact H
                have Ny187 := Aside0.mk hy187
                clear hy187
                have H' := Aside0.mk H
                clear H
                have hnb68 := NB178_175.out
                have hnc68 := NB175_178.out
                have hnb69 := NB178_176.out
                have hnc69 := NB176_178.out
                have hcz70_0 : wc.cell? ⟨gb178, 0, none⟩ = some (.int .i64 ((rd_T26 l0 a2_0).f0)) := (blk_cell BK178.out 0).trans rfl
                have hcz70_1 : wc.cell? ⟨gb178, 1, none⟩ = some (.int .i64 ((rd_T26 l0 a2_0).f1)) := (blk_cell BK178.out 1).trans rfl
                have hcz70_2 : wc.cell? ⟨gb178, 2, none⟩ = some (.int .i64 ((rd_T26 l0 a2_0).f2)) := (blk_cell BK178.out 2).trans rfl
                have hcz70_3 : wc.cell? ⟨gb178, 3, none⟩ = some (.int .i64 ((rd_T26 l0 a2_0).f3)) := (blk_cell BK178.out 3).trans rfl
                have hcz70_4 : wc.cell? ⟨gb178, 4, none⟩ = some (.int .i64 ((rd_T26 l0 a2_0).f4)) := (blk_cell BK178.out 4).trans rfl
                have hcz70_5 : wc.cell? ⟨gb178, 5, none⟩ = some (.int .i64 ((rd_T26 l0 a2_0).f5)) := (blk_cell BK178.out 5).trans rfl
                have hfz70_0 := blk_frozen BK178.out 0
                have hfz70_1 := blk_frozen BK178.out 1
                have hfz70_2 := blk_frozen BK178.out 2
                have hfz70_3 := blk_frozen BK178.out 3
                have hfz70_4 := blk_frozen BK178.out 4
                have hfz70_5 := blk_frozen BK178.out 5
                try go_wp2
                have n0_ := Aside0.mk (Kd.R_drew HO_176001.out)
                have n1_ := Aside0.mk (Kd.R_drew HO_176002.out)
                have n2_ := Aside0.mk (Kd.R_drew HO_176003.out)
                have n3_ := Aside0.mk (blk_drew BK175.out)
                have n4_ := Aside0.mk (blk_drew BK176.out)
                have n5_ := Aside0.mk (blk_drew BK178.out)
                have n6_ := Aside0.mk (Kept.drew HK.out)
                have n7_ := Aside0.mk (below_drew1 HB.out)
                clear HO_176001
                clear HO_176002
                clear HO_176003
                clear BK175
                clear BK176
                clear BK178
                clear HK
                clear HB
                have HO_176001 := n0_
                have HO_176002 := n1_
                have HO_176003 := n2_
                have BK175 := n3_
                have BK176 := n4_
                have BK178 := n5_
                have HK := n6_
                have HB := n7_
                clear n0_ n1_ n2_ n3_ n4_ n5_ n6_ n7_
                have p186 : 0 ≤ ((ji62) : Int) := dt_
                have q186 : (ji62) < (l1.length : Int) := dt_
                obtain ⟨ad186, e186, hx186_0⟩ := Kd.at_int (Kd.C_kept_now HR1.out HK.out) (ji62) p186 q186
                have hw186_0 := hx186_0
                cases e186
                replace p186 := eq_true p186
                replace q186 := eq_true q186
                have p67 : 0 ≤ (((rd_T26 l0 a2_0).f2) : Int) := dt_
                have q67 : (((rd_T26 l0 a2_0).f2) : Int) < ((l2_1.length : Int) : Int) := dt_
                obtain ⟨go67, co67, eo67, gb67, gl67, cl67, HG67⟩ := Kd.R_form HO_176001.out (by omega)
                (first | cases eo67 | (injection eo67 with ea_ en_ ec_; (first | subst ea_ | (injection ea_ with ea_; subst ea_)); subst ec_; clear en_))
                have GB67 := Aside0.mk gb67
                have GG67 := Aside0.mk HG67
                clear gb67 gl67 HG67
                have HMgo67 := Aside0.mk (show ((P2_1_ go67 ∨ P2_2_ go67 ∨ P2_3_ go67) ∨ w.heap.size ≤ go67) from (HO_176001.out.1 _ rfl).1)
                obtain ⟨hx67_0, hf67_0⟩ := Kd.R_celln 0 HO_176001.out (((rd_T26 l0 a2_0).f2) : Int) p67 q67
                replace p67 := eq_true p67
                replace q67 := eq_true q67
                have HP72 := Kd.R_putn HO_176001.out (((rd_T26 l0 a2_0).f2) : Int) (rd l1 (ji62))
                rw [← Ny187.out] at HP72
                have HQ72 := Aside0.mk HP72
                clear HP72
                refine start_ (n := 13) (S := fun w' => w'.cell? ⟨gb175, 0, none⟩ = some (.int .i64 a2_0) ∧ w'.cell? ⟨gb175, 1, none⟩ = some (.slice (some ⟨go67, 0, none⟩) l2_1.length co11) ∧ w'.cell? ⟨gb175, 2, none⟩ = some (.slice Ao12 l2_2.length co12) ∧ w'.cell? ⟨gb175, 3, none⟩ = some (.slice Ao13 l2_3.length co13) ∧ w'.cell? ⟨gb178, 0, none⟩ = some (.int .i64 ((rd_T26 l0 a2_0).f0)) ∧ w'.cell? ⟨gb178, 1, none⟩ = some (.int .i64 ((rd_T26 l0 a2_0).f1)) ∧ w'.cell? ⟨gb178, 2, none⟩ = some (.int .i64 ((rd_T26 l0 a2_0).f2)) ∧ w'.cell? ⟨gb178, 3, none⟩ = some (.int .i64 ((rd_T26 l0 a2_0).f3)) ∧ w'.cell? ⟨gb178, 4, none⟩ = some (.int .i64 ((rd_T26 l0 a2_0).f4)) ∧ w'.cell? ⟨gb178, 5, none⟩ = some (.int .i64 ((rd_T26 l0 a2_0).f5)) ∧ w'.cell? (ad186.add ((ji62)).toNat) = some (.int .i64 (rd l1 (ji62)))) (ds := [12]) #[false, false, false, false, false, false, false, false, false, false, false, false, false] (by kernel_rfl) rfl rfl ⟨(blk_cell BK175.out 0).trans rfl, (blk_cell BK175.out 1).trans rfl, (blk_cell BK175.out 2).trans rfl, (blk_cell BK175.out 3).trans rfl, (blk_cell BK178.out 0).trans rfl, (blk_cell BK178.out 1).trans rfl, (blk_cell BK178.out 2).trans rfl, (blk_cell BK178.out 3).trans rfl, (blk_cell BK178.out 4).trans rfl, (blk_cell BK178.out 5).trans rfl, (Kd.foot_int (HR1.out _ (by repeat (first | exact HK.out | apply Kept.alloc | apply Kept.drewN | apply Kept.drew | refine Kept.setCell ?_ HMgo67.out _))) (ji62) (of_eq_true p186) (of_eq_true q186))⟩ (fun hHeld => ?_); refine with_tabW spec_l3Do.tab18 spec_l3Do.bits18 (fun HT_ HW_ => ?_)
                generalize wc.drew = w71 at HO_176001 HO_176002 HO_176003 BK175 BK176 BK178 HK HB GG67 HQ72 hf67_0 hx186_0 hx67_0 hHeld ⊢
                refine pz_ 0 (some 81) (v := ?_) (a' := ?_) (any_of HT_.out (by kernel_rfl)) rfl rfl (fun _ _ _ h => h) (by rfl) ?_ ?_ ?_;rotate_left;intro w';go_simp;with_reducible rfl;rotate_left;simp only [Act.put, yy_];rfl
                refine pz_ 2 (some 83) (v := ?_) (a' := ?_) (any_of HT_.out (by kernel_rfl)) rfl rfl (fun _ _ _ h => h) (by rfl) ?_ ?_ ?_;rotate_left;intro w';go_simp;with_reducible rfl;rotate_left;simp only [Act.put, yy_];rfl
                refine pz_ 4 (some 85) (v := ?_) (a' := ?_) (any_of HT_.out (by kernel_rfl)) rfl rfl (fun _ _ _ h => h) (by rfl) ?_ ?_ ?_;rotate_left;intro w';go_simp;with_reducible rfl;rotate_left;simp only [Act.put, yy_];rfl
                refine pz_ 5 (some 86) (v := ?_) (a' := ?_) (any_of HT_.out (by kernel_rfl)) rfl rfl (fun _ _ _ h => h) (by rfl) ?_ ?_ ?_;rotate_left;intro w';go_simp;with_reducible rfl;rotate_left;simp only [Act.put, yy_];rfl
                refine pz_ 6 (some 87) (v := ?_) (a' := ?_) (any_of HT_.out (by kernel_rfl)) rfl rfl (fun _ _ _ h => h) (by rfl) ?_ ?_ ?_;rotate_left;intro w';go_simp;with_reducible rfl;rotate_left;simp only [Act.put, yy_];rfl
                refine tz_ 1 (some 82) (v := ?_) (a' := ?_) (take_ofW HT_.out HW_.out (by kernel_rfl)) rfl rfl (fun _ _ _ h => h) (by rfl) ?_ hHeld ?_ ?_;rotate_left;rintro w' ⟨s0, s1, s2, s3, s4, s5, s6, s7, s8, s9, s10⟩;go_simp;with_reducible rfl;rotate_left;simp only [Act.put, yy_];rfl
                refine tz_ 3 (some 84) (v := ?_) (a' := ?_) (take_ofW HT_.out HW_.out (by kernel_rfl)) rfl rfl (fun _ _ _ h => h) (by rfl) ?_ hHeld ?_ ?_;rotate_left;rintro w' ⟨s0, s1, s2, s3, s4, s5, s6, s7, s8, s9, s10⟩;go_simp;with_reducible rfl;rotate_left;simp only [Act.put, yy_];rfl
                refine tz_ 7 (some 88) (v := ?_) (a' := ?_) (take_ofW HT_.out HW_.out (by kernel_rfl)) rfl rfl (fun _ _ _ h => h) (by rfl) ?_ hHeld ?_ ?_;rotate_left;rintro w' ⟨s0, s1, s2, s3, s4, s5, s6, s7, s8, s9, s10⟩;go_simp;with_reducible rfl;rotate_left;simp only [Act.put, yy_];rfl
                refine pz_ 8 (some 89) (v := ?_) (a' := ?_) (any_of HT_.out (by kernel_rfl)) rfl rfl (fun _ _ _ h => h) (by rfl) ?_ ?_ ?_;rotate_left;intro w';go_simp;with_reducible rfl;rotate_left;simp only [Act.put, yy_];rfl
                refine pz_ 9 (some 90) (v := ?_) (a' := ?_) (any_of HT_.out (by kernel_rfl)) rfl rfl (fun _ _ _ h => h) (by rfl) ?_ ?_ ?_;rotate_left;intro w';go_simp;with_reducible rfl;rotate_left;simp only [Act.put, yy_];rfl
                refine tz_ 10 (some 91) (v := ?_) (a' := ?_) (take_ofW HT_.out HW_.out (by kernel_rfl)) rfl rfl (fun _ _ _ h => h) (by rfl) ?_ hHeld ?_ ?_;rotate_left;rintro w' ⟨s0, s1, s2, s3, s4, s5, s6, s7, s8, s9, s10⟩;go_simp;with_reducible rfl;rotate_left;simp only [Act.put, yy_];rfl
                refine pz_ 11 (some 92) (v := ?_) (a' := ?_) (any_of HT_.out (by kernel_rfl)) rfl rfl (fun _ _ _ h => h) (by rfl) ?_ ?_ ?_;rotate_left;intro w';go_simp;with_reducible rfl;rotate_left;simp only [Act.put, yy_];rfl
                refine last_ (i := 12) (N := none) #[true, true, true, true, true, true, true, true, true, true, true, true, true] rfl rfl (one_of HT_.out (by kernel_rfl)) (by decide) (fun K hK => ?_)
                refine skip_ (w1 := ?_) (by rfl) rfl ?_ ?_
                rotate_left
                ·go_simp
                 rfl
                refine hK.out _ _ ?_
                clear hK K
                refine done_ (done_of HT_.out (by kernel_rfl)) ?_
                try go_wp2
                go_meet
                case rel => exact ⟨_, (y187), (l2_2), (l2_3), (0), (.slice (some ⟨go67, 0, none⟩) l2_1.length co11), (.slice Ao12 l2_2.length co12), (.slice Ao13 l2_3.length co13), H', ⟨by have := HJ40.out; first | omega | exact Nat.le_refl _⟩, ⟨zR_ HQ72.out⟩, ⟨by (with_reducible repeat (first | apply Ra_ | apply Rn_ | apply Rd_)); exact Kd.R_mono (Kd.R_far (p := ⟨go67, (((rd_T26 l0 a2_0).f2) : Int).toNat, none⟩) (Kd.R_mono HO_176002.out (fun k_ hk => (⟨hk, fun e_ => hk.2 (by rw [e_]; rfl)⟩ : _ ∧ k_ ≠ go67))) (fun _ hk => hk.2) (.int .i64 (rd l1 (ji62)))) (fun _ hk => ⟨hk.1.1, hk.1.2⟩)⟩, ⟨by (with_reducible repeat (first | apply Ra_ | apply Rn_ | apply Rd_)); exact Kd.R_mono (Kd.R_far (p := ⟨go67, (((rd_T26 l0 a2_0).f2) : Int).toNat, none⟩) (Kd.R_types HO_176003.out GG67.out (by decide)) (fun _ hk => hk.2) (.int .i64 (rd l1 (ji62)))) (fun _ hk => hk.1)⟩, ⟨by (with_reducible repeat (first | refine on_ ?_ _ | refine od_ ?_ | refine oa_ ?_ _)); refine blk_far ?_ (by have h_ := Kd.R_ne HO_176001.out BK175.out (by decide); intro e_; exact h_ (by rw [e_]; rfl)) _; (with_reducible repeat (first | refine on_ ?_ _ | refine od_ ?_ | refine oa_ ?_ _)); exact BK175.out⟩, ⟨by (with_reducible repeat (first | refine on_ ?_ _ | refine od_ ?_ | refine oa_ ?_ _)); refine blk_far ?_ (by have h_ := Kd.R_ne HO_176001.out BK176.out (by decide); intro e_; exact h_ (by rw [e_]; rfl)) _; (with_reducible repeat (first | refine on_ ?_ _ | refine od_ ?_ | refine oa_ ?_ _)); exact BK176.out⟩, ⟨by (with_reducible repeat (first | refine on_ ?_ _ | refine od_ ?_ | refine oa_ ?_ _)); refine blk_far ?_ (by have h_ := Kd.R_ne HO_176001.out BK178.out (by decide); intro e_; exact h_ (by rw [e_]; rfl)) _; (with_reducible repeat (first | refine on_ ?_ _ | refine od_ ?_ | refine oa_ ?_ _)); exact BK178.out⟩, ⟨by repeat (first | (with_reducible first | exact HK.out | apply Kept.alloc | apply Kept.drewN | apply Kept.drew | refine Kept.setCell ?_ HMgo67.out _ | refine Kept.setCell ?_ (.inr GW175.out) _ | refine Kept.setCell ?_ (.inr GW176.out) _ | refine Kept.setCell ?_ (.inr GW178.out) _) | exact HK.out)⟩, ⟨by repeat (first | (with_reducible first | exact HB.out | apply ba_ | apply bn_ | apply bd_ | refine bs_ ?_ GB67.out | refine bs_ ?_ GE175.out | refine bs_ ?_ GE176.out | refine bs_ ?_ GE178.out) | exact HB.out)⟩⟩
               rw [if_neg c66] at H
               exact absurd H (by simp)
              rw [if_neg c65] at H
              exact absurd H (by simp)
             rw [if_neg c64] at H
             exact absurd H (by simp)
            rw [if_neg c63] at H
            exact absurd H (by simp)
           rw [if_neg c54] at H
           have c54b0 : (((rd_T26 l0 a2_0).f0) == 5) = false := beq_eq_false_iff_ne.mpr c54
           have c54b1 : (((rd_T26 l0 a2_0).f0) != 5) = true := bne_iff_ne.mpr c54
           have HC73 := Aside0.mk H
           clear H
           go_upto_if 93 with (fail)
           go_cut [93] (fun v93 wc => ∃ (kq : Nat) (x93_72 : Bool), v93 = .bool x93_72 ∧ Aside0 (spec_l3Do.j1 kq (wrap64 (a2_0 + 1)) (rd l2_1 ((rd_T26 l0 a2_0).f2)) (rd l2_1 ((rd_T26 l0 a2_0).f3)) x93_72 a2_0 l2_1 l2_2 l2_3 ((rd_T26 l0 a2_0).f0) ((rd_T26 l0 a2_0).f1) ((rd_T26 l0 a2_0).f2) ((rd_T26 l0 a2_0).f3) ((rd_T26 l0 a2_0).f4) ((rd_T26 l0 a2_0).f5) = some (r1, r2, r3, r4, r5, r6)) ∧ Aside0 (kq ≤ kj40) ∧ Aside0 (Kd.R (Kd.int .i64) 3 wc w0.heap.size (fun k_ => ((P2_1_ k_ ∨ P2_2_ k_ ∨ P2_3_ k_) ∨ w.heap.size ≤ k_) ∧ some k_ ≠ ((.slice Ao12 l2_2.length co12) : Value).ownBlock) (.slice (some ad179) l2_1.length co11) l2_1) ∧ Aside0 (Kd.R (Kd.int .i64) 3 wc w0.heap.size (fun k_ => ((P2_1_ k_ ∨ P2_2_ k_ ∨ P2_3_ k_) ∨ w.heap.size ≤ k_) ∧ some k_ ≠ ((.slice (some ad179) l2_1.length co11) : Value).ownBlock) (.slice Ao12 l2_2.length co12) l2_2) ∧ Aside0 (Kd.R Kd.bool 4 wc w0.heap.size (fun k_ => ((P2_1_ k_ ∨ P2_2_ k_ ∨ P2_3_ k_) ∨ w.heap.size ≤ k_)) (.slice Ao13 l2_3.length co13) l2_3) ∧ Aside0 (wc.heap[gb175]? = some (.cells #[.int .i64 a2_0, (.slice (some ad179) l2_1.length co11), (.slice Ao12 l2_2.length co12), (.slice Ao13 l2_3.length co13)] 116 (0, 0))) ∧ Aside0 (wc.heap[gb176]? = some (.cells #[.int .i64 0, (.slice none 0 0), (.slice none 0 0), (.slice none 0 0)] 116 (0, 0))) ∧ Aside0 (wc.heap[gb178]? = some (.cells #[.int .i64 ((rd_T26 l0 a2_0).f0), .int .i64 ((rd_T26 l0 a2_0).f1), .int .i64 ((rd_T26 l0 a2_0).f2), .int .i64 ((rd_T26 l0 a2_0).f3), .int .i64 ((rd_T26 l0 a2_0).f4), .int .i64 ((rd_T26 l0 a2_0).f5)] 26 (0, 0))) ∧ Aside0 (Kept w wc (fun k_ => P2_1_ k_ ∨ P2_2_ k_ ∨ P2_3_ k_)) ∧ Aside0 (Below w0.heap.size w0 wc))
           case first =>
            have H := HC73.out
            clear HC73
            by_cases c74 : ((rd_T26 l0 a2_0).f0) = 7
            ·rw [if_pos c74] at H
             have c74b0 : (((rd_T26 l0 a2_0).f0) == 7) = true := beq_iff_eq.mpr c74
             have c74b1 : (((rd_T26 l0 a2_0).f0) != 7) = false := bne_eq_false_iff_eq.mpr c74
             clear c74
             (first | rw [c74b0] | (simp only [i64_w, i32_w]; rw [c74b0]) | skip)
             have H' := Aside0.mk H
             clear H
             go_wp2
             go_meet
             case rel => exact ⟨_, ((((rd_T26 l0 a2_0).f0) == 7)), (by first | rfl | (simp; done) | (simp [*]; done)), H', ⟨by have := HJ40.out; first | omega | exact Nat.le_refl _⟩, ⟨zR_ HO_176001.out⟩, ⟨zR_ HO_176002.out⟩, ⟨zR_ HO_176003.out⟩, ⟨zO_ BK175.out⟩, ⟨zO_ BK176.out⟩, ⟨zO_ BK178.out⟩, ⟨by repeat (first | (with_reducible first | exact HK.out | apply Kept.alloc | apply Kept.drewN | apply Kept.drew | refine Kept.setCell ?_ (.inr GW175.out) _ | refine Kept.setCell ?_ (.inr GW176.out) _ | refine Kept.setCell ?_ (.inr GW178.out) _) | exact HK.out)⟩, ⟨by repeat (first | (with_reducible first | exact HB.out | apply ba_ | apply bn_ | apply bd_ | refine bs_ ?_ GE175.out | refine bs_ ?_ GE176.out | refine bs_ ?_ GE178.out) | exact HB.out)⟩⟩
            rw [if_neg c74] at H
            have c74b0 : (((rd_T26 l0 a2_0).f0) == 7) = false := beq_eq_false_iff_ne.mpr c74
            have c74b1 : (((rd_T26 l0 a2_0).f0) != 7) = true := bne_iff_ne.mpr c74
            (first | rw [c74b0] | (simp only [i64_w, i32_w]; rw [c74b0]) | skip)
            have H' := Aside0.mk H
            clear H
            go_wp2
            go_meet
            case rel => exact ⟨_, ((((rd_T26 l0 a2_0).f0) == 6)), (by first | rfl | (simp; done) | (simp [*]; done)), H', ⟨by have := HJ40.out; first | omega | exact Nat.le_refl _⟩, ⟨zR_ HO_176001.out⟩, ⟨zR_ HO_176002.out⟩, ⟨zR_ HO_176003.out⟩, ⟨zO_ BK175.out⟩, ⟨zO_ BK176.out⟩, ⟨zO_ BK178.out⟩, ⟨by repeat (first | (with_reducible first | exact HK.out | apply Kept.alloc | apply Kept.drewN | apply Kept.drew | refine Kept.setCell ?_ (.inr GW175.out) _ | refine Kept.setCell ?_ (.inr GW176.out) _ | refine Kept.setCell ?_ (.inr GW178.out) _) | exact HK.out)⟩, ⟨by repeat (first | (with_reducible first | exact HB.out | apply ba_ | apply bn_ | apply bd_ | refine bs_ ?_ GE175.out | refine bs_ ?_ GE176.out | refine bs_ ?_ GE178.out) | exact HB.out)⟩⟩
           case rest =>
            clear HC73
            obtain ⟨kq, x93_72, rfl, HA, HJ72, HO_176001, HO_176002, HO_176003, BK175, BK176, BK178, HK, HB⟩ := hcut
            cases kq with
            | zero => exact absurd HA.out (by simp [spec_l3Do.j1])
            | succ kj72 =>
             have H := HA.out
             clear HA
             simp only [spec_l3Do.j1] at H
             by_cases c75 : x93_72 = true
             ·subst c75
              have H1 : (if ((rd_T26 l0 a2_0).f4) ≥ 16 then (some (a2_0, l2_1, l2_2, l2_3, 2, false)) else (if ((rd_T26 l0 a2_0).f0) = 7 then (if 0 ≤ ((rd_T26 l0 a2_0).f4) then (if ((rd_T26 l0 a2_0).f4) < (l2_2.length : Int) then (if ((rd_T26 l0 a2_0).f4) < (l2_3.length : Int) then (spec_l3Do.j2 kj72 (wrap64 (a2_0 + 1)) (rd l2_1 ((rd_T26 l0 a2_0).f2)) (rd l2_1 ((rd_T26 l0 a2_0).f3)) a2_0 l2_1 (l2_2.set (((rd_T26 l0 a2_0).f4) : Int).toNat (rd l2_1 ((rd_T26 l0 a2_0).f2))) (l2_3.set (((rd_T26 l0 a2_0).f4) : Int).toNat true) ((rd_T26 l0 a2_0).f0) ((rd_T26 l0 a2_0).f1) ((rd_T26 l0 a2_0).f2) ((rd_T26 l0 a2_0).f3) ((rd_T26 l0 a2_0).f4) ((rd_T26 l0 a2_0).f5)) else (none)) else (none)) else (none)) else (if 0 ≤ ((rd_T26 l0 a2_0).f4) then (if ((rd_T26 l0 a2_0).f4) < (l2_3.length : Int) then (if rdOf false l2_3 ((rd_T26 l0 a2_0).f4) = true then (if ((rd_T26 l0 a2_0).f4) < (l2_2.length : Int) then (if 0 ≤ ((rd_T26 l0 a2_0).f2) then (if ((rd_T26 l0 a2_0).f2) < (l2_1.length : Int) then (spec_l3Do.j2 kj72 (wrap64 (a2_0 + 1)) (rd l2_1 ((rd_T26 l0 a2_0).f2)) (rd l2_1 ((rd_T26 l0 a2_0).f3)) a2_0 (l2_1.set (((rd_T26 l0 a2_0).f2) : Int).toNat (rd l2_2 ((rd_T26 l0 a2_0).f4))) l2_2 l2_3 ((rd_T26 l0 a2_0).f0) ((rd_T26 l0 a2_0).f1) ((rd_T26 l0 a2_0).f2) ((rd_T26 l0 a2_0).f3) ((rd_T26 l0 a2_0).f4) ((rd_T26 l0 a2_0).f5)) else (none)) else (none)) else (none)) else (some (a2_0, l2_1, l2_2, l2_3, 3, false))) else (none)) else (none)))) = some (r1, r2, r3, r4, r5, r6) := by rw [if_pos rfl] at H; exact H
              clear H
              have H := H1
              clear H1
              by_cases c76 : ((rd_T26 l0 a2_0).f4) ≥ 16
              ·rw [if_pos c76] at H
               have c76b0 : decide (16 ≤ ((rd_T26 l0 a2_0).f4)) = true := decide_eq_true c76
               clear c76
               simp only [Option.some.injEq, Prod.mk.injEq] at H
               obtain ⟨rfl, rfl, rfl, rfl, rfl, rfl⟩ := H
               have hnb77 := NB178_175.out
               have hnc77 := NB175_178.out
               have hnb78 := NB178_176.out
               have hnc78 := NB176_178.out
               have hcz79_0 : wc.cell? ⟨gb178, 0, none⟩ = some (.int .i64 ((rd_T26 l0 a2_0).f0)) := (blk_cell BK178.out 0).trans rfl
               have hcz79_1 : wc.cell? ⟨gb178, 1, none⟩ = some (.int .i64 ((rd_T26 l0 a2_0).f1)) := (blk_cell BK178.out 1).trans rfl
               have hcz79_2 : wc.cell? ⟨gb178, 2, none⟩ = some (.int .i64 ((rd_T26 l0 a2_0).f2)) := (blk_cell BK178.out 2).trans rfl
               have hcz79_3 : wc.cell? ⟨gb178, 3, none⟩ = some (.int .i64 ((rd_T26 l0 a2_0).f3)) := (blk_cell BK178.out 3).trans rfl
               have hcz79_4 : wc.cell? ⟨gb178, 4, none⟩ = some (.int .i64 ((rd_T26 l0 a2_0).f4)) := (blk_cell BK178.out 4).trans rfl
               have hcz79_5 : wc.cell? ⟨gb178, 5, none⟩ = some (.int .i64 ((rd_T26 l0 a2_0).f5)) := (blk_cell BK178.out 5).trans rfl
               have hfz79_0 := blk_frozen BK178.out 0
               have hfz79_1 := blk_frozen BK178.out 1
               have hfz79_2 := blk_frozen BK178.out 2
               have hfz79_3 := blk_frozen BK178.out 3
               have hfz79_4 := blk_frozen BK178.out 4
               have hfz79_5 := blk_frozen BK178.out 5
               have hnb80 := NB175_176.out
               have hnc80 := NB176_175.out
               have hcz81_0 : wc.cell? ⟨gb175, 0, none⟩ = some (.int .i64 a2_0) := (blk_cell BK175.out 0).trans rfl
               have hcz81_1 : wc.cell? ⟨gb175, 1, none⟩ = some (.slice (some ad179) l2_1.length co11) := (blk_cell BK175.out 1).trans rfl
               have hcz81_2 : wc.cell? ⟨gb175, 2, none⟩ = some (.slice Ao12 l2_2.length co12) := (blk_cell BK175.out 2).trans rfl
               have hcz81_3 : wc.cell? ⟨gb175, 3, none⟩ = some (.slice Ao13 l2_3.length co13) := (blk_cell BK175.out 3).trans rfl
               have hfz81_0 := blk_frozen BK175.out 0
               have hfz81_1 := blk_frozen BK175.out 1
               have hfz81_2 := blk_frozen BK175.out 2
               have hfz81_3 := blk_frozen BK175.out 3
               have hcz82_0 : wc.cell? ⟨gb176, 0, none⟩ = some (.int .i64 0) := (blk_cell BK176.out 0).trans rfl
               have hcz82_1 : wc.cell? ⟨gb176, 1, none⟩ = some (.slice none 0 0) := (blk_cell BK176.out 1).trans rfl
               have hcz82_2 : wc.cell? ⟨gb176, 2, none⟩ = some (.slice none 0 0) := (blk_cell BK176.out 2).trans rfl
               have hcz82_3 : wc.cell? ⟨gb176, 3, none⟩ = some (.slice none 0 0) := (blk_cell BK176.out 3).trans rfl
               have hfz82_0 := blk_frozen BK176.out 0
               have hfz82_1 := blk_frozen BK176.out 1
               have hfz82_2 := blk_frozen BK176.out 2
               have hfz82_3 := blk_frozen BK176.out 3
               go_wp2
               refine bodyPost_ret (results_ctt rfl _ _ gb176 116 #[.int .i64 a2_0, .slice (some ad179) l2_1.length co11, .slice Ao12 l2_2.length co12, .slice Ao13 l2_3.length co13] (0, 0) _ rfl (by (with_reducible repeat (first | refine on_ ?_ _ | refine od_ ?_ | refine oa_ ?_ _)); refine blk_put (cs := #[.int .i64 a2_0, .slice (some ad179) l2_1.length co11, .slice Ao12 l2_2.length co12, .slice none 0 0]) ?_ 3 _ rfl; refine blk_put (cs := #[.int .i64 a2_0, .slice (some ad179) l2_1.length co11, .slice none 0 0, .slice none 0 0]) ?_ 2 _ rfl; refine blk_put (cs := #[.int .i64 a2_0, .slice none 0 0, .slice none 0 0, .slice none 0 0]) ?_ 1 _ rfl; refine blk_put (cs := #[.int .i64 0, .slice none 0 0, .slice none 0 0, .slice none 0 0]) ?_ 0 _ rfl; (with_reducible repeat (first | refine on_ ?_ _ | refine od_ ?_ | refine oa_ ?_ _)); exact BK176.out) Try.underlying116 rfl (by kernel_rfl)) rfl ?_
               exact ⟨_, _, _, by first | rfl | (simp <;> rfl) | (simp [*] <;> rfl), by (with_reducible repeat (first | apply Ra_ | apply Rn_ | apply Rd_)); exact Kd.R_mono (Kd.R_far (p := ⟨gb176, 3, none⟩) (Kd.R_far (p := ⟨gb176, 2, none⟩) (Kd.R_far (p := ⟨gb176, 1, none⟩) (Kd.R_far (p := ⟨gb176, 0, none⟩) (Kd.R_types HO_176001.out BK176.out (by decide)) (fun _ hk => hk.2) (.int .i64 a2_0)) (fun _ hk => hk.2) (.slice (some ad179) l2_1.length co11)) (fun _ hk => hk.2) (.slice Ao12 l2_2.length co12)) (fun _ hk => hk.2) (.slice Ao13 l2_3.length co13)) (fun _ hk => ⟨hk.1.1, hk.1.2⟩), by (with_reducible repeat (first | apply Ra_ | apply Rn_ | apply Rd_)); exact Kd.R_mono (Kd.R_far (p := ⟨gb176, 3, none⟩) (Kd.R_far (p := ⟨gb176, 2, none⟩) (Kd.R_far (p := ⟨gb176, 1, none⟩) (Kd.R_far (p := ⟨gb176, 0, none⟩) (Kd.R_types HO_176002.out BK176.out (by decide)) (fun _ hk => hk.2) (.int .i64 a2_0)) (fun _ hk => hk.2) (.slice (some ad179) l2_1.length co11)) (fun _ hk => hk.2) (.slice Ao12 l2_2.length co12)) (fun _ hk => hk.2) (.slice Ao13 l2_3.length co13)) (fun _ hk => ⟨hk.1.1, hk.1.2⟩), by (with_reducible repeat (first | apply Ra_ | apply Rn_ | apply Rd_)); exact Kd.R_mono (Kd.R_far (p := ⟨gb176, 3, none⟩) (Kd.R_far (p := ⟨gb176, 2, none⟩) (Kd.R_far (p := ⟨gb176, 1, none⟩) (Kd.R_far (p := ⟨gb176, 0, none⟩) (Kd.R_types HO_176003.out BK176.out (by decide)) (fun _ hk => hk.2) (.int .i64 a2_0)) (fun _ hk => hk.2) (.slice (some ad179) l2_1.length co11)) (fun _ hk => hk.2) (.slice Ao12 l2_2.length co12)) (fun _ hk => hk.2) (.slice Ao13 l2_3.length co13)) (fun _ hk => hk.1), by repeat (first | (with_reducible first | exact HB.out | apply ba_ | apply bn_ | apply bd_ | refine bs_ ?_ GE175.out | refine bs_ ?_ GE176.out | refine bs_ ?_ GE178.out) | exact HB.out), by repeat (first | (with_reducible first | exact HK.out | apply Kept.alloc | apply Kept.drewN | apply Kept.drew | refine Kept.setCell ?_ (.inr GW175.out) _ | refine Kept.setCell ?_ (.inr GW176.out) _ | refine Kept.setCell ?_ (.inr GW178.out) _) | exact HK.out)⟩
              rw [if_neg c76] at H
              have c76b0 : decide (16 ≤ ((rd_T26 l0 a2_0).f4)) = false := decide_eq_false c76
              clear c76
              by_cases c83 : ((rd_T26 l0 a2_0).f0) = 7
              ·rw [if_pos c83] at H
               have c83b0 : (((rd_T26 l0 a2_0).f0) == 7) = true := beq_iff_eq.mpr c83
               have c83b1 : (((rd_T26 l0 a2_0).f0) != 7) = false := bne_eq_false_iff_eq.mpr c83
               clear c83
               by_cases c84 : 0 ≤ ((rd_T26 l0 a2_0).f4)
               ·rw [if_pos c84] at H
                have c84b0 : decide (0 ≤ ((rd_T26 l0 a2_0).f4)) = true := decide_eq_true c84
                clear c84
                by_cases c85 : ((rd_T26 l0 a2_0).f4) < (l2_2.length : Int)
                ·rw [if_pos c85] at H
                 have c85b0 : decide (((rd_T26 l0 a2_0).f4) < (l2_2.length : Int)) = true := decide_eq_true c85
                 clear c85
                 obtain ⟨y188, hy188⟩ : ∃ y_ : List Int, y_ = (l2_2.set (((rd_T26 l0 a2_0).f4) : Int).toNat (rd l2_1 ((rd_T26 l0 a2_0).f2))) := ⟨_, rfl⟩
                 replace H : (if ((rd_T26 l0 a2_0).f4) < (l2_3.length : Int) then (spec_l3Do.j2 kj72 (wrap64 (a2_0 + 1)) (rd l2_1 ((rd_T26 l0 a2_0).f2)) (rd l2_1 ((rd_T26 l0 a2_0).f3)) a2_0 l2_1 y188 (l2_3.set (((rd_T26 l0 a2_0).f4) : Int).toNat true) ((rd_T26 l0 a2_0).f0) ((rd_T26 l0 a2_0).f1) ((rd_T26 l0 a2_0).f2) ((rd_T26 l0 a2_0).f3) ((rd_T26 l0 a2_0).f4) ((rd_T26 l0 a2_0).f5)) else (none)) = some (r1, r2, r3, r4, r5, r6) := by first | (rw [hy188]; with_reducible exact H) | (have H2_ := (Option.bind_some _ _).symm.trans H; rw [hy188]; with_reducible exact H2_) | (have H2_ := (Option.bind_some _ _).symm.trans H; with_reducible exact H2_) | with_reducible exact H | (rw [hy188]; exact H) | exact H
                 have Ny188 := Aside0.mk hy188
                 clear hy188
                 by_cases c87 : ((rd_T26 l0 a2_0).f4) < (l2_3.length : Int)
                 ·rw [if_pos c87] at H
                  have c87b0 : decide (((rd_T26 l0 a2_0).f4) < (l2_3.length : Int)) = true := decide_eq_true c87
                  clear c87
                  obtain ⟨y189, hy189⟩ : ∃ y_ : List Bool, y_ = (l2_3.set (((rd_T26 l0 a2_0).f4) : Int).toNat true) := ⟨_, rfl⟩
                  replace H : (spec_l3Do.j2 kj72 (wrap64 (a2_0 + 1)) (rd l2_1 ((rd_T26 l0 a2_0).f2)) (rd l2_1 ((rd_T26 l0 a2_0).f3)) a2_0 l2_1 y188 y189 ((rd_T26 l0 a2_0).f0) ((rd_T26 l0 a2_0).f1) ((rd_T26 l0 a2_0).f2) ((rd_T26 l0 a2_0).f3) ((rd_T26 l0 a2_0).f4) ((rd_T26 l0 a2_0).f5)) = some (r1, r2, r3, r4, r5, r6) := by first | (rw [hy189]; with_reducible exact H) | (have H2_ := (Option.bind_some _ _).symm.trans H; rw [hy189]; with_reducible exact H2_) | (have H2_ := (Option.bind_some _ _).symm.trans H; with_reducible exact H2_) | with_reducible exact H | (rw [hy189]; exact H) | exact H
                  have Ny189 := Aside0.mk hy189
                  clear hy189
                  have H' := Aside0.mk H
                  clear H
                  have hnb89 := NB178_175.out
                  have hnc89 := NB175_178.out
                  have hnb90 := NB178_176.out
                  have hnc90 := NB176_178.out
                  have hcz91_0 : wc.cell? ⟨gb178, 0, none⟩ = some (.int .i64 ((rd_T26 l0 a2_0).f0)) := (blk_cell BK178.out 0).trans rfl
                  have hcz91_1 : wc.cell? ⟨gb178, 1, none⟩ = some (.int .i64 ((rd_T26 l0 a2_0).f1)) := (blk_cell BK178.out 1).trans rfl
                  have hcz91_2 : wc.cell? ⟨gb178, 2, none⟩ = some (.int .i64 ((rd_T26 l0 a2_0).f2)) := (blk_cell BK178.out 2).trans rfl
                  have hcz91_3 : wc.cell? ⟨gb178, 3, none⟩ = some (.int .i64 ((rd_T26 l0 a2_0).f3)) := (blk_cell BK178.out 3).trans rfl
                  have hcz91_4 : wc.cell? ⟨gb178, 4, none⟩ = some (.int .i64 ((rd_T26 l0 a2_0).f4)) := (blk_cell BK178.out 4).trans rfl
                  have hcz91_5 : wc.cell? ⟨gb178, 5, none⟩ = some (.int .i64 ((rd_T26 l0 a2_0).f5)) := (blk_cell BK178.out 5).trans rfl
                  have hfz91_0 := blk_frozen BK178.out 0
                  have hfz91_1 := blk_frozen BK178.out 1
                  have hfz91_2 := blk_frozen BK178.out 2
                  have hfz91_3 := blk_frozen BK178.out 3
                  have hfz91_4 := blk_frozen BK178.out 4
                  have hfz91_5 := blk_frozen BK178.out 5
                  have hnb92 := NB175_176.out
                  have hnc92 := NB176_175.out
                  have hcz93_0 : wc.cell? ⟨gb175, 0, none⟩ = some (.int .i64 a2_0) := (blk_cell BK175.out 0).trans rfl
                  have hcz93_1 : wc.cell? ⟨gb175, 1, none⟩ = some (.slice (some ad179) l2_1.length co11) := (blk_cell BK175.out 1).trans rfl
                  have hcz93_2 : wc.cell? ⟨gb175, 2, none⟩ = some (.slice Ao12 l2_2.length co12) := (blk_cell BK175.out 2).trans rfl
                  have hcz93_3 : wc.cell? ⟨gb175, 3, none⟩ = some (.slice Ao13 l2_3.length co13) := (blk_cell BK175.out 3).trans rfl
                  have hfz93_0 := blk_frozen BK175.out 0
                  have hfz93_1 := blk_frozen BK175.out 1
                  have hfz93_2 := blk_frozen BK175.out 2
                  have hfz93_3 := blk_frozen BK175.out 3
                  have p86 : 0 ≤ (((rd_T26 l0 a2_0).f4) : Int) := dt_
                  have q86 : (((rd_T26 l0 a2_0).f4) : Int) < ((l2_2.length : Int) : Int) := dt_
                  obtain ⟨go86, co86, eo86, gb86, gl86, cl86, HG86⟩ := Kd.R_form HO_176002.out (by omega)
                  (first | cases eo86 | (injection eo86 with ea_ en_ ec_; (first | subst ea_ | (injection ea_ with ea_; subst ea_)); subst ec_; clear en_))
                  have GB86 := Aside0.mk gb86
                  have GG86 := Aside0.mk HG86
                  clear gb86 gl86 HG86
                  have HMgo86 := Aside0.mk (show ((P2_1_ go86 ∨ P2_2_ go86 ∨ P2_3_ go86) ∨ w.heap.size ≤ go86) from (HO_176002.out.1 _ rfl).1)
                  obtain ⟨hx86_0, hf86_0⟩ := Kd.R_celln 0 HO_176002.out (((rd_T26 l0 a2_0).f4) : Int) p86 q86
                  replace p86 := eq_true p86
                  replace q86 := eq_true q86
                  have HP94 := Kd.R_putg HO_176002.out (((rd_T26 l0 a2_0).f4) : Int) (rd l2_1 ((rd_T26 l0 a2_0).f2))
                  go_wp2_with (first | ((with_reducible refine gate_store (t := 3) (p := 108) rfl ?_); refine store_event (t := 3) (p := 108) (v := ?vo_w95) (w1 := (wc.setCell ⟨go86, (((rd_T26 l0 a2_0).f4) : Int).toNat, none⟩ (.int .i64 (rd l2_1 ((rd_T26 l0 a2_0).f2))))) ?hg ?ho ?hn ?hr ?_; (case ho => rfl); (case hg => rfl); (case hn => rfl); (case hr => first | (go_simp; done) | (go_simp; rfl)); intro w95 hw; have hg : wc.grownBy w95 (some go86) := (by rw [hw]; exact HP94.2); have hp_ : Kd.R (Kd.int .i64) 3 w95 w0.heap.size (fun k_ => ((P2_1_ k_ ∨ P2_2_ k_ ∨ P2_3_ k_) ∨ w.heap.size ≤ k_) ∧ some k_ ≠ (.slice (some ad179) l2_1.length co11 : Value).ownBlock) (.slice (some ⟨go86, 0, none⟩) l2_2.length co12) y188 := (by rw [hw, Ny188.out]; exact HP94.1); clear HP94; have n0_ := Aside0.mk (Kd.R_after (v := (.slice (some ⟨go86, 0, none⟩) l2_2.length co12)) (v1 := (.slice (some ⟨go86, 0, none⟩) l2_2.length co12)) (ok := (fun k_ => ((P2_1_ k_ ∨ P2_2_ k_ ∨ P2_3_ k_) ∨ w.heap.size ≤ k_))) (zR_ HO_176001.out) hg (.inl rfl)); have n1_ := Aside0.mk (hp_); have n2_ := Aside0.mk (Kd.R_over' (v := (.slice (some ⟨go86, 0, none⟩) l2_2.length co12)) (zR_ HO_176003.out) (Kd.R_typed HO_176002.out) (by decide) hg); have n3_ := Aside0.mk (blk_grown (g := gb175) (o := .cells #[.int .i64 a2_0, .slice (some ad179) l2_1.length co11, .slice (some ⟨go86, 0, none⟩) l2_2.length co12, .slice Ao13 l2_3.length co13] 116 (0, 0)) (zO_ BK175.out) hg (Kd.R_ne HO_176002.out BK175.out (by decide))); have n4_ := Aside0.mk (blk_grown (g := gb176) (o := .cells #[.int .i64 0, .slice none 0 0, .slice none 0 0, .slice none 0 0] 116 (0, 0)) (zO_ BK176.out) hg (Kd.R_ne HO_176002.out BK176.out (by decide))); have n5_ := Aside0.mk (blk_grown (g := gb178) (o := .cells #[.int .i64 ((rd_T26 l0 a2_0).f0), .int .i64 ((rd_T26 l0 a2_0).f1), .int .i64 ((rd_T26 l0 a2_0).f2), .int .i64 ((rd_T26 l0 a2_0).f3), .int .i64 ((rd_T26 l0 a2_0).f4), .int .i64 ((rd_T26 l0 a2_0).f5)] 26 (0, 0)) (zO_ BK178.out) hg (Kd.R_ne HO_176002.out BK178.out (by decide))); have n6_ := Aside0.mk ((by rw [hw]; exact below_set (HB.out) GB86.out : Below w0.heap.size w0 w95)); have n7_ := Aside0.mk (Kept.of_grown (S := (fun k_ => P2_1_ k_ ∨ P2_2_ k_ ∨ P2_3_ k_)) hg (by repeat (first | (with_reducible first | exact HK.out | apply Kept.alloc | apply Kept.drewN | apply Kept.drew | refine Kept.setCell ?_ (.inr GW175.out) _ | refine Kept.setCell ?_ (.inr GW176.out) _ | refine Kept.setCell ?_ (.inr GW178.out) _) | exact HK.out)) (fun k_ e_ => (HO_176002.out.1 k_ e_).1)); clear HO_176001; clear HO_176002; clear HO_176003; clear BK175; clear BK176; clear BK178; clear HB; clear HK; have HO_176001 := n0_; have HO_176002 := n1_; have HO_176003 := n2_; have BK175 := n3_; have BK176 := n4_; have BK178 := n5_; have HB := n6_; have HK := n7_; clear n0_ n1_ n2_ n3_ n4_ n5_ n6_ n7_; clear hg hw hp_; have hcz96_0 : w95.cell? ⟨gb175, 0, none⟩ = some (.int .i64 a2_0) := (blk_cell BK175.out 0).trans rfl; have hcz96_1 : w95.cell? ⟨gb175, 1, none⟩ = some (.slice (some ad179) l2_1.length co11) := (blk_cell BK175.out 1).trans rfl; have hcz96_2 : w95.cell? ⟨gb175, 2, none⟩ = some (.slice (some ⟨go86, 0, none⟩) l2_2.length co12) := (blk_cell BK175.out 2).trans rfl; have hcz96_3 : w95.cell? ⟨gb175, 3, none⟩ = some (.slice Ao13 l2_3.length co13) := (blk_cell BK175.out 3).trans rfl; have hfz96_0 := blk_frozen BK175.out 0; have hfz96_1 := blk_frozen BK175.out 1; have hfz96_2 := blk_frozen BK175.out 2; have hfz96_3 := blk_frozen BK175.out 3; have hcz97_0 : w95.cell? ⟨gb178, 0, none⟩ = some (.int .i64 ((rd_T26 l0 a2_0).f0)) := (blk_cell BK178.out 0).trans rfl; have hcz97_1 : w95.cell? ⟨gb178, 1, none⟩ = some (.int .i64 ((rd_T26 l0 a2_0).f1)) := (blk_cell BK178.out 1).trans rfl; have hcz97_2 : w95.cell? ⟨gb178, 2, none⟩ = some (.int .i64 ((rd_T26 l0 a2_0).f2)) := (blk_cell BK178.out 2).trans rfl; have hcz97_3 : w95.cell? ⟨gb178, 3, none⟩ = some (.int .i64 ((rd_T26 l0 a2_0).f3)) := (blk_cell BK178.out 3).trans rfl; have hcz97_4 : w95.cell? ⟨gb178, 4, none⟩ = some (.int .i64 ((rd_T26 l0 a2_0).f4)) := (blk_cell BK178.out 4).trans rfl; have hcz97_5 : w95.cell? ⟨gb178, 5, none⟩ = some (.int .i64 ((rd_T26 l0 a2_0).f5)) := (blk_cell BK178.out 5).trans rfl; have hfz97_0 := blk_frozen BK178.out 0; have hfz97_1 := blk_frozen BK178.out 1; have hfz97_2 := blk_frozen BK178.out 2; have hfz97_3 := blk_frozen BK178.out 3; have hfz97_4 := blk_frozen BK178.out 4; have hfz97_5 := blk_frozen BK178.out 5; have p88 : 0 ≤ (((rd_T26 l0 a2_0).f4) : Int) := dt_; have q88 : (((rd_T26 l0 a2_0).f4) : Int) < ((l2_3.length : Int) : Int) := dt_; obtain ⟨go88, co88, eo88, gb88, gl88, cl88, HG88⟩ := Kd.R_form HO_176003.out (by omega); (first | cases eo88 | (injection eo88 with ea_ en_ ec_; (first | subst ea_ | (injection ea_ with ea_; subst ea_)); subst ec_; clear en_)); have GB88 := Aside0.mk gb88; have GG88 := Aside0.mk HG88; clear gb88 gl88 HG88; have HMgo88 := Aside0.mk (show ((P2_1_ go88 ∨ P2_2_ go88 ∨ P2_3_ go88) ∨ w.heap.size ≤ go88) from (HO_176003.out.1 _ rfl)); obtain ⟨hx88_0, hf88_0⟩ := Kd.R_celln false HO_176003.out (((rd_T26 l0 a2_0).f4) : Int) p88 q88; replace p88 := eq_true p88; replace q88 := eq_true q88; obtain ⟨hy98_, hz98_⟩ := Kd.R_celln false HO_176003.out (((rd_T26 l0 a2_0).f4) : Int) (dt_) (dt_); have HP98 := Kd.R_putg HO_176003.out (((rd_T26 l0 a2_0).f4) : Int) true) | ((with_reducible refine gate_store (t := 4) (p := 113) rfl ?_); refine store_event (t := 4) (p := 113) (v := ?vo_w99) (w1 := (w95.setCell ⟨go88, (((rd_T26 l0 a2_0).f4) : Int).toNat, none⟩ (.bool true))) ?hg ?ho ?hn ?hr ?_; (case ho => rfl); (case hg => rfl); (case hn => rfl); (case hr => first | (go_simp; done) | (go_simp; rfl)); intro w99 hw; have hg : w95.grownBy w99 (some go88) := (by rw [hw]; exact HP98.2); have hp_ : Kd.R Kd.bool 4 w99 w0.heap.size (fun k_ => ((P2_1_ k_ ∨ P2_2_ k_ ∨ P2_3_ k_) ∨ w.heap.size ≤ k_)) (.slice (some ⟨go88, 0, none⟩) l2_3.length co13) y189 := (by rw [hw, Ny189.out]; exact HP98.1); clear HP98; have n0_ := Aside0.mk (Kd.R_over' (v := (.slice (some ⟨go88, 0, none⟩) l2_3.length co13)) (zR_ HO_176001.out) (Kd.R_typed HO_176003.out) (by decide) hg); have n1_ := Aside0.mk (Kd.R_over' (v := (.slice (some ⟨go88, 0, none⟩) l2_3.length co13)) (zR_ HO_176002.out) (Kd.R_typed HO_176003.out) (by decide) hg); have n2_ := Aside0.mk (hp_); have n3_ := Aside0.mk (blk_grown (g := gb175) (o := .cells #[.int .i64 a2_0, .slice (some ad179) l2_1.length co11, .slice (some ⟨go86, 0, none⟩) l2_2.length co12, .slice (some ⟨go88, 0, none⟩) l2_3.length co13] 116 (0, 0)) (zO_ BK175.out) hg (Kd.R_ne HO_176003.out BK175.out (by decide))); have n4_ := Aside0.mk (blk_grown (g := gb176) (o := .cells #[.int .i64 0, .slice none 0 0, .slice none 0 0, .slice none 0 0] 116 (0, 0)) (zO_ BK176.out) hg (Kd.R_ne HO_176003.out BK176.out (by decide))); have n5_ := Aside0.mk (blk_grown (g := gb178) (o := .cells #[.int .i64 ((rd_T26 l0 a2_0).f0), .int .i64 ((rd_T26 l0 a2_0).f1), .int .i64 ((rd_T26 l0 a2_0).f2), .int .i64 ((rd_T26 l0 a2_0).f3), .int .i64 ((rd_T26 l0 a2_0).f4), .int .i64 ((rd_T26 l0 a2_0).f5)] 26 (0, 0)) (zO_ BK178.out) hg (Kd.R_ne HO_176003.out BK178.out (by decide))); have n6_ := Aside0.mk ((by rw [hw]; exact below_set (HB.out) GB88.out : Below w0.heap.size w0 w99)); have n7_ := Aside0.mk (Kept.of_grown (S := (fun k_ => P2_1_ k_ ∨ P2_2_ k_ ∨ P2_3_ k_)) hg (by repeat (first | (with_reducible first | exact HK.out | apply Kept.alloc | apply Kept.drewN | apply Kept.drew | refine Kept.setCell ?_ (.inr GW175.out) _ | refine Kept.setCell ?_ (.inr GW176.out) _ | refine Kept.setCell ?_ (.inr GW178.out) _) | exact HK.out)) (fun k_ e_ => (HO_176003.out.1 k_ e_))); clear HO_176001; clear HO_176002; clear HO_176003; clear BK175; clear BK176; clear BK178; clear HB; clear HK; have HO_176001 := n0_; have HO_176002 := n1_; have HO_176003 := n2_; have BK175 := n3_; have BK176 := n4_; have BK178 := n5_; have HB := n6_; have HK := n7_; clear n0_ n1_ n2_ n3_ n4_ n5_ n6_ n7_; clear hg hw hp_))
                  go_meet
                  case rel => exact ⟨_, (l2_1), (y188), (y189), (0), (.slice (some ad179) l2_1.length co11), (.slice (some ⟨go86, 0, none⟩) l2_2.length co12), (.slice (some ⟨go88, 0, none⟩) l2_3.length co13), H', ⟨by have := HJ40.out; have := HJ72.out; first | omega | exact Nat.le_refl _⟩, ⟨zR_ HO_176001.out⟩, ⟨zR_ HO_176002.out⟩, ⟨zR_ HO_176003.out⟩, ⟨zO_ BK175.out⟩, ⟨zO_ BK176.out⟩, ⟨zO_ BK178.out⟩, ⟨by repeat (first | (with_reducible first | exact HK.out | apply Kept.alloc | apply Kept.drewN | apply Kept.drew | refine Kept.setCell ?_ (.inr GW175.out) _ | refine Kept.setCell ?_ (.inr GW176.out) _ | refine Kept.setCell ?_ (.inr GW178.out) _) | exact HK.out)⟩, ⟨by repeat (first | (with_reducible first | exact HB.out | apply ba_ | apply bn_ | apply bd_ | refine bs_ ?_ GE175.out | refine bs_ ?_ GE176.out | refine bs_ ?_ GE178.out) | exact HB.out)⟩⟩
                 rw [if_neg c87] at H
                 exact absurd H (by simp)
                rw [if_neg c85] at H
                exact absurd H (by simp)
               rw [if_neg c84] at H
               exact absurd H (by simp)
              rw [if_neg c83] at H
              have c83b0 : (((rd_T26 l0 a2_0).f0) == 7) = false := beq_eq_false_iff_ne.mpr c83
              have c83b1 : (((rd_T26 l0 a2_0).f0) != 7) = true := bne_iff_ne.mpr c83
              by_cases c100 : 0 ≤ ((rd_T26 l0 a2_0).f4)
              ·rw [if_pos c100] at H
               have c100b0 : decide (0 ≤ ((rd_T26 l0 a2_0).f4)) = true := decide_eq_true c100
               clear c100
               by_cases c101 : ((rd_T26 l0 a2_0).f4) < (l2_3.length : Int)
               ·rw [if_pos c101] at H
                have c101b0 : decide (((rd_T26 l0 a2_0).f4) < (l2_3.length : Int)) = true := decide_eq_true c101
                clear c101
                obtain ⟨bq102, hbq102⟩ : ∃ b_ : Bool, b_ = (rdOf false l2_3 ((rd_T26 l0 a2_0).f4)) := ⟨_, rfl⟩
                replace H : (if bq102 = true then (if ((rd_T26 l0 a2_0).f4) < (l2_2.length : Int) then (if 0 ≤ ((rd_T26 l0 a2_0).f2) then (if ((rd_T26 l0 a2_0).f2) < (l2_1.length : Int) then (spec_l3Do.j2 kj72 (wrap64 (a2_0 + 1)) (rd l2_1 ((rd_T26 l0 a2_0).f2)) (rd l2_1 ((rd_T26 l0 a2_0).f3)) a2_0 (l2_1.set (((rd_T26 l0 a2_0).f2) : Int).toNat (rd l2_2 ((rd_T26 l0 a2_0).f4))) l2_2 l2_3 ((rd_T26 l0 a2_0).f0) ((rd_T26 l0 a2_0).f1) ((rd_T26 l0 a2_0).f2) ((rd_T26 l0 a2_0).f3) ((rd_T26 l0 a2_0).f4) ((rd_T26 l0 a2_0).f5)) else (none)) else (none)) else (none)) else (some (a2_0, l2_1, l2_2, l2_3, 3, false))) = some (r1, r2, r3, r4, r5, r6) := by rw [← hbq102] at H; exact H
                have Nbq102 := Aside0.mk hbq102
                clear hbq102
                by_cases c103 : bq102 = true
                ·subst c103
                 have H1 : (if ((rd_T26 l0 a2_0).f4) < (l2_2.length : Int) then (if 0 ≤ ((rd_T26 l0 a2_0).f2) then (if ((rd_T26 l0 a2_0).f2) < (l2_1.length : Int) then (spec_l3Do.j2 kj72 (wrap64 (a2_0 + 1)) (rd l2_1 ((rd_T26 l0 a2_0).f2)) (rd l2_1 ((rd_T26 l0 a2_0).f3)) a2_0 (l2_1.set (((rd_T26 l0 a2_0).f2) : Int).toNat (rd l2_2 ((rd_T26 l0 a2_0).f4))) l2_2 l2_3 ((rd_T26 l0 a2_0).f0) ((rd_T26 l0 a2_0).f1) ((rd_T26 l0 a2_0).f2) ((rd_T26 l0 a2_0).f3) ((rd_T26 l0 a2_0).f4) ((rd_T26 l0 a2_0).f5)) else (none)) else (none)) else (none)) = some (r1, r2, r3, r4, r5, r6) := by rw [if_pos rfl] at H; exact H
                 clear H
                 have H := H1
                 clear H1
                 by_cases c104 : ((rd_T26 l0 a2_0).f4) < (l2_2.length : Int)
                 ·rw [if_pos c104] at H
                  have c104b0 : decide (((rd_T26 l0 a2_0).f4) < (l2_2.length : Int)) = true := decide_eq_true c104
                  clear c104
                  by_cases c105 : 0 ≤ ((rd_T26 l0 a2_0).f2)
                  ·rw [if_pos c105] at H
                   have c105b0 : decide (0 ≤ ((rd_T26 l0 a2_0).f2)) = true := decide_eq_true c105
                   clear c105
                   by_cases c106 : ((rd_T26 l0 a2_0).f2) < (l2_1.length : Int)
                   ·rw [if_pos c106] at H
                    have c106b0 : decide (((rd_T26 l0 a2_0).f2) < (l2_1.length : Int)) = true := decide_eq_true c106
                    clear c106
                    obtain ⟨y192, hy192⟩ : ∃ y_ : List Int, y_ = (l2_1.set (((rd_T26 l0 a2_0).f2) : Int).toNat (rd l2_2 ((rd_T26 l0 a2_0).f4))) := ⟨_, rfl⟩
                    replace H : (spec_l3Do.j2 kj72 (wrap64 (a2_0 + 1)) (rd l2_1 ((rd_T26 l0 a2_0).f2)) (rd l2_1 ((rd_T26 l0 a2_0).f3)) a2_0 y192 l2_2 l2_3 ((rd_T26 l0 a2_0).f0) ((rd_T26 l0 a2_0).f1) ((rd_T26 l0 a2_0).f2) ((rd_T26 l0 a2_0).f3) ((rd_T26 l0 a2_0).f4) ((rd_T26 l0 a2_0).f5)) = some (r1, r2, r3, r4, r5, r6) := by first | (rw [hy192]; with_reducible exact H) | (have H2_ := (Option.bind_some _ _).symm.trans H; rw [hy192]; with_reducible exact H2_) | (have H2_ := (Option.bind_some _ _).symm.trans H; with_reducible exact H2_) | with_reducible exact H | (rw [hy192]; exact H) | exact H
                    have Ny192 := Aside0.mk hy192
                    clear hy192
                    have H' := Aside0.mk H
                    clear H
                    have hnb108 := NB178_175.out
                    have hnc108 := NB175_178.out
                    have hnb109 := NB178_176.out
                    have hnc109 := NB176_178.out
                    have hcz110_0 : wc.cell? ⟨gb178, 0, none⟩ = some (.int .i64 ((rd_T26 l0 a2_0).f0)) := (blk_cell BK178.out 0).trans rfl
                    have hcz110_1 : wc.cell? ⟨gb178, 1, none⟩ = some (.int .i64 ((rd_T26 l0 a2_0).f1)) := (blk_cell BK178.out 1).trans rfl
                    have hcz110_2 : wc.cell? ⟨gb178, 2, none⟩ = some (.int .i64 ((rd_T26 l0 a2_0).f2)) := (blk_cell BK178.out 2).trans rfl
                    have hcz110_3 : wc.cell? ⟨gb178, 3, none⟩ = some (.int .i64 ((rd_T26 l0 a2_0).f3)) := (blk_cell BK178.out 3).trans rfl
                    have hcz110_4 : wc.cell? ⟨gb178, 4, none⟩ = some (.int .i64 ((rd_T26 l0 a2_0).f4)) := (blk_cell BK178.out 4).trans rfl
                    have hcz110_5 : wc.cell? ⟨gb178, 5, none⟩ = some (.int .i64 ((rd_T26 l0 a2_0).f5)) := (blk_cell BK178.out 5).trans rfl
                    have hfz110_0 := blk_frozen BK178.out 0
                    have hfz110_1 := blk_frozen BK178.out 1
                    have hfz110_2 := blk_frozen BK178.out 2
                    have hfz110_3 := blk_frozen BK178.out 3
                    have hfz110_4 := blk_frozen BK178.out 4
                    have hfz110_5 := blk_frozen BK178.out 5
                    have hnb111 := NB175_176.out
                    have hnc111 := NB176_175.out
                    have hcz112_0 : wc.cell? ⟨gb175, 0, none⟩ = some (.int .i64 a2_0) := (blk_cell BK175.out 0).trans rfl
                    have hcz112_1 : wc.cell? ⟨gb175, 1, none⟩ = some (.slice (some ad179) l2_1.length co11) := (blk_cell BK175.out 1).trans rfl
                    have hcz112_2 : wc.cell? ⟨gb175, 2, none⟩ = some (.slice Ao12 l2_2.length co12) := (blk_cell BK175.out 2).trans rfl
                    have hcz112_3 : wc.cell? ⟨gb175, 3, none⟩ = some (.slice Ao13 l2_3.length co13) := (blk_cell BK175.out 3).trans rfl
                    have hfz112_0 := blk_frozen BK175.out 0
                    have hfz112_1 := blk_frozen BK175.out 1
                    have hfz112_2 := blk_frozen BK175.out 2
                    have hfz112_3 := blk_frozen BK175.out 3
                    have p190 : 0 ≤ (((rd_T26 l0 a2_0).f4) : Int) := dt_
                    have q190 : ((rd_T26 l0 a2_0).f4) < (l2_3.length : Int) := dt_
                    obtain ⟨ad190, e190, hx190_0⟩ := Kd.at_bool (Kd.R_reads' HO_176003.out).2.2 ((rd_T26 l0 a2_0).f4) p190 q190
                    (try rw [← Nbq102.out] at hx190_0)
                    cases e190
                    replace p190 := eq_true p190
                    replace q190 := eq_true q190
                    try go_wp2
                    have n0_ := Aside0.mk (Kd.R_drew HO_176001.out)
                    have n1_ := Aside0.mk (Kd.R_drew HO_176002.out)
                    have n2_ := Aside0.mk (Kd.R_drew HO_176003.out)
                    have n3_ := Aside0.mk (blk_drew BK175.out)
                    have n4_ := Aside0.mk (blk_drew BK176.out)
                    have n5_ := Aside0.mk (blk_drew BK178.out)
                    have n6_ := Aside0.mk (Kept.drew HK.out)
                    have n7_ := Aside0.mk (below_drew1 HB.out)
                    clear HO_176001
                    clear HO_176002
                    clear HO_176003
                    clear BK175
                    clear BK176
                    clear BK178
                    clear HK
                    clear HB
                    have HO_176001 := n0_
                    have HO_176002 := n1_
                    have HO_176003 := n2_
                    have BK175 := n3_
                    have BK176 := n4_
                    have BK178 := n5_
                    have HK := n6_
                    have HB := n7_
                    clear n0_ n1_ n2_ n3_ n4_ n5_ n6_ n7_
                    have p191 : 0 ≤ (((rd_T26 l0 a2_0).f4) : Int) := dt_
                    have q191 : ((rd_T26 l0 a2_0).f4) < (l2_2.length : Int) := dt_
                    obtain ⟨ad191, e191, hx191_0⟩ := Kd.at_int (Kd.R_reads' HO_176002.out).2.2 ((rd_T26 l0 a2_0).f4) p191 q191
                    cases e191
                    replace p191 := eq_true p191
                    replace q191 := eq_true q191
                    have p107 : 0 ≤ (((rd_T26 l0 a2_0).f2) : Int) := dt_
                    have q107 : (((rd_T26 l0 a2_0).f2) : Int) < ((l2_1.length : Int) : Int) := dt_
                    obtain ⟨go107, co107, eo107, gb107, gl107, cl107, HG107⟩ := Kd.R_form HO_176001.out (by omega)
                    (first | cases eo107 | (injection eo107 with ea_ en_ ec_; (first | subst ea_ | (injection ea_ with ea_; subst ea_)); subst ec_; clear en_))
                    have GB107 := Aside0.mk gb107
                    have GG107 := Aside0.mk HG107
                    clear gb107 gl107 HG107
                    have HMgo107 := Aside0.mk (show ((P2_1_ go107 ∨ P2_2_ go107 ∨ P2_3_ go107) ∨ w.heap.size ≤ go107) from (HO_176001.out.1 _ rfl).1)
                    obtain ⟨hx107_0, hf107_0⟩ := Kd.R_celln 0 HO_176001.out (((rd_T26 l0 a2_0).f2) : Int) p107 q107
                    replace p107 := eq_true p107
                    replace q107 := eq_true q107
                    have HP114 := Kd.R_putn HO_176001.out (((rd_T26 l0 a2_0).f2) : Int) (rd l2_2 ((rd_T26 l0 a2_0).f4))
                    rw [← Ny192.out] at HP114
                    have HQ114 := Aside0.mk HP114
                    clear HP114
                    refine start_ (n := 12) (S := fun w' => w'.cell? ⟨gb175, 0, none⟩ = some (.int .i64 a2_0) ∧ w'.cell? ⟨gb175, 1, none⟩ = some (.slice (some ⟨go107, 0, none⟩) l2_1.length co11) ∧ w'.cell? ⟨gb175, 2, none⟩ = some (.slice (some ad191) l2_2.length co12) ∧ w'.cell? ⟨gb175, 3, none⟩ = some (.slice (some ad190) l2_3.length co13) ∧ w'.cell? ⟨gb178, 0, none⟩ = some (.int .i64 ((rd_T26 l0 a2_0).f0)) ∧ w'.cell? ⟨gb178, 1, none⟩ = some (.int .i64 ((rd_T26 l0 a2_0).f1)) ∧ w'.cell? ⟨gb178, 2, none⟩ = some (.int .i64 ((rd_T26 l0 a2_0).f2)) ∧ w'.cell? ⟨gb178, 3, none⟩ = some (.int .i64 ((rd_T26 l0 a2_0).f3)) ∧ w'.cell? ⟨gb178, 4, none⟩ = some (.int .i64 ((rd_T26 l0 a2_0).f4)) ∧ w'.cell? ⟨gb178, 5, none⟩ = some (.int .i64 ((rd_T26 l0 a2_0).f5)) ∧ w'.cell? (ad191.add (((rd_T26 l0 a2_0).f4)).toNat) = some (.int .i64 (rd l2_2 ((rd_T26 l0 a2_0).f4)))) (ds := [11]) #[false, false, false, false, false, false, false, false, false, false, false, false] (by kernel_rfl) rfl rfl ⟨(blk_cell BK175.out 0).trans rfl, (blk_cell BK175.out 1).trans rfl, (blk_cell BK175.out 2).trans rfl, (blk_cell BK175.out 3).trans rfl, (blk_cell BK178.out 0).trans rfl, (blk_cell BK178.out 1).trans rfl, (blk_cell BK178.out 2).trans rfl, (blk_cell BK178.out 3).trans rfl, (blk_cell BK178.out 4).trans rfl, (blk_cell BK178.out 5).trans rfl, hx191_0⟩ (fun hHeld => ?_); refine with_tabW spec_l3Do.tab28 spec_l3Do.bits28 (fun HT_ HW_ => ?_)
                    generalize wc.drew = w113 at HO_176001 HO_176002 HO_176003 BK175 BK176 BK178 HK HB GG107 HQ114 hf107_0 hx107_0 hx191_0 hHeld ⊢
                    refine pz_ 0 (some 122) (v := ?_) (a' := ?_) (any_of HT_.out (by kernel_rfl)) rfl rfl (fun _ _ _ h => h) (by rfl) ?_ ?_ ?_;rotate_left;intro w';go_simp;with_reducible rfl;rotate_left;simp only [Act.put, yy_];rfl
                    refine pz_ 2 (some 124) (v := ?_) (a' := ?_) (any_of HT_.out (by kernel_rfl)) rfl rfl (fun _ _ _ h => h) (by rfl) ?_ ?_ ?_;rotate_left;intro w';go_simp;with_reducible rfl;rotate_left;simp only [Act.put, yy_];rfl
                    refine pz_ 4 (some 126) (v := ?_) (a' := ?_) (any_of HT_.out (by kernel_rfl)) rfl rfl (fun _ _ _ h => h) (by rfl) ?_ ?_ ?_;rotate_left;intro w';go_simp;with_reducible rfl;rotate_left;simp only [Act.put, yy_];rfl
                    refine pz_ 6 (some 128) (v := ?_) (a' := ?_) (any_of HT_.out (by kernel_rfl)) rfl rfl (fun _ _ _ h => h) (by rfl) ?_ ?_ ?_;rotate_left;intro w';go_simp;with_reducible rfl;rotate_left;simp only [Act.put, yy_];rfl
                    refine tz_ 1 (some 123) (v := ?_) (a' := ?_) (take_ofW HT_.out HW_.out (by kernel_rfl)) rfl rfl (fun _ _ _ h => h) (by rfl) ?_ hHeld ?_ ?_;rotate_left;rintro w' ⟨s0, s1, s2, s3, s4, s5, s6, s7, s8, s9, s10⟩;go_simp;with_reducible rfl;rotate_left;simp only [Act.put, yy_];rfl
                    refine tz_ 3 (some 125) (v := ?_) (a' := ?_) (take_ofW HT_.out HW_.out (by kernel_rfl)) rfl rfl (fun _ _ _ h => h) (by rfl) ?_ hHeld ?_ ?_;rotate_left;rintro w' ⟨s0, s1, s2, s3, s4, s5, s6, s7, s8, s9, s10⟩;go_simp;with_reducible rfl;rotate_left;simp only [Act.put, yy_];rfl
                    refine tz_ 5 (some 127) (v := ?_) (a' := ?_) (take_ofW HT_.out HW_.out (by kernel_rfl)) rfl rfl (fun _ _ _ h => h) (by rfl) ?_ hHeld ?_ ?_;rotate_left;rintro w' ⟨s0, s1, s2, s3, s4, s5, s6, s7, s8, s9, s10⟩;go_simp;with_reducible rfl;rotate_left;simp only [Act.put, yy_];rfl
                    refine tz_ 7 (some 129) (v := ?_) (a' := ?_) (take_ofW HT_.out HW_.out (by kernel_rfl)) rfl rfl (fun _ _ _ h => h) (by rfl) ?_ hHeld ?_ ?_;rotate_left;rintro w' ⟨s0, s1, s2, s3, s4, s5, s6, s7, s8, s9, s10⟩;go_simp;with_reducible rfl;rotate_left;simp only [Act.put, yy_];rfl
                    refine pz_ 8 (some 130) (v := ?_) (a' := ?_) (any_of HT_.out (by kernel_rfl)) rfl rfl (fun _ _ _ h => h) (by rfl) ?_ ?_ ?_;rotate_left;intro w';go_simp;with_reducible rfl;rotate_left;simp only [Act.put, yy_];rfl
                    refine tz_ 9 (some 131) (v := ?_) (a' := ?_) (take_ofW HT_.out HW_.out (by kernel_rfl)) rfl rfl (fun _ _ _ h => h) (by rfl) ?_ hHeld ?_ ?_;rotate_left;rintro w' ⟨s0, s1, s2, s3, s4, s5, s6, s7, s8, s9, s10⟩;go_simp;with_reducible rfl;rotate_left;simp only [Act.put, yy_];rfl
                    refine pz_ 10 (some 132) (v := ?_) (a' := ?_) (any_of HT_.out (by kernel_rfl)) rfl rfl (fun _ _ _ h => h) (by rfl) ?_ ?_ ?_;rotate_left;intro w';go_simp;with_reducible rfl;rotate_left;simp only [Act.put, yy_];rfl
                    refine last_ (i := 11) (N := none) #[true, true, true, true, true, true, true, true, true, true, true, true] rfl rfl (one_of HT_.out (by kernel_rfl)) (by decide) (fun K hK => ?_)
                    refine skip_ (w1 := ?_) (by rfl) rfl ?_ ?_
                    rotate_left
                    ·go_simp
                     rfl
                    refine hK.out _ _ ?_
                    clear hK K
                    refine done_ (done_of HT_.out (by kernel_rfl)) ?_
                    try go_wp2
                    go_meet
                    case rel => exact ⟨_, (y192), (l2_2), (l2_3), (0), (.slice (some ⟨go107, 0, none⟩) l2_1.length co11), (.slice (some ad191) l2_2.length co12), (.slice (some ad190) l2_3.length co13), H', ⟨by have := HJ40.out; have := HJ72.out; first | omega | exact Nat.le_refl _⟩, ⟨zR_ HQ114.out⟩, ⟨by (with_reducible repeat (first | apply Ra_ | apply Rn_ | apply Rd_)); exact Kd.R_mono (Kd.R_far (p := ⟨go107, (((rd_T26 l0 a2_0).f2) : Int).toNat, none⟩) (Kd.R_mono HO_176002.out (fun k_ hk => (⟨hk, fun e_ => hk.2 (by rw [e_]; rfl)⟩ : _ ∧ k_ ≠ go107))) (fun _ hk => hk.2) (.int .i64 (rd l2_2 ((rd_T26 l0 a2_0).f4)))) (fun _ hk => ⟨hk.1.1, hk.1.2⟩)⟩, ⟨by (with_reducible repeat (first | apply Ra_ | apply Rn_ | apply Rd_)); exact Kd.R_mono (Kd.R_far (p := ⟨go107, (((rd_T26 l0 a2_0).f2) : Int).toNat, none⟩) (Kd.R_types HO_176003.out GG107.out (by decide)) (fun _ hk => hk.2) (.int .i64 (rd l2_2 ((rd_T26 l0 a2_0).f4)))) (fun _ hk => hk.1)⟩, ⟨by (with_reducible repeat (first | refine on_ ?_ _ | refine od_ ?_ | refine oa_ ?_ _)); refine blk_far ?_ (by have h_ := Kd.R_ne HO_176001.out BK175.out (by decide); intro e_; exact h_ (by rw [e_]; rfl)) _; (with_reducible repeat (first | refine on_ ?_ _ | refine od_ ?_ | refine oa_ ?_ _)); exact BK175.out⟩, ⟨by (with_reducible repeat (first | refine on_ ?_ _ | refine od_ ?_ | refine oa_ ?_ _)); refine blk_far ?_ (by have h_ := Kd.R_ne HO_176001.out BK176.out (by decide); intro e_; exact h_ (by rw [e_]; rfl)) _; (with_reducible repeat (first | refine on_ ?_ _ | refine od_ ?_ | refine oa_ ?_ _)); exact BK176.out⟩, ⟨by (with_reducible repeat (first | refine on_ ?_ _ | refine od_ ?_ | refine oa_ ?_ _)); refine blk_far ?_ (by have h_ := Kd.R_ne HO_176001.out BK178.out (by decide); intro e_; exact h_ (by rw [e_]; rfl)) _; (with_reducible repeat (first | refine on_ ?_ _ | refine od_ ?_ | refine oa_ ?_ _)); exact BK178.out⟩, ⟨by repeat (first | (with_reducible first | exact HK.out | apply Kept.alloc | apply Kept.drewN | apply Kept.drew | refine Kept.setCell ?_ HMgo107.out _ | refine Kept.setCell ?_ (.inr GW175.out) _ | refine Kept.setCell ?_ (.inr GW176.out) _ | refine Kept.setCell ?_ (.inr GW178.out) _) | exact HK.out)⟩, ⟨by repeat (first | (with_reducible first | exact HB.out | apply ba_ | apply bn_ | apply bd_ | refine bs_ ?_ GB107.out | refine bs_ ?_ GE175.out | refine bs_ ?_ GE176.out | refine bs_ ?_ GE178.out) | exact HB.out)⟩⟩
                   rw [if_neg c106] at H
                   exact absurd H (by simp)
                  rw [if_neg c105] at H
                  exact absurd H (by simp)
                 rw [if_neg c104] at H
                 exact absurd H (by simp)
                ·replace c103 := Bool.eq_false_iff.mpr c103
                 subst c103
                 have H1 : (some (a2_0, l2_1, l2_2, l2_3, 3, false)) = some (r1, r2, r3, r4, r5, r6) := by rw [if_neg (show ¬ (false = true) by decide)] at H; exact H
                 clear H
                 have H := H1
                 clear H1
                 simp only [Option.some.injEq, Prod.mk.injEq] at H
                 obtain ⟨rfl, rfl, rfl, rfl, rfl, rfl⟩ := H
                 have hnb115 := NB178_175.out
                 have hnc115 := NB175_178.out
                 have hnb116 := NB178_176.out
                 have hnc116 := NB176_178.out
                 have hcz117_0 : wc.cell? ⟨gb178, 0, none⟩ = some (.int .i64 ((rd_T26 l0 a2_0).f0)) := (blk_cell BK178.out 0).trans rfl
                 have hcz117_1 : wc.cell? ⟨gb178, 1, none⟩ = some (.int .i64 ((rd_T26 l0 a2_0).f1)) := (blk_cell BK178.out 1).trans rfl
                 have hcz117_2 : wc.cell? ⟨gb178, 2, none⟩ = some (.int .i64 ((rd_T26 l0 a2_0).f2)) := (blk_cell BK178.out 2).trans rfl
                 have hcz117_3 : wc.cell? ⟨gb178, 3, none⟩ = some (.int .i64 ((rd_T26 l0 a2_0).f3)) := (blk_cell BK178.out 3).trans rfl
                 have hcz117_4 : wc.cell? ⟨gb178, 4, none⟩ = some (.int .i64 ((rd_T26 l0 a2_0).f4)) := (blk_cell BK178.out 4).trans rfl
                 have hcz117_5 : wc.cell? ⟨gb178, 5, none⟩ = some (.int .i64 ((rd_T26 l0 a2_0).f5)) := (blk_cell BK178.out 5).trans rfl
                 have hfz117_0 := blk_frozen BK178.out 0
                 have hfz117_1 := blk_frozen BK178.out 1
                 have hfz117_2 := blk_frozen BK178.out 2
                 have hfz117_3 := blk_frozen BK178.out 3
                 have hfz117_4 := blk_frozen BK178.out 4
                 have hfz117_5 := blk_frozen BK178.out 5
                 have hnb118 := NB175_176.out
                 have hnc118 := NB176_175.out
                 have hcz119_0 : wc.cell? ⟨gb175, 0, none⟩ = some (.int .i64 a2_0) := (blk_cell BK175.out 0).trans rfl
                 have hcz119_1 : wc.cell? ⟨gb175, 1, none⟩ = some (.slice (some ad179) l2_1.length co11) := (blk_cell BK175.out 1).trans rfl
                 have hcz119_2 : wc.cell? ⟨gb175, 2, none⟩ = some (.slice Ao12 l2_2.length co12) := (blk_cell BK175.out 2).trans rfl
                 have hcz119_3 : wc.cell? ⟨gb175, 3, none⟩ = some (.slice Ao13 l2_3.length co13) := (blk_cell BK175.out 3).trans rfl
                 have hfz119_0 := blk_frozen BK175.out 0
                 have hfz119_1 := blk_frozen BK175.out 1
                 have hfz119_2 := blk_frozen BK175.out 2
                 have hfz119_3 := blk_frozen BK175.out 3
                 have p190 : 0 ≤ (((rd_T26 l0 a2_0).f4) : Int) := dt_
                 have q190 : ((rd_T26 l0 a2_0).f4) < (l2_3.length : Int) := dt_
                 obtain ⟨ad190, e190, hx190_0⟩ := Kd.at_bool (Kd.R_reads' HO_176003.out).2.2 ((rd_T26 l0 a2_0).f4) p190 q190
                 (try rw [← Nbq102.out] at hx190_0)
                 cases e190
                 replace p190 := eq_true p190
                 replace q190 := eq_true q190
                 have hcz120_0 : wc.cell? ⟨gb176, 0, none⟩ = some (.int .i64 0) := (blk_cell BK176.out 0).trans rfl
                 have hcz120_1 : wc.cell? ⟨gb176, 1, none⟩ = some (.slice none 0 0) := (blk_cell BK176.out 1).trans rfl
                 have hcz120_2 : wc.cell? ⟨gb176, 2, none⟩ = some (.slice none 0 0) := (blk_cell BK176.out 2).trans rfl
                 have hcz120_3 : wc.cell? ⟨gb176, 3, none⟩ = some (.slice none 0 0) := (blk_cell BK176.out 3).trans rfl
                 have hfz120_0 := blk_frozen BK176.out 0
                 have hfz120_1 := blk_frozen BK176.out 1
                 have hfz120_2 := blk_frozen BK176.out 2
                 have hfz120_3 := blk_frozen BK176.out 3
                 go_wp2
                 refine bodyPost_ret (results_ctt rfl _ _ gb176 116 #[.int .i64 a2_0, .slice (some ad179) l2_1.length co11, .slice Ao12 l2_2.length co12, .slice (some ad190) l2_3.length co13] (0, 0) _ rfl (by (with_reducible repeat (first | refine on_ ?_ _ | refine od_ ?_ | refine oa_ ?_ _)); refine blk_put (cs := #[.int .i64 a2_0, .slice (some ad179) l2_1.length co11, .slice Ao12 l2_2.length co12, .slice none 0 0]) ?_ 3 _ rfl; refine blk_put (cs := #[.int .i64 a2_0, .slice (some ad179) l2_1.length co11, .slice none 0 0, .slice none 0 0]) ?_ 2 _ rfl; refine blk_put (cs := #[.int .i64 a2_0, .slice none 0 0, .slice none 0 0, .slice none 0 0]) ?_ 1 _ rfl; refine blk_put (cs := #[.int .i64 0, .slice none 0 0, .slice none 0 0, .slice none 0 0]) ?_ 0 _ rfl; (with_reducible repeat (first | refine on_ ?_ _ | refine od_ ?_ | refine oa_ ?_ _)); exact BK176.out) Try.underlying116 rfl (by kernel_rfl)) rfl ?_
                 exact ⟨_, _, _, by first | rfl | (simp <;> rfl) | (simp [*] <;> rfl), by (with_reducible repeat (first | apply Ra_ | apply Rn_ | apply Rd_)); exact Kd.R_mono (Kd.R_far (p := ⟨gb176, 3, none⟩) (Kd.R_far (p := ⟨gb176, 2, none⟩) (Kd.R_far (p := ⟨gb176, 1, none⟩) (Kd.R_far (p := ⟨gb176, 0, none⟩) (Kd.R_types HO_176001.out BK176.out (by decide)) (fun _ hk => hk.2) (.int .i64 a2_0)) (fun _ hk => hk.2) (.slice (some ad179) l2_1.length co11)) (fun _ hk => hk.2) (.slice Ao12 l2_2.length co12)) (fun _ hk => hk.2) (.slice (some ad190) l2_3.length co13)) (fun _ hk => ⟨hk.1.1, hk.1.2⟩), by (with_reducible repeat (first | apply Ra_ | apply Rn_ | apply Rd_)); exact Kd.R_mono (Kd.R_far (p := ⟨gb176, 3, none⟩) (Kd.R_far (p := ⟨gb176, 2, none⟩) (Kd.R_far (p := ⟨gb176, 1, none⟩) (Kd.R_far (p := ⟨gb176, 0, none⟩) (Kd.R_types HO_176002.out BK176.out (by decide)) (fun _ hk => hk.2) (.int .i64 a2_0)) (fun _ hk => hk.2) (.slice (some ad179) l2_1.length co11)) (fun _ hk => hk.2) (.slice Ao12 l2_2.length co12)) (fun _ hk => hk.2) (.slice (some ad190) l2_3.length co13)) (fun _ hk => ⟨hk.1.1, hk.1.2⟩), by (with_reducible repeat (first | apply Ra_ | apply Rn_ | apply Rd_)); exact Kd.R_mono (Kd.R_far (p := ⟨gb176, 3, none⟩) (Kd.R_far (p := ⟨gb176, 2, none⟩) (Kd.R_far (p := ⟨gb176, 1, none⟩) (Kd.R_far (p := ⟨gb176, 0, none⟩) (Kd.R_types HO_176003.out BK176.out (by decide)) (fun _ hk => hk.2) (.int .i64 a2_0)) (fun _ hk => hk.2) (.slice (some ad179) l2_1.length co11)) (fun _ hk => hk.2) (.slice Ao12 l2_2.length co12)) (fun _ hk => hk.2) (.slice (some ad190) l2_3.length co13)) (fun _ hk => hk.1), by repeat (first | (with_reducible first | exact HB.out | apply ba_ | apply bn_ | apply bd_ | refine bs_ ?_ GE175.out | refine bs_ ?_ GE176.out | refine bs_ ?_ GE178.out) | exact HB.out), by repeat (first | (with_reducible first | exact HK.out | apply Kept.alloc | apply Kept.drewN | apply Kept.drew | refine Kept.setCell ?_ (.inr GW175.out) _ | refine Kept.setCell ?_ (.inr GW176.out) _ | refine Kept.setCell ?_ (.inr GW178.out) _) | exact HK.out)⟩
               rw [if_neg c101] at H
               exact absurd H (by simp)
              rw [if_neg c100] at H
              exact absurd H (by simp)
             ·replace c75 := Bool.eq_false_iff.mpr c75
              subst c75
              have H1 : (spec_l3Do.j2 kj72 (wrap64 (a2_0 + 1)) (rd l2_1 ((rd_T26 l0 a2_0).f2)) (rd l2_1 ((rd_T26 l0 a2_0).f3)) a2_0 l2_1 l2_2 l2_3 ((rd_T26 l0 a2_0).f0) ((rd_T26 l0 a2_0).f1) ((rd_T26 l0 a2_0).f2) ((rd_T26 l0 a2_0).f3) ((rd_T26 l0 a2_0).f4) ((rd_T26 l0 a2_0).f5)) = some (r1, r2, r3, r4, r5, r6) := by rw [if_neg (show ¬ (false = true) by decide)] at H; exact H
              clear H
              have H := H1
              clear H1
              have H' := Aside0.mk H
              clear H
              go_wp2
              go_meet
              case rel => exact ⟨_, (l2_1), (l2_2), (l2_3), (0), (.slice (some ad179) l2_1.length co11), (.slice Ao12 l2_2.length co12), (.slice Ao13 l2_3.length co13), H', ⟨by have := HJ40.out; have := HJ72.out; first | omega | exact Nat.le_refl _⟩, ⟨zR_ HO_176001.out⟩, ⟨zR_ HO_176002.out⟩, ⟨zR_ HO_176003.out⟩, ⟨zO_ BK175.out⟩, ⟨zO_ BK176.out⟩, ⟨zO_ BK178.out⟩, ⟨by repeat (first | (with_reducible first | exact HK.out | apply Kept.alloc | apply Kept.drewN | apply Kept.drew | refine Kept.setCell ?_ (.inr GW175.out) _ | refine Kept.setCell ?_ (.inr GW176.out) _ | refine Kept.setCell ?_ (.inr GW178.out) _) | exact HK.out)⟩, ⟨by repeat (first | (with_reducible first | exact HB.out | apply ba_ | apply bn_ | apply bd_ | refine bs_ ?_ GE175.out | refine bs_ ?_ GE176.out | refine bs_ ?_ GE178.out) | exact HB.out)⟩⟩
       case rest =>
        clear HC10
        obtain ⟨kq, x176001_9, x176002_9, x176003_9, x177000_9, u176001, u176002, u176003, HA, HJ9, HO_176001, HO_176002, HO_176003, BK175, BK176, BK178, HK, HB⟩ := hcut
        cases kq with
        | zero => exact absurd HA.out (by simp [spec_l3Do.j2])
        | succ kj9 =>
         have H := HA.out
         clear HA
         simp only [spec_l3Do.j2] at H
         have HC121 := Aside0.mk H
         clear H
         go_upto_region 29 with (fail)
         go_cut [155] (fun v155 wc => ∃ (kq : Nat) (x155_120 : Bool), v155 = .bool x155_120 ∧ Aside0 (spec_l3Do.j3 kq (wrap64 (a2_0 + 1)) x155_120 a2_0 x176001_9 x176002_9 x176003_9 ((rd_T26 l0 a2_0).f0) ((rd_T26 l0 a2_0).f1) ((rd_T26 l0 a2_0).f2) ((rd_T26 l0 a2_0).f3) ((rd_T26 l0 a2_0).f4) ((rd_T26 l0 a2_0).f5) = some (r1, r2, r3, r4, r5, r6)) ∧ Aside0 (kq ≤ kj9) ∧ Aside0 (Kd.R (Kd.int .i64) 3 wc w0.heap.size (fun k_ => ((P2_1_ k_ ∨ P2_2_ k_ ∨ P2_3_ k_) ∨ w.heap.size ≤ k_) ∧ some k_ ≠ (u176002 : Value).ownBlock) u176001 x176001_9) ∧ Aside0 (Kd.R (Kd.int .i64) 3 wc w0.heap.size (fun k_ => ((P2_1_ k_ ∨ P2_2_ k_ ∨ P2_3_ k_) ∨ w.heap.size ≤ k_) ∧ some k_ ≠ (u176001 : Value).ownBlock) u176002 x176002_9) ∧ Aside0 (Kd.R Kd.bool 4 wc w0.heap.size (fun k_ => ((P2_1_ k_ ∨ P2_2_ k_ ∨ P2_3_ k_) ∨ w.heap.size ≤ k_)) u176003 x176003_9) ∧ Aside0 (wc.heap[gb175]? = some (.cells #[.int .i64 a2_0, u176001, u176002, u176003] 116 (0, 0))) ∧ Aside0 (wc.heap[gb176]? = some (.cells #[.int .i64 x177000_9, (.slice none 0 0), (.slice none 0 0), (.slice none 0 0)] 116 (0, 0))) ∧ Aside0 (wc.heap[gb178]? = some (.cells #[.int .i64 ((rd_T26 l0 a2_0).f0), .int .i64 ((rd_T26 l0 a2_0).f1), .int .i64 ((rd_T26 l0 a2_0).f2), .int .i64 ((rd_T26 l0 a2_0).f3), .int .i64 ((rd_T26 l0 a2_0).f4), .int .i64 ((rd_T26 l0 a2_0).f5)] 26 (0, 0))) ∧ Aside0 (Kept w wc (fun k_ => P2_1_ k_ ∨ P2_2_ k_ ∨ P2_3_ k_)) ∧ Aside0 (Below w0.heap.size w0 wc))
         case first =>
          have H := HC121.out
          clear HC121
          by_cases c122 : ((rd_T26 l0 a2_0).f0) = 8
          ·rw [if_pos c122] at H
           have c122b0 : (((rd_T26 l0 a2_0).f0) == 8) = true := beq_iff_eq.mpr c122
           have c122b1 : (((rd_T26 l0 a2_0).f0) != 8) = false := bne_eq_false_iff_eq.mpr c122
           clear c122
           (first | rw [c122b0] | (simp only [i64_w, i32_w]; rw [c122b0]) | skip)
           have H' := Aside0.mk H
           clear H
           have hnb123 := NB178_175.out
           have hnc123 := NB175_178.out
           have hnb124 := NB178_176.out
           have hnc124 := NB176_178.out
           have hcz125_0 : wc.cell? ⟨gb178, 0, none⟩ = some (.int .i64 ((rd_T26 l0 a2_0).f0)) := (blk_cell BK178.out 0).trans rfl
           have hcz125_1 : wc.cell? ⟨gb178, 1, none⟩ = some (.int .i64 ((rd_T26 l0 a2_0).f1)) := (blk_cell BK178.out 1).trans rfl
           have hcz125_2 : wc.cell? ⟨gb178, 2, none⟩ = some (.int .i64 ((rd_T26 l0 a2_0).f2)) := (blk_cell BK178.out 2).trans rfl
           have hcz125_3 : wc.cell? ⟨gb178, 3, none⟩ = some (.int .i64 ((rd_T26 l0 a2_0).f3)) := (blk_cell BK178.out 3).trans rfl
           have hcz125_4 : wc.cell? ⟨gb178, 4, none⟩ = some (.int .i64 ((rd_T26 l0 a2_0).f4)) := (blk_cell BK178.out 4).trans rfl
           have hcz125_5 : wc.cell? ⟨gb178, 5, none⟩ = some (.int .i64 ((rd_T26 l0 a2_0).f5)) := (blk_cell BK178.out 5).trans rfl
           have hfz125_0 := blk_frozen BK178.out 0
           have hfz125_1 := blk_frozen BK178.out 1
           have hfz125_2 := blk_frozen BK178.out 2
           have hfz125_3 := blk_frozen BK178.out 3
           have hfz125_4 := blk_frozen BK178.out 4
           have hfz125_5 := blk_frozen BK178.out 5
           go_wp2
           go_meet
           case rel => exact ⟨_, (true), (by first | rfl | (simp; done) | (simp [*]; done)), H', ⟨by have := HJ9.out; first | omega | exact Nat.le_refl _⟩, ⟨zR_ HO_176001.out⟩, ⟨zR_ HO_176002.out⟩, ⟨zR_ HO_176003.out⟩, ⟨zO_ BK175.out⟩, ⟨zO_ BK176.out⟩, ⟨zO_ BK178.out⟩, ⟨by repeat (first | (with_reducible first | exact HK.out | apply Kept.alloc | apply Kept.drewN | apply Kept.drew | refine Kept.setCell ?_ (.inr GW175.out) _ | refine Kept.setCell ?_ (.inr GW176.out) _ | refine Kept.setCell ?_ (.inr GW178.out) _) | exact HK.out)⟩, ⟨by repeat (first | (with_reducible first | exact HB.out | apply ba_ | apply bn_ | apply bd_ | refine bs_ ?_ GE175.out | refine bs_ ?_ GE176.out | refine bs_ ?_ GE178.out) | exact HB.out)⟩⟩
          rw [if_neg c122] at H
          have c122b0 : (((rd_T26 l0 a2_0).f0) == 8) = false := beq_eq_false_iff_ne.mpr c122
          have c122b1 : (((rd_T26 l0 a2_0).f0) != 8) = true := bne_iff_ne.mpr c122
          (first | rw [c122b0] | (simp only [i64_w, i32_w]; rw [c122b0]) | skip)
          by_cases c126 : ((rd_T26 l0 a2_0).f0) = 9
          ·rw [if_pos c126] at H
           have c126b0 : (((rd_T26 l0 a2_0).f0) == 9) = true := beq_iff_eq.mpr c126
           have c126b1 : (((rd_T26 l0 a2_0).f0) != 9) = false := bne_eq_false_iff_eq.mpr c126
           clear c126
           by_cases c127 : (rd l2_1 ((rd_T26 l0 a2_0).f2)) = (rd l2_1 ((rd_T26 l0 a2_0).f3))
           ·rw [if_pos c127] at H
            have c127b0 : ((rd l2_1 ((rd_T26 l0 a2_0).f2)) == (rd l2_1 ((rd_T26 l0 a2_0).f3))) = true := beq_iff_eq.mpr c127
            have c127b1 : ((rd l2_1 ((rd_T26 l0 a2_0).f2)) != (rd l2_1 ((rd_T26 l0 a2_0).f3))) = false := bne_eq_false_iff_eq.mpr c127
            clear c127
            have H' := Aside0.mk H
            clear H
            have hnb128 := NB178_175.out
            have hnc128 := NB175_178.out
            have hnb129 := NB178_176.out
            have hnc129 := NB176_178.out
            have hcz130_0 : wc.cell? ⟨gb178, 0, none⟩ = some (.int .i64 ((rd_T26 l0 a2_0).f0)) := (blk_cell BK178.out 0).trans rfl
            have hcz130_1 : wc.cell? ⟨gb178, 1, none⟩ = some (.int .i64 ((rd_T26 l0 a2_0).f1)) := (blk_cell BK178.out 1).trans rfl
            have hcz130_2 : wc.cell? ⟨gb178, 2, none⟩ = some (.int .i64 ((rd_T26 l0 a2_0).f2)) := (blk_cell BK178.out 2).trans rfl
            have hcz130_3 : wc.cell? ⟨gb178, 3, none⟩ = some (.int .i64 ((rd_T26 l0 a2_0).f3)) := (blk_cell BK178.out 3).trans rfl
            have hcz130_4 : wc.cell? ⟨gb178, 4, none⟩ = some (.int .i64 ((rd_T26 l0 a2_0).f4)) := (blk_cell BK178.out 4).trans rfl
            have hcz130_5 : wc.cell? ⟨gb178, 5, none⟩ = some (.int .i64 ((rd_T26 l0 a2_0).f5)) := (blk_cell BK178.out 5).trans rfl
            have hfz130_0 := blk_frozen BK178.out 0
            have hfz130_1 := blk_frozen BK178.out 1
            have hfz130_2 := blk_frozen BK178.out 2
            have hfz130_3 := blk_frozen BK178.out 3
            have hfz130_4 := blk_frozen BK178.out 4
            have hfz130_5 := blk_frozen BK178.out 5
            go_wp2
            go_meet
            case rel => exact ⟨_, (true), (by first | rfl | (simp; done) | (simp [*]; done)), H', ⟨by have := HJ9.out; first | omega | exact Nat.le_refl _⟩, ⟨zR_ HO_176001.out⟩, ⟨zR_ HO_176002.out⟩, ⟨zR_ HO_176003.out⟩, ⟨zO_ BK175.out⟩, ⟨zO_ BK176.out⟩, ⟨zO_ BK178.out⟩, ⟨by repeat (first | (with_reducible first | exact HK.out | apply Kept.alloc | apply Kept.drewN | apply Kept.drew | refine Kept.setCell ?_ (.inr GW175.out) _ | refine Kept.setCell ?_ (.inr GW176.out) _ | refine Kept.setCell ?_ (.inr GW178.out) _) | exact HK.out)⟩, ⟨by repeat (first | (with_reducible first | exact HB.out | apply ba_ | apply bn_ | apply bd_ | refine bs_ ?_ GE175.out | refine bs_ ?_ GE176.out | refine bs_ ?_ GE178.out) | exact HB.out)⟩⟩
           rw [if_neg c127] at H
           have c127b0 : ((rd l2_1 ((rd_T26 l0 a2_0).f2)) == (rd l2_1 ((rd_T26 l0 a2_0).f3))) = false := beq_eq_false_iff_ne.mpr c127
           have c127b1 : ((rd l2_1 ((rd_T26 l0 a2_0).f2)) != (rd l2_1 ((rd_T26 l0 a2_0).f3))) = true := bne_iff_ne.mpr c127
           by_cases c131 : ((rd_T26 l0 a2_0).f0) = 10
           ·rw [if_pos c131] at H
            have c131b0 : (((rd_T26 l0 a2_0).f0) == 10) = true := beq_iff_eq.mpr c131
            have c131b1 : (((rd_T26 l0 a2_0).f0) != 10) = false := bne_eq_false_iff_eq.mpr c131
            clear c131
            have H' := Aside0.mk H
            clear H
            have hnb132 := NB178_175.out
            have hnc132 := NB175_178.out
            have hnb133 := NB178_176.out
            have hnc133 := NB176_178.out
            have hcz134_0 : wc.cell? ⟨gb178, 0, none⟩ = some (.int .i64 ((rd_T26 l0 a2_0).f0)) := (blk_cell BK178.out 0).trans rfl
            have hcz134_1 : wc.cell? ⟨gb178, 1, none⟩ = some (.int .i64 ((rd_T26 l0 a2_0).f1)) := (blk_cell BK178.out 1).trans rfl
            have hcz134_2 : wc.cell? ⟨gb178, 2, none⟩ = some (.int .i64 ((rd_T26 l0 a2_0).f2)) := (blk_cell BK178.out 2).trans rfl
            have hcz134_3 : wc.cell? ⟨gb178, 3, none⟩ = some (.int .i64 ((rd_T26 l0 a2_0).f3)) := (blk_cell BK178.out 3).trans rfl
            have hcz134_4 : wc.cell? ⟨gb178, 4, none⟩ = some (.int .i64 ((rd_T26 l0 a2_0).f4)) := (blk_cell BK178.out 4).trans rfl
            have hcz134_5 : wc.cell? ⟨gb178, 5, none⟩ = some (.int .i64 ((rd_T26 l0 a2_0).f5)) := (blk_cell BK178.out 5).trans rfl
            have hfz134_0 := blk_frozen BK178.out 0
            have hfz134_1 := blk_frozen BK178.out 1
            have hfz134_2 := blk_frozen BK178.out 2
            have hfz134_3 := blk_frozen BK178.out 3
            have hfz134_4 := blk_frozen BK178.out 4
            have hfz134_5 := blk_frozen BK178.out 5
            go_wp2
            go_meet
            case rel => exact ⟨_, (decide ((rd l2_1 ((rd_T26 l0 a2_0).f2)) < (rd l2_1 ((rd_T26 l0 a2_0).f3)))), (by first | rfl | (simp; done) | (simp [*]; done)), H', ⟨by have := HJ9.out; first | omega | exact Nat.le_refl _⟩, ⟨zR_ HO_176001.out⟩, ⟨zR_ HO_176002.out⟩, ⟨zR_ HO_176003.out⟩, ⟨zO_ BK175.out⟩, ⟨zO_ BK176.out⟩, ⟨zO_ BK178.out⟩, ⟨by repeat (first | (with_reducible first | exact HK.out | apply Kept.alloc | apply Kept.drewN | apply Kept.drew | refine Kept.setCell ?_ (.inr GW175.out) _ | refine Kept.setCell ?_ (.inr GW176.out) _ | refine Kept.setCell ?_ (.inr GW178.out) _) | exact HK.out)⟩, ⟨by repeat (first | (with_reducible first | exact HB.out | apply ba_ | apply bn_ | apply bd_ | refine bs_ ?_ GE175.out | refine bs_ ?_ GE176.out | refine bs_ ?_ GE178.out) | exact HB.out)⟩⟩
           rw [if_neg c131] at H
           have c131b0 : (((rd_T26 l0 a2_0).f0) == 10) = false := beq_eq_false_iff_ne.mpr c131
           have c131b1 : (((rd_T26 l0 a2_0).f0) != 10) = true := bne_iff_ne.mpr c131
           have H' := Aside0.mk H
           clear H
           have hnb135 := NB178_175.out
           have hnc135 := NB175_178.out
           have hnb136 := NB178_176.out
           have hnc136 := NB176_178.out
           have hcz137_0 : wc.cell? ⟨gb178, 0, none⟩ = some (.int .i64 ((rd_T26 l0 a2_0).f0)) := (blk_cell BK178.out 0).trans rfl
           have hcz137_1 : wc.cell? ⟨gb178, 1, none⟩ = some (.int .i64 ((rd_T26 l0 a2_0).f1)) := (blk_cell BK178.out 1).trans rfl
           have hcz137_2 : wc.cell? ⟨gb178, 2, none⟩ = some (.int .i64 ((rd_T26 l0 a2_0).f2)) := (blk_cell BK178.out 2).trans rfl
           have hcz137_3 : wc.cell? ⟨gb178, 3, none⟩ = some (.int .i64 ((rd_T26 l0 a2_0).f3)) := (blk_cell BK178.out 3).trans rfl
           have hcz137_4 : wc.cell? ⟨gb178, 4, none⟩ = some (.int .i64 ((rd_T26 l0 a2_0).f4)) := (blk_cell BK178.out 4).trans rfl
           have hcz137_5 : wc.cell? ⟨gb178, 5, none⟩ = some (.int .i64 ((rd_T26 l0 a2_0).f5)) := (blk_cell BK178.out 5).trans rfl
           have hfz137_0 := blk_frozen BK178.out 0
           have hfz137_1 := blk_frozen BK178.out 1
           have hfz137_2 := blk_frozen BK178.out 2
           have hfz137_3 := blk_frozen BK178.out 3
           have hfz137_4 := blk_frozen BK178.out 4
           have hfz137_5 := blk_frozen BK178.out 5
           go_wp2
           go_meet
           case rel => exact ⟨_, (false), (by first | rfl | (simp; done) | (simp [*]; done)), H', ⟨by have := HJ9.out; first | omega | exact Nat.le_refl _⟩, ⟨zR_ HO_176001.out⟩, ⟨zR_ HO_176002.out⟩, ⟨zR_ HO_176003.out⟩, ⟨zO_ BK175.out⟩, ⟨zO_ BK176.out⟩, ⟨zO_ BK178.out⟩, ⟨by repeat (first | (with_reducible first | exact HK.out | apply Kept.alloc | apply Kept.drewN | apply Kept.drew | refine Kept.setCell ?_ (.inr GW175.out) _ | refine Kept.setCell ?_ (.inr GW176.out) _ | refine Kept.setCell ?_ (.inr GW178.out) _) | exact HK.out)⟩, ⟨by repeat (first | (with_reducible first | exact HB.out | apply ba_ | apply bn_ | apply bd_ | refine bs_ ?_ GE175.out | refine bs_ ?_ GE176.out | refine bs_ ?_ GE178.out) | exact HB.out)⟩⟩
          rw [if_neg c126] at H
          have c126b0 : (((rd_T26 l0 a2_0).f0) == 9) = false := beq_eq_false_iff_ne.mpr c126
          have c126b1 : (((rd_T26 l0 a2_0).f0) != 9) = true := bne_iff_ne.mpr c126
          by_cases c138 : ((rd_T26 l0 a2_0).f0) = 10
          ·rw [if_pos c138] at H
           have c138b0 : (((rd_T26 l0 a2_0).f0) == 10) = true := beq_iff_eq.mpr c138
           have c138b1 : (((rd_T26 l0 a2_0).f0) != 10) = false := bne_eq_false_iff_eq.mpr c138
           clear c138
           have H' := Aside0.mk H
           clear H
           have hnb139 := NB178_175.out
           have hnc139 := NB175_178.out
           have hnb140 := NB178_176.out
           have hnc140 := NB176_178.out
           have hcz141_0 : wc.cell? ⟨gb178, 0, none⟩ = some (.int .i64 ((rd_T26 l0 a2_0).f0)) := (blk_cell BK178.out 0).trans rfl
           have hcz141_1 : wc.cell? ⟨gb178, 1, none⟩ = some (.int .i64 ((rd_T26 l0 a2_0).f1)) := (blk_cell BK178.out 1).trans rfl
           have hcz141_2 : wc.cell? ⟨gb178, 2, none⟩ = some (.int .i64 ((rd_T26 l0 a2_0).f2)) := (blk_cell BK178.out 2).trans rfl
           have hcz141_3 : wc.cell? ⟨gb178, 3, none⟩ = some (.int .i64 ((rd_T26 l0 a2_0).f3)) := (blk_cell BK178.out 3).trans rfl
           have hcz141_4 : wc.cell? ⟨gb178, 4, none⟩ = some (.int .i64 ((rd_T26 l0 a2_0).f4)) := (blk_cell BK178.out 4).trans rfl
           have hcz141_5 : wc.cell? ⟨gb178, 5, none⟩ = some (.int .i64 ((rd_T26 l0 a2_0).f5)) := (blk_cell BK178.out 5).trans rfl
           have hfz141_0 := blk_frozen BK178.out 0
           have hfz141_1 := blk_frozen BK178.out 1
           have hfz141_2 := blk_frozen BK178.out 2
           have hfz141_3 := blk_frozen BK178.out 3
           have hfz141_4 := blk_frozen BK178.out 4
           have hfz141_5 := blk_frozen BK178.out 5
           go_wp2
           go_meet
           case rel => exact ⟨_, (decide ((rd l2_1 ((rd_T26 l0 a2_0).f2)) < (rd l2_1 ((rd_T26 l0 a2_0).f3)))), (by first | rfl | (simp; done) | (simp [*]; done)), H', ⟨by have := HJ9.out; first | omega | exact Nat.le_refl _⟩, ⟨zR_ HO_176001.out⟩, ⟨zR_ HO_176002.out⟩, ⟨zR_ HO_176003.out⟩, ⟨zO_ BK175.out⟩, ⟨zO_ BK176.out⟩, ⟨zO_ BK178.out⟩, ⟨by repeat (first | (with_reducible first | exact HK.out | apply Kept.alloc | apply Kept.drewN | apply Kept.drew | refine Kept.setCell ?_ (.inr GW175.out) _ | refine Kept.setCell ?_ (.inr GW176.out) _ | refine Kept.setCell ?_ (.inr GW178.out) _) | exact HK.out)⟩, ⟨by repeat (first | (with_reducible first | exact HB.out | apply ba_ | apply bn_ | apply bd_ | refine bs_ ?_ GE175.out | refine bs_ ?_ GE176.out | refine bs_ ?_ GE178.out) | exact HB.out)⟩⟩
          rw [if_neg c138] at H
          have c138b0 : (((rd_T26 l0 a2_0).f0) == 10) = false := beq_eq_false_iff_ne.mpr c138
          have c138b1 : (((rd_T26 l0 a2_0).f0) != 10) = true := bne_iff_ne.mpr c138
          have H' := Aside0.mk H
          clear H
          have hnb142 := NB178_175.out
          have hnc142 := NB175_178.out
          have hnb143 := NB178_176.out
          have hnc143 := NB176_178.out
          have hcz144_0 : wc.cell? ⟨gb178, 0, none⟩ = some (.int .i64 ((rd_T26 l0 a2_0).f0)) := (blk_cell BK178.out 0).trans rfl
          have hcz144_1 : wc.cell? ⟨gb178, 1, none⟩ = some (.int .i64 ((rd_T26 l0 a2_0).f1)) := (blk_cell BK178.out 1).trans rfl
          have hcz144_2 : wc.cell? ⟨gb178, 2, none⟩ = some (.int .i64 ((rd_T26 l0 a2_0).f2)) := (blk_cell BK178.out 2).trans rfl
          have hcz144_3 : wc.cell? ⟨gb178, 3, none⟩ = some (.int .i64 ((rd_T26 l0 a2_0).f3)) := (blk_cell BK178.out 3).trans rfl
          have hcz144_4 : wc.cell? ⟨gb178, 4, none⟩ = some (.int .i64 ((rd_T26 l0 a2_0).f4)) := (blk_cell BK178.out 4).trans rfl
          have hcz144_5 : wc.cell? ⟨gb178, 5, none⟩ = some (.int .i64 ((rd_T26 l0 a2_0).f5)) := (blk_cell BK178.out 5).trans rfl
          have hfz144_0 := blk_frozen BK178.out 0
          have hfz144_1 := blk_frozen BK178.out 1
          have hfz144_2 := blk_frozen BK178.out 2
          have hfz144_3 := blk_frozen BK178.out 3
          have hfz144_4 := blk_frozen BK178.out 4
          have hfz144_5 := blk_frozen BK178.out 5
          go_wp2
          go_meet
          case rel => exact ⟨_, (false), (by first | rfl | (simp; done) | (simp [*]; done)), H', ⟨by have := HJ9.out; first | omega | exact Nat.le_refl _⟩, ⟨zR_ HO_176001.out⟩, ⟨zR_ HO_176002.out⟩, ⟨zR_ HO_176003.out⟩, ⟨zO_ BK175.out⟩, ⟨zO_ BK176.out⟩, ⟨zO_ BK178.out⟩, ⟨by repeat (first | (with_reducible first | exact HK.out | apply Kept.alloc | apply Kept.drewN | apply Kept.drew | refine Kept.setCell ?_ (.inr GW175.out) _ | refine Kept.setCell ?_ (.inr GW176.out) _ | refine Kept.setCell ?_ (.inr GW178.out) _) | exact HK.out)⟩, ⟨by repeat (first | (with_reducible first | exact HB.out | apply ba_ | apply bn_ | apply bd_ | refine bs_ ?_ GE175.out | refine bs_ ?_ GE176.out | refine bs_ ?_ GE178.out) | exact HB.out)⟩⟩
         case rest =>
          clear HC121
          obtain ⟨kq, x155_120, rfl, HA, HJ120, HO_176001, HO_176002, HO_176003, BK175, BK176, BK178, HK, HB⟩ := hcut
          cases kq with
          | zero => exact absurd HA.out (by simp [spec_l3Do.j3])
          | succ kj120 =>
           have H := HA.out
           clear HA
           simp only [spec_l3Do.j3] at H
           by_cases c145 : x155_120 = true
           ·subst c145
            have H1 : (some (wrap64 ((wrap64 (a2_0 + ((rd_T26 l0 a2_0).f5))) + 1), x176001_9, x176002_9, x176003_9, 0, false)) = some (r1, r2, r3, r4, r5, r6) := by rw [if_pos rfl] at H; exact H
            clear H
            have H := H1
            clear H1
            simp only [Option.some.injEq, Prod.mk.injEq] at H
            obtain ⟨rfl, rfl, rfl, rfl, rfl, rfl⟩ := H
            have hnb146 := NB175_176.out
            have hnc146 := NB176_175.out
            have hnb147 := NB175_178.out
            have hnc147 := NB178_175.out
            have hcz148_0 : wc.cell? ⟨gb175, 0, none⟩ = some (.int .i64 a2_0) := (blk_cell BK175.out 0).trans rfl
            have hcz148_1 : wc.cell? ⟨gb175, 1, none⟩ = some (u176001) := (blk_cell BK175.out 1).trans rfl
            have hcz148_2 : wc.cell? ⟨gb175, 2, none⟩ = some (u176002) := (blk_cell BK175.out 2).trans rfl
            have hcz148_3 : wc.cell? ⟨gb175, 3, none⟩ = some (u176003) := (blk_cell BK175.out 3).trans rfl
            have hfz148_0 := blk_frozen BK175.out 0
            have hfz148_1 := blk_frozen BK175.out 1
            have hfz148_2 := blk_frozen BK175.out 2
            have hfz148_3 := blk_frozen BK175.out 3
            have hnb149 := NB178_176.out
            have hnc149 := NB176_178.out
            have hcz150_0 : wc.cell? ⟨gb178, 0, none⟩ = some (.int .i64 ((rd_T26 l0 a2_0).f0)) := (blk_cell BK178.out 0).trans rfl
            have hcz150_1 : wc.cell? ⟨gb178, 1, none⟩ = some (.int .i64 ((rd_T26 l0 a2_0).f1)) := (blk_cell BK178.out 1).trans rfl
            have hcz150_2 : wc.cell? ⟨gb178, 2, none⟩ = some (.int .i64 ((rd_T26 l0 a2_0).f2)) := (blk_cell BK178.out 2).trans rfl
            have hcz150_3 : wc.cell? ⟨gb178, 3, none⟩ = some (.int .i64 ((rd_T26 l0 a2_0).f3)) := (blk_cell BK178.out 3).trans rfl
            have hcz150_4 : wc.cell? ⟨gb178, 4, none⟩ = some (.int .i64 ((rd_T26 l0 a2_0).f4)) := (blk_cell BK178.out 4).trans rfl
            have hcz150_5 : wc.cell? ⟨gb178, 5, none⟩ = some (.int .i64 ((rd_T26 l0 a2_0).f5)) := (blk_cell BK178.out 5).trans rfl
            have hfz150_0 := blk_frozen BK178.out 0
            have hfz150_1 := blk_frozen BK178.out 1
            have hfz150_2 := blk_frozen BK178.out 2
            have hfz150_3 := blk_frozen BK178.out 3
            have hfz150_4 := blk_frozen BK178.out 4
            have hfz150_5 := blk_frozen BK178.out 5
            have hcz151_0 : wc.cell? ⟨gb176, 0, none⟩ = some (.int .i64 x177000_9) := (blk_cell BK176.out 0).trans rfl
            have hcz151_1 : wc.cell? ⟨gb176, 1, none⟩ = some (.slice none 0 0) := (blk_cell BK176.out 1).trans rfl
            have hcz151_2 : wc.cell? ⟨gb176, 2, none⟩ = some (.slice none 0 0) := (blk_cell BK176.out 2).trans rfl
            have hcz151_3 : wc.cell? ⟨gb176, 3, none⟩ = some (.slice none 0 0) := (blk_cell BK176.out 3).trans rfl
            have hfz151_0 := blk_frozen BK176.out 0
            have hfz151_1 := blk_frozen BK176.out 1
            have hfz151_2 := blk_frozen BK176.out 2
            have hfz151_3 := blk_frozen BK176.out 3
            obtain ⟨Ao152, co152, eo152⟩ := Kd.R_slice HO_176001.out
            subst eo152
            obtain ⟨Ao153, co153, eo153⟩ := Kd.R_slice HO_176002.out
            subst eo153
            obtain ⟨Ao154, co154, eo154⟩ := Kd.R_slice HO_176003.out
            subst eo154
            go_wp2
            refine bodyPost_ret (results_ctt rfl _ _ gb176 116 #[.int .i64 (wrap64 ((wrap64 (a2_0 + ((rd_T26 l0 a2_0).f5))) + 1)), .slice Ao152 x176001_9.length co152, .slice Ao153 x176002_9.length co153, .slice Ao154 x176003_9.length co154] (0, 0) _ rfl (by (with_reducible repeat (first | refine on_ ?_ _ | refine od_ ?_ | refine oa_ ?_ _)); refine blk_put (cs := #[.int .i64 (wrap64 ((wrap64 (a2_0 + ((rd_T26 l0 a2_0).f5))) + 1)), .slice Ao152 x176001_9.length co152, .slice Ao153 x176002_9.length co153, .slice none 0 0]) ?_ 3 _ rfl; refine blk_put (cs := #[.int .i64 (wrap64 ((wrap64 (a2_0 + ((rd_T26 l0 a2_0).f5))) + 1)), .slice Ao152 x176001_9.length co152, .slice none 0 0, .slice none 0 0]) ?_ 2 _ rfl; refine blk_put (cs := #[.int .i64 (wrap64 ((wrap64 (a2_0 + ((rd_T26 l0 a2_0).f5))) + 1)), .slice none 0 0, .slice none 0 0, .slice none 0 0]) ?_ 1 _ rfl; refine blk_put (cs := #[.int .i64 x177000_9, .slice none 0 0, .slice none 0 0, .slice none 0 0]) ?_ 0 _ rfl; refine blk_far ?_ NB176_175.out _; (with_reducible repeat (first | refine on_ ?_ _ | refine od_ ?_ | refine oa_ ?_ _)); exact BK176.out) Try.underlying116 rfl (by kernel_rfl)) rfl ?_
            exact ⟨_, _, _, by first | rfl | (simp <;> rfl) | (simp [*] <;> rfl), by (with_reducible repeat (first | apply Ra_ | apply Rn_ | apply Rd_)); exact Kd.R_mono (Kd.R_far (p := ⟨gb176, 3, none⟩) (Kd.R_far (p := ⟨gb176, 2, none⟩) (Kd.R_far (p := ⟨gb176, 1, none⟩) (Kd.R_far (p := ⟨gb176, 0, none⟩) (Kd.R_far (p := ⟨gb175, 0, none⟩) (Kd.R_types (Kd.R_types HO_176001.out BK175.out (by decide)) BK176.out (by decide)) (fun _ hk => hk.1.2) (.int .i64 (wrap64 ((wrap64 (a2_0 + ((rd_T26 l0 a2_0).f5))) + 1)))) (fun _ hk => hk.2) (.int .i64 (wrap64 ((wrap64 (a2_0 + ((rd_T26 l0 a2_0).f5))) + 1)))) (fun _ hk => hk.2) (.slice Ao152 x176001_9.length co152)) (fun _ hk => hk.2) (.slice Ao153 x176002_9.length co153)) (fun _ hk => hk.2) (.slice Ao154 x176003_9.length co154)) (fun _ hk => ⟨hk.1.1.1, hk.1.1.2⟩), by (with_reducible repeat (first | apply Ra_ | apply Rn_ | apply Rd_)); exact Kd.R_mono (Kd.R_far (p := ⟨gb176, 3, none⟩) (Kd.R_far (p := ⟨gb176, 2, none⟩) (Kd.R_far (p := ⟨gb176, 1, none⟩) (Kd.R_far (p := ⟨gb176, 0, none⟩) (Kd.R_far (p := ⟨gb175, 0, none⟩) (Kd.R_types (Kd.R_types HO_176002.out BK175.out (by decide)) BK176.out (by decide)) (fun _ hk => hk.1.2) (.int .i64 (wrap64 ((wrap64 (a2_0 + ((rd_T26 l0 a2_0).f5))) + 1)))) (fun _ hk => hk.2) (.int .i64 (wrap64 ((wrap64 (a2_0 + ((rd_T26 l0 a2_0).f5))) + 1)))) (fun _ hk => hk.2) (.slice Ao152 x176001_9.length co152)) (fun _ hk => hk.2) (.slice Ao153 x176002_9.length co153)) (fun _ hk => hk.2) (.slice Ao154 x176003_9.length co154)) (fun _ hk => ⟨hk.1.1.1, hk.1.1.2⟩), by (with_reducible repeat (first | apply Ra_ | apply Rn_ | apply Rd_)); exact Kd.R_mono (Kd.R_far (p := ⟨gb176, 3, none⟩) (Kd.R_far (p := ⟨gb176, 2, none⟩) (Kd.R_far (p := ⟨gb176, 1, none⟩) (Kd.R_far (p := ⟨gb176, 0, none⟩) (Kd.R_far (p := ⟨gb175, 0, none⟩) (Kd.R_types (Kd.R_types HO_176003.out BK175.out (by decide)) BK176.out (by decide)) (fun _ hk => hk.1.2) (.int .i64 (wrap64 ((wrap64 (a2_0 + ((rd_T26 l0 a2_0).f5))) + 1)))) (fun _ hk => hk.2) (.int .i64 (wrap64 ((wrap64 (a2_0 + ((rd_T26 l0 a2_0).f5))) + 1)))) (fun _ hk => hk.2) (.slice Ao152 x176001_9.length co152)) (fun _ hk => hk.2) (.slice Ao153 x176002_9.length co153)) (fun _ hk => hk.2) (.slice Ao154 x176003_9.length co154)) (fun _ hk => hk.1.1), by repeat (first | (with_reducible first | exact HB.out | apply ba_ | apply bn_ | apply bd_ | refine bs_ ?_ GE175.out | refine bs_ ?_ GE176.out | refine bs_ ?_ GE178.out) | exact HB.out), by repeat (first | (with_reducible first | exact HK.out | apply Kept.alloc | apply Kept.drewN | apply Kept.drew | refine Kept.setCell ?_ (.inr GW175.out) _ | refine Kept.setCell ?_ (.inr GW176.out) _ | refine Kept.setCell ?_ (.inr GW178.out) _) | exact HK.out)⟩
           ·replace c145 := Bool.eq_false_iff.mpr c145
            subst c145
            have H1 : (some ((wrap64 (a2_0 + 1)), x176001_9, x176002_9, x176003_9, 0, false)) = some (r1, r2, r3, r4, r5, r6) := by rw [if_neg (show ¬ (false = true) by decide)] at H; exact H
            clear H
            have H := H1
            clear H1
            simp only [Option.some.injEq, Prod.mk.injEq] at H
            obtain ⟨rfl, rfl, rfl, rfl, rfl, rfl⟩ := H
            have hnb155 := NB175_176.out
            have hnc155 := NB176_175.out
            have hnb156 := NB175_178.out
            have hnc156 := NB178_175.out
            have hcz157_0 : wc.cell? ⟨gb175, 0, none⟩ = some (.int .i64 a2_0) := (blk_cell BK175.out 0).trans rfl
            have hcz157_1 : wc.cell? ⟨gb175, 1, none⟩ = some (u176001) := (blk_cell BK175.out 1).trans rfl
            have hcz157_2 : wc.cell? ⟨gb175, 2, none⟩ = some (u176002) := (blk_cell BK175.out 2).trans rfl
            have hcz157_3 : wc.cell? ⟨gb175, 3, none⟩ = some (u176003) := (blk_cell BK175.out 3).trans rfl
            have hfz157_0 := blk_frozen BK175.out 0
            have hfz157_1 := blk_frozen BK175.out 1
            have hfz157_2 := blk_frozen BK175.out 2
            have hfz157_3 := blk_frozen BK175.out 3
            have hnb158 := NB176_178.out
            have hnc158 := NB178_176.out
            have hcz159_0 : wc.cell? ⟨gb176, 0, none⟩ = some (.int .i64 x177000_9) := (blk_cell BK176.out 0).trans rfl
            have hcz159_1 : wc.cell? ⟨gb176, 1, none⟩ = some (.slice none 0 0) := (blk_cell BK176.out 1).trans rfl
            have hcz159_2 : wc.cell? ⟨gb176, 2, none⟩ = some (.slice none 0 0) := (blk_cell BK176.out 2).trans rfl
            have hcz159_3 : wc.cell? ⟨gb176, 3, none⟩ = some (.slice none 0 0) := (blk_cell BK176.out 3).trans rfl
            have hfz159_0 := blk_frozen BK176.out 0
            have hfz159_1 := blk_frozen BK176.out 1
            have hfz159_2 := blk_frozen BK176.out 2
            have hfz159_3 := blk_frozen BK176.out 3
            obtain ⟨Ao160, co160, eo160⟩ := Kd.R_slice HO_176001.out
            subst eo160
            obtain ⟨Ao161, co161, eo161⟩ := Kd.R_slice HO_176002.out
            subst eo161
            obtain ⟨Ao162, co162, eo162⟩ := Kd.R_slice HO_176003.out
            subst eo162
            go_wp2
            refine bodyPost_ret (results_ctt rfl _ _ gb176 116 #[.int .i64 (wrap64 (a2_0 + 1)), .slice Ao160 x176001_9.length co160, .slice Ao161 x176002_9.length co161, .slice Ao162 x176003_9.length co162] (0, 0) _ rfl (by (with_reducible repeat (first | refine on_ ?_ _ | refine od_ ?_ | refine oa_ ?_ _)); refine blk_put (cs := #[.int .i64 (wrap64 (a2_0 + 1)), .slice Ao160 x176001_9.length co160, .slice Ao161 x176002_9.length co161, .slice none 0 0]) ?_ 3 _ rfl; refine blk_put (cs := #[.int .i64 (wrap64 (a2_0 + 1)), .slice Ao160 x176001_9.length co160, .slice none 0 0, .slice none 0 0]) ?_ 2 _ rfl; refine blk_put (cs := #[.int .i64 (wrap64 (a2_0 + 1)), .slice none 0 0, .slice none 0 0, .slice none 0 0]) ?_ 1 _ rfl; refine blk_put (cs := #[.int .i64 x177000_9, .slice none 0 0, .slice none 0 0, .slice none 0 0]) ?_ 0 _ rfl; refine blk_far ?_ NB176_175.out _; (with_reducible repeat (first | refine on_ ?_ _ | refine od_ ?_ | refine oa_ ?_ _)); exact BK176.out) Try.underlying116 rfl (by kernel_rfl)) rfl ?_
            exact ⟨_, _, _, by first | rfl | (simp <;> rfl) | (simp [*] <;> rfl), by (with_reducible repeat (first | apply Ra_ | apply Rn_ | apply Rd_)); exact Kd.R_mono (Kd.R_far (p := ⟨gb176, 3, none⟩) (Kd.R_far (p := ⟨gb176, 2, none⟩) (Kd.R_far (p := ⟨gb176, 1, none⟩) (Kd.R_far (p := ⟨gb176, 0, none⟩) (Kd.R_far (p := ⟨gb175, 0, none⟩) (Kd.R_types (Kd.R_types HO_176001.out BK175.out (by decide)) BK176.out (by decide)) (fun _ hk => hk.1.2) (.int .i64 (wrap64 (a2_0 + 1)))) (fun _ hk => hk.2) (.int .i64 (wrap64 (a2_0 + 1)))) (fun _ hk => hk.2) (.slice Ao160 x176001_9.length co160)) (fun _ hk => hk.2) (.slice Ao161 x176002_9.length co161)) (fun _ hk => hk.2) (.slice Ao162 x176003_9.length co162)) (fun _ hk => ⟨hk.1.1.1, hk.1.1.2⟩), by (with_reducible repeat (first | apply Ra_ | apply Rn_ | apply Rd_)); exact Kd.R_mono (Kd.R_far (p := ⟨gb176, 3, none⟩) (Kd.R_far (p := ⟨gb176, 2, none⟩) (Kd.R_far (p := ⟨gb176, 1, none⟩) (Kd.R_far (p := ⟨gb176, 0, none⟩) (Kd.R_far (p := ⟨gb175, 0, none⟩) (Kd.R_types (Kd.R_types HO_176002.out BK175.out (by decide)) BK176.out (by decide)) (fun _ hk => hk.1.2) (.int .i64 (wrap64 (a2_0 + 1)))) (fun _ hk => hk.2) (.int .i64 (wrap64 (a2_0 + 1)))) (fun _ hk => hk.2) (.slice Ao160 x176001_9.length co160)) (fun _ hk => hk.2) (.slice Ao161 x176002_9.length co161)) (fun _ hk => hk.2) (.slice Ao162 x176003_9.length co162)) (fun _ hk => ⟨hk.1.1.1, hk.1.1.2⟩), by (with_reducible repeat (first | apply Ra_ | apply Rn_ | apply Rd_)); exact Kd.R_mono (Kd.R_far (p := ⟨gb176, 3, none⟩) (Kd.R_far (p := ⟨gb176, 2, none⟩) (Kd.R_far (p := ⟨gb176, 1, none⟩) (Kd.R_far (p := ⟨gb176, 0, none⟩) (Kd.R_far (p := ⟨gb175, 0, none⟩) (Kd.R_types (Kd.R_types HO_176003.out BK175.out (by decide)) BK176.out (by decide)) (fun _ hk => hk.1.2) (.int .i64 (wrap64 (a2_0 + 1)))) (fun _ hk => hk.2) (.int .i64 (wrap64 (a2_0 + 1)))) (fun _ hk => hk.2) (.slice Ao160 x176001_9.length co160)) (fun _ hk => hk.2) (.slice Ao161 x176002_9.length co161)) (fun _ hk => hk.2) (.slice Ao162 x176003_9.length co162)) (fun _ hk => hk.1.1), by repeat (first | (with_reducible first | exact HB.out | apply ba_ | apply bn_ | apply bd_ | refine bs_ ?_ GE175.out | refine bs_ ?_ GE176.out | refine bs_ ?_ GE178.out) | exact HB.out), by repeat (first | (with_reducible first | exact HK.out | apply Kept.alloc | apply Kept.drewN | apply Kept.drew | refine Kept.setCell ?_ (.inr GW175.out) _ | refine Kept.setCell ?_ (.inr GW176.out) _ | refine Kept.setCell ?_ (.inr GW178.out) _) | exact HK.out)⟩
      rw [if_neg c9] at H
      exact absurd H (by simp)
     rw [if_neg c8] at H
     exact absurd H (by simp)
    rw [if_neg c7] at H
    exact absurd H (by simp)
   rw [if_neg c6] at H
   exact absurd H (by simp)
  rw [if_neg c5] at H
  exact absurd H (by simp)
 rw [if_neg c4] at H
 exact absurd H (by simp)
end Go.Proofs.Ytjopmdogdmdanaa.PFnExactTraceOf
-- squeezed
