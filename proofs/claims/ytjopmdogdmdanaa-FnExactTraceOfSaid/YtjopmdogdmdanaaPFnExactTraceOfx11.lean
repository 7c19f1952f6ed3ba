-- Made by a program of this session (wip/tools), which leans on the kit's print: checked by Lean alone.
import Derived.Test.YtjopmdogdmdanaaPFnExactTraceOfx0
import Derived.Test.YtjopmdogdmdanaaPFnExactTraceOfx10
namespace Go.Proofs.Ytjopmdogdmdanaa.PFnExactTraceOf
open Go.RowKit Go.Proofs.YtjopmdogdmdanaaW.PrintWords Go.Proofs.YtjopmdogdmdanaaW.PrintLast Go.Proofs.YtjopmdogdmdanaaW.PrintMore
attribute [local go_sem] max2_int min2_int max_two min_two max_three min_three max_four min_four   -- for this text's walks alone
set_option linter.unusedVariables false
set_option linter.unusedSimpArgs false
mutual
def impl_Machine_step.j0 : Nat → List Int → Int → Int → Bool → Int → List Int → List Int → List Bool → Int → Int → Int → Int → Int → Int → Option (Int × Bool × Int × List Int × List Int × List Bool)
 | 0, _, _, _, _, _, _, _, _, _, _, _, _, _, _ => none
 | k + 1, x2, x9, x29, x103, x252000, x252001, x252002, x252003, x254000, x254001, x254002, x254003, x254004, x254005 => if x103 = true then (if 0 ≤ x254002 then (if x254002 < (x252001.length : Int) then (some (0, false, x9, (x252001.set (x254002 : Int).toNat x254004), x252002, x252003)) else (none)) else (none)) else (if x29 = 5 then (if 0 ≤ x254003 then (if x254003 < (x252001.length : Int) then (if (wrap64 ((rd x252001 x254003) + x254004)) ≥ 8 then (some (1, false, x252000, x252001, x252002, x252003)) else (if 0 ≤ (wrap64 ((rd x252001 x254003) + x254004)) then (if (wrap64 ((rd x252001 x254003) + x254004)) < (x2.length : Int) then (if 0 ≤ x254002 then (if x254002 < (x252001.length : Int) then (some (0, false, x9, (x252001.set (x254002 : Int).toNat (rd x2 (wrap64 ((rd x252001 x254003) + x254004)))), x252002, x252003)) else (none)) else (none)) else (none)) else (none))) else (none)) else (none)) else (if x29 = 7 then (impl_Machine_step.j1 k x9 x29 (x29 == 7) x252000 x252001 x252002 x252003 x254000 x254001 x254002 x254003 x254004 x254005) else (impl_Machine_step.j1 k x9 x29 (x29 == 6) x252000 x252001 x252002 x252003 x254000 x254001 x254002 x254003 x254004 x254005)))
def impl_Machine_step.j1 : Nat → Int → Int → Bool → Int → List Int → List Int → List Bool → Int → Int → Int → Int → Int → Int → Option (Int × Bool × Int × List Int × List Int × List Bool)
 | 0, _, _, _, _, _, _, _, _, _, _, _, _, _ => none
 | k + 1, x9, x29, x132, x252000, x252001, x252002, x252003, x254000, x254001, x254002, x254003, x254004, x254005 => if x132 = true then (if x254004 ≥ 16 then (some (2, false, x252000, x252001, x252002, x252003)) else (if x254000 = 7 then (if 0 ≤ x254002 then (if x254002 < (x252001.length : Int) then (if 0 ≤ x254004 then (if x254004 < (x252002.length : Int) then (if x254004 < (x252003.length : Int) then (some (0, false, x9, x252001, (x252002.set (x254004 : Int).toNat (rd x252001 x254002)), (x252003.set (x254004 : Int).toNat true))) else (none)) else (none)) else (none)) else (none)) else (none)) else (if 0 ≤ x254004 then (if x254004 < (x252003.length : Int) then (if rdOf false x252003 x254004 = true then (if x254004 < (x252002.length : Int) then (if 0 ≤ x254002 then (if x254002 < (x252001.length : Int) then (some (0, false, x9, (x252001.set (x254002 : Int).toNat (rd x252002 x254004)), x252002, x252003)) else (none)) else (none)) else (none)) else (some (3, false, x252000, x252001, x252002, x252003))) else (none)) else (none)))) else (if x29 = 11 then (some (0, true, x252000, x252001, x252002, x252003)) else (if x29 = 8 then (some (0, false, wrap64 (x9 + x254005), x252001, x252002, x252003)) else (if x254000 = 9 then (if 0 ≤ x254002 then (if x254002 < (x252001.length : Int) then (if 0 ≤ x254003 then (if x254003 < (x252001.length : Int) then (if (rd x252001 x254002) = (rd x252001 x254003) then (impl_Machine_step.j2 k x9 true x252000 x252001 x252002 x252003 x254000 x254001 x254002 x254003 x254004 x254005) else (if x254000 = 10 then (impl_Machine_step.j2 k x9 (decide ((rd x252001 x254002) < (rd x252001 x254003))) x252000 x252001 x252002 x252003 x254000 x254001 x254002 x254003 x254004 x254005) else (impl_Machine_step.j2 k x9 false x252000 x252001 x252002 x252003 x254000 x254001 x254002 x254003 x254004 x254005))) else (none)) else (none)) else (none)) else (none)) else (if x254000 = 10 then (if 0 ≤ x254002 then (if x254002 < (x252001.length : Int) then (if 0 ≤ x254003 then (if x254003 < (x252001.length : Int) then (impl_Machine_step.j2 k x9 (decide ((rd x252001 x254002) < (rd x252001 x254003))) x252000 x252001 x252002 x252003 x254000 x254001 x254002 x254003 x254004 x254005) else (none)) else (none)) else (none)) else (none)) else (impl_Machine_step.j2 k x9 false x252000 x252001 x252002 x252003 x254000 x254001 x254002 x254003 x254004 x254005)))))
def impl_Machine_step.j2 : Nat → Int → Bool → Int → List Int → List Int → List Bool → Int → Int → Int → Int → Int → Int → Option (Int × Bool × Int × List Int × List Int × List Bool)
 | 0, _, _, _, _, _, _, _, _, _, _, _, _ => none
 | k + 1, x9, x63, x252000, x252001, x252002, x252003, x254000, x254001, x254002, x254003, x254004, x254005 => if x63 = true then (some (0, false, wrap64 (x9 + x254005), x252001, x252002, x252003)) else (some (0, false, x9, x252001, x252002, x252003))
end
def impl_Machine_step.f (k : Nat) (a0_0 : Int) (l0_1 : List Int) (l0_2 : List Int) (l0_3 : List Bool) (l1 : List (S26)) (l2 : List Int) : Option (Int × Bool × Int × List Int × List Int × List Bool) := if 0 ≤ a0_0 then (if a0_0 < (l1.length : Int) then (if ((rd_T26 l1 a0_0).f0) = 1 then (if 0 ≤ ((rd_T26 l1 a0_0).f2) then (if ((rd_T26 l1 a0_0).f2) < (l0_1.length : Int) then (if 0 ≤ ((rd_T26 l1 a0_0).f3) then (if ((rd_T26 l1 a0_0).f3) < (l0_1.length : Int) then ((impl_do.f ((rd_T26 l1 a0_0).f1) (rd l0_1 ((rd_T26 l1 a0_0).f2)) (rd l0_1 ((rd_T26 l1 a0_0).f3))).bind fun t256 => (some (0, false, wrap64 (a0_0 + 1), (l0_1.set (((rd_T26 l1 a0_0).f2) : Int).toNat t256), l0_2, l0_3))) else (none)) else (none)) else (none)) else (none)) else (if ((rd_T26 l1 a0_0).f0) = 2 then (if 0 ≤ ((rd_T26 l1 a0_0).f2) then (if ((rd_T26 l1 a0_0).f2) < (l0_1.length : Int) then ((impl_do.f ((rd_T26 l1 a0_0).f1) (rd l0_1 ((rd_T26 l1 a0_0).f2)) ((rd_T26 l1 a0_0).f4)).bind fun t259 => (some (0, false, wrap64 (a0_0 + 1), (l0_1.set (((rd_T26 l1 a0_0).f2) : Int).toNat t259), l0_2, l0_3))) else (none)) else (none)) else (if ((rd_T26 l1 a0_0).f0) = 3 then (impl_Machine_step.j0 k l2 (wrap64 (a0_0 + 1)) ((rd_T26 l1 a0_0).f0) (((rd_T26 l1 a0_0).f0) == 3) a0_0 l0_1 l0_2 l0_3 ((rd_T26 l1 a0_0).f0) ((rd_T26 l1 a0_0).f1) ((rd_T26 l1 a0_0).f2) ((rd_T26 l1 a0_0).f3) ((rd_T26 l1 a0_0).f4) ((rd_T26 l1 a0_0).f5)) else (impl_Machine_step.j0 k l2 (wrap64 (a0_0 + 1)) ((rd_T26 l1 a0_0).f0) (((rd_T26 l1 a0_0).f0) == 4) a0_0 l0_1 l0_2 l0_3 ((rd_T26 l1 a0_0).f0) ((rd_T26 l1 a0_0).f1) ((rd_T26 l1 a0_0).f2) ((rd_T26 l1 a0_0).f3) ((rd_T26 l1 a0_0).f4) ((rd_T26 l1 a0_0).f5))))) else (none)) else (none)
theorem impl_Machine_step.mono_l : ∀ k, (∀ y0 y1 y2 y3 y4 y5 y6 y7 y8 y9 y10 y11 y12 y13, LeO (impl_Machine_step.j0 k y0 y1 y2 y3 y4 y5 y6 y7 y8 y9 y10 y11 y12 y13) (impl_Machine_step.j0 (k + 1) y0 y1 y2 y3 y4 y5 y6 y7 y8 y9 y10 y11 y12 y13)) ∧ (∀ y0 y1 y2 y3 y4 y5 y6 y7 y8 y9 y10 y11 y12, LeO (impl_Machine_step.j1 k y0 y1 y2 y3 y4 y5 y6 y7 y8 y9 y10 y11 y12) (impl_Machine_step.j1 (k + 1) y0 y1 y2 y3 y4 y5 y6 y7 y8 y9 y10 y11 y12)) ∧ (∀ y0 y1 y2 y3 y4 y5 y6 y7 y8 y9 y10 y11, LeO (impl_Machine_step.j2 k y0 y1 y2 y3 y4 y5 y6 y7 y8 y9 y10 y11) (impl_Machine_step.j2 (k + 1) y0 y1 y2 y3 y4 y5 y6 y7 y8 y9 y10 y11))
 | 0 => ⟨fun _ _ _ _ _ _ _ _ _ _ _ _ _ _ r h => by simp [impl_Machine_step.j0] at h, fun _ _ _ _ _ _ _ _ _ _ _ _ _ r h => by simp [impl_Machine_step.j1] at h, fun _ _ _ _ _ _ _ _ _ _ _ _ r h => by simp [impl_Machine_step.j2] at h⟩
 | k + 1 => by
  obtain ⟨ih0, ih1, ih2⟩ := impl_Machine_step.mono_l k
  refine ⟨?_, ?_, ?_⟩
  ·intro y0 y1 y2 y3 y4 y5 y6 y7 y8 y9 y10 y11 y12 y13
   unfold impl_Machine_step.j0
   repeat' first
   | (with_reducible exact ih0 _ _ _ _ _ _ _ _ _ _ _ _ _ _)
   | (with_reducible exact ih1 _ _ _ _ _ _ _ _ _ _ _ _ _)
   | (with_reducible exact ih2 _ _ _ _ _ _ _ _ _ _ _ _)
   | (with_reducible exact LeO.refl _)
   | (with_reducible exact LeO.none _)
   | (with_reducible refine LeO.ite ?_ ?_)
   | (with_reducible refine LeO.bind ?_ (fun _ => ?_))
   | exact ih0 _ _ _ _ _ _ _ _ _ _ _ _ _ _
   | exact ih1 _ _ _ _ _ _ _ _ _ _ _ _ _
   | exact ih2 _ _ _ _ _ _ _ _ _ _ _ _
   | exact LeO.none _
   | refine LeO.ite ?_ ?_
   | refine LeO.bind ?_ (fun _ => ?_)
  ·intro y0 y1 y2 y3 y4 y5 y6 y7 y8 y9 y10 y11 y12
   unfold impl_Machine_step.j1
   repeat' first
   | (with_reducible exact ih0 _ _ _ _ _ _ _ _ _ _ _ _ _ _)
   | (with_reducible exact ih1 _ _ _ _ _ _ _ _ _ _ _ _ _)
   | (with_reducible exact ih2 _ _ _ _ _ _ _ _ _ _ _ _)
   | (with_reducible exact LeO.refl _)
   | (with_reducible exact LeO.none _)
   | (with_reducible refine LeO.ite ?_ ?_)
   | (with_reducible refine LeO.bind ?_ (fun _ => ?_))
   | exact ih0 _ _ _ _ _ _ _ _ _ _ _ _ _ _
   | exact ih1 _ _ _ _ _ _ _ _ _ _ _ _ _
   | exact ih2 _ _ _ _ _ _ _ _ _ _ _ _
   | exact LeO.none _
   | refine LeO.ite ?_ ?_
   | refine LeO.bind ?_ (fun _ => ?_)
  ·intro y0 y1 y2 y3 y4 y5 y6 y7 y8 y9 y10 y11
   unfold impl_Machine_step.j2
   repeat' first
   | (with_reducible exact ih0 _ _ _ _ _ _ _ _ _ _ _ _ _ _)
   | (with_reducible exact ih1 _ _ _ _ _ _ _ _ _ _ _ _ _)
   | (with_reducible exact ih2 _ _ _ _ _ _ _ _ _ _ _ _)
   | (with_reducible exact LeO.refl _)
   | (with_reducible exact LeO.none _)
   | (with_reducible refine LeO.ite ?_ ?_)
   | (with_reducible refine LeO.bind ?_ (fun _ => ?_))
   | exact ih0 _ _ _ _ _ _ _ _ _ _ _ _ _ _
   | exact ih1 _ _ _ _ _ _ _ _ _ _ _ _ _
   | exact ih2 _ _ _ _ _ _ _ _ _ _ _ _
   | exact LeO.none _
   | refine LeO.ite ?_ ?_
   | refine LeO.bind ?_ (fun _ => ?_)
theorem impl_Machine_step.mono : ∀ a0 a1 a2 a3 a4 a5 k, LeO (impl_Machine_step.f k a0 a1 a2 a3 a4 a5) (impl_Machine_step.f (k + 1) a0 a1 a2 a3 a4 a5) := by
 intro a0 a1 a2 a3 a4 a5 k
 obtain ⟨ih0, ih1, ih2⟩ := impl_Machine_step.mono_l k
 unfold impl_Machine_step.f
 repeat' first
   | (with_reducible exact ih0 _ _ _ _ _ _ _ _ _ _ _ _ _ _)
   | (with_reducible exact ih1 _ _ _ _ _ _ _ _ _ _ _ _ _)
   | (with_reducible exact ih2 _ _ _ _ _ _ _ _ _ _ _ _)
   | (with_reducible exact LeO.refl _)
   | (with_reducible exact LeO.none _)
   | (with_reducible refine LeO.ite ?_ ?_)
   | (with_reducible refine LeO.bind ?_ (fun _ => ?_))
   | exact ih0 _ _ _ _ _ _ _ _ _ _ _ _ _ _
   | exact ih1 _ _ _ _ _ _ _ _ _ _ _ _ _
   | exact ih2 _ _ _ _ _ _ _ _ _ _ _ _
   | exact LeO.none _
   | refine LeO.ite ?_ ?_
   | refine LeO.bind ?_ (fun _ => ?_)
def impl_Machine_step.T5 : Bool × List (List Nat × List Nat) := (true, [([], []), ([0], [0]), ([1], [1]), ([2], [2]), ([3], [3]), ([3], [3]), ([5, 3], [3, 5]), ([4, 6, 3], [3, 4, 6]), ([7, 3], [3, 7]), ([3], [3]), ([3], [3]), ([10, 3], [3, 10]), ([9, 11, 3], [3, 9, 11]), ([12, 3], [3, 12]), ([8, 13, 3], [3, 8, 13]), ([3, 14], [3, 14]), ([15, 3], [15]), ([16], [16]), ([17, 16], [16, 17]), ([18, 16], [16, 18]), ([19, 16, 16], [16, 19]), ([20], [20]), ([20], [20]), ([22, 20], [20, 22]), ([21, 23, 20], [20, 21, 23]), ([24, 20], [20, 24]), ([20], [20]), ([20], [20]), ([27, 20], [20, 27]), ([26, 28, 20], [20, 26, 28]), ([29, 20], [20, 29]), ([25, 30, 20], [20, 25, 30]), ([20, 31, 16], [16, 20, 31]), ([16, 32], [16, 32])])
def impl_Machine_step.B5 : List Nat := [0, 1, 3, 7, 15, 15, 47, 127, 255, 15, 15, 1039, 3599, 7695, 16383, 32767, 65535, 131071, 262143, 524287, 1048575, 2097151, 2097151, 6291455, 16777215, 33554431, 2097151, 2097151, 136314879, 471859199, 1008730111, 2147483647, 4294967295, 8589934591]
theorem impl_Machine_step.tab5 : rtab .any (opsOf Try.f96 5) = impl_Machine_step.T5 := by kernel_rfl
theorem impl_Machine_step.bits5 : waitsOk impl_Machine_step.T5.2 impl_Machine_step.B5 = true := by kernel_rfl
def impl_Machine_step.T8 : Bool × List (List Nat × List Nat) := (true, [([], []), ([], []), ([1], [1]), ([], []), ([3], [3]), ([], []), ([], []), ([6], [6]), ([5, 7], [5, 7]), ([8], [8]), ([], []), ([], []), ([11], [11]), ([10, 12], [10, 12]), ([13], [13]), ([4, 9, 14], [4, 9, 14]), ([0, 2, 0, 1, 2, 3, 4, 5, 6, 7, 8, 9, 10, 11, 12, 13, 14, 15], [0, 2]), ([16, 15, 15, 0, 1, 2, 3, 4, 5, 6, 7, 8, 9, 10, 11, 12, 13, 14, 15], [15, 16])])
def impl_Machine_step.B8 : List Nat := [0, 0, 2, 0, 8, 0, 0, 64, 224, 480, 0, 0, 2048, 7168, 15360, 32760, 65535, 131071]
theorem impl_Machine_step.tab8 : rtab .any (opsOf Try.f96 8) = impl_Machine_step.T8 := by kernel_rfl
theorem impl_Machine_step.bits8 : waitsOk impl_Machine_step.T8.2 impl_Machine_step.B8 = true := by kernel_rfl
def impl_Machine_step.T10 : Bool × List (List Nat × List Nat) := (true, [([], []), ([], []), ([1], [1]), ([], []), ([3], [3]), ([], []), ([], []), ([6], [6]), ([5, 7], [5, 7]), ([8], [8]), ([], []), ([10], [10]), ([4, 9, 11], [4, 9, 11]), ([0, 2, 0, 1, 2, 3, 4, 5, 6, 7, 8, 9, 10, 11, 12], [0, 2]), ([13, 12, 12, 0, 1, 2, 3, 4, 5, 6, 7, 8, 9, 10, 11, 12], [12, 13])])
def impl_Machine_step.B10 : List Nat := [0, 0, 2, 0, 8, 0, 0, 64, 224, 480, 0, 1024, 4088, 8191, 16383]
theorem impl_Machine_step.tab10 : rtab .any (opsOf Try.f96 10) = impl_Machine_step.T10 := by kernel_rfl
theorem impl_Machine_step.bits10 : waitsOk impl_Machine_step.T10.2 impl_Machine_step.B10 = true := by kernel_rfl
def impl_Machine_step.T15 : Bool × List (List Nat × List Nat) := (true, [([], []), ([], []), ([1], [1]), ([0, 2], [0, 2]), ([3], [3]), ([], []), ([5], [5]), ([4, 6], [4, 6]), ([7, 0, 1, 2, 3, 4, 5, 6, 7], [7])])
def impl_Machine_step.B15 : List Nat := [0, 0, 2, 7, 15, 0, 32, 127, 255]
theorem impl_Machine_step.tab15 : rtab .any (opsOf Try.f96 15) = impl_Machine_step.T15 := by kernel_rfl
theorem impl_Machine_step.bits15 : waitsOk impl_Machine_step.T15.2 impl_Machine_step.B15 = true := by kernel_rfl
def impl_Machine_step.T18 : Bool × List (List Nat × List Nat) := (true, [([], []), ([], []), ([1], [1]), ([], []), ([], []), ([3, 4], [3, 4]), ([5], [5]), ([0, 2, 0, 1, 2, 3, 4, 5, 6], [0, 2]), ([7, 6, 0, 1, 2, 3, 4, 5, 6], [6, 7])])
def impl_Machine_step.B18 : List Nat := [0, 0, 2, 0, 0, 24, 56, 127, 255]
theorem impl_Machine_step.tab18 : rtab .any (opsOf Try.f96 18) = impl_Machine_step.T18 := by kernel_rfl
theorem impl_Machine_step.bits18 : waitsOk impl_Machine_step.T18.2 impl_Machine_step.B18 = true := by kernel_rfl
def impl_Machine_step.T24 : Bool × List (List Nat × List Nat) := (true, [([], []), ([0], [0]), ([1], [1]), ([2], [2]), ([], []), ([4], [4]), ([], []), ([6], [6]), ([7], [7]), ([8], [8]), ([], []), ([10], [10]), ([], []), ([], []), ([13], [13]), ([12, 14], [12, 14]), ([15], [15]), ([3, 5, 0, 1, 2, 3, 4, 5, 9, 12, 13, 14, 15, 16], [3, 5]), ([17, 16, 0, 1, 2, 3, 4, 5, 9, 12, 13, 14, 15, 16], [16, 17]), ([9, 11, 0, 1, 2, 3, 4, 5, 6, 7, 8, 9, 10, 11, 12, 13, 14, 15, 16, 17, 18], [9, 11]), ([19, 18, 0, 1, 2, 3, 4, 5, 6, 7, 8, 9, 10, 11, 12, 13, 14, 15, 16, 17, 18], [19])])
def impl_Machine_step.B24 : List Nat := [0, 1, 3, 7, 0, 16, 0, 64, 192, 448, 0, 1024, 0, 0, 8192, 28672, 61440, 127999, 259071, 524287, 1048575]
theorem impl_Machine_step.tab24 : rtab .any (opsOf Try.f96 24) = impl_Machine_step.T24 := by kernel_rfl
theorem impl_Machine_step.bits24 : waitsOk impl_Machine_step.T24.2 impl_Machine_step.B24 = true := by kernel_rfl
def impl_Machine_step.T25 : Bool × List (List Nat × List Nat) := (true, [([], []), ([0], [0]), ([1], [1]), ([2], [2]), ([], []), ([4], [4]), ([3, 5], [3, 5]), ([6], [6]), ([7], [7])])
def impl_Machine_step.B25 : List Nat := [0, 1, 3, 7, 0, 16, 63, 127, 255]
theorem impl_Machine_step.tab25 : rtab .any (opsOf Try.f96 25) = impl_Machine_step.T25 := by kernel_rfl
theorem impl_Machine_step.bits25 : waitsOk impl_Machine_step.T25.2 impl_Machine_step.B25 = true := by kernel_rfl
def impl_Machine_step.T27 : Bool × List (List Nat × List Nat) := (true, [([], []), ([], []), ([1], [1]), ([], []), ([3], [3]), ([4], [4]), ([5], [5]), ([], []), ([7], [7]), ([6, 8], [6, 8]), ([9], [9]), ([0, 2, 0, 1, 2, 3, 4, 5, 6, 7, 8, 9, 10], [0, 2]), ([11, 10, 0, 1, 2, 3, 4, 5, 6, 7, 8, 9, 10], [10, 11])])
def impl_Machine_step.B27 : List Nat := [0, 0, 2, 0, 8, 24, 56, 0, 128, 504, 1016, 2047, 4095]
theorem impl_Machine_step.tab27 : rtab .any (opsOf Try.f96 27) = impl_Machine_step.T27 := by kernel_rfl
theorem impl_Machine_step.bits27 : waitsOk impl_Machine_step.T27.2 impl_Machine_step.B27 = true := by kernel_rfl
set_option maxHeartbeats 8000000 in
set_option maxRecDepth 100000 in
theorem impl_Machine_step.calls (k : Nat) (g : Nat) (a0_0 : Int) (P0_1_ : Nat → Prop) (u9000_ : Value) (l0_1 : List Int) (P0_2_ : Nat → Prop) (u9001_ : Value) (l0_2 : List Int) (P0_3_ : Nat → Prop) (u9002_ : Value) (l0_3 : List Bool) (A1 : Option Addr) (c1 : Nat) (l1 : List (S26)) (A2 : Option Addr) (c2 : Nat) (l2 : List Int) (r1 : Int) (r2 : Bool) (r3 : Int) (r4 : List Int) (r5 : List Int) (r6 : List Bool) (w0 w : World) (hbx : w.heap[g]? = some (.cells #[.int .i64 a0_0, u9000_, u9001_, u9002_] 116 (0, 0))) (hbg : w0.heap.size ≤ g) (hB : Below w0.heap.size w0 w) (ho0_1 : Kd.R (Kd.int .i64) 3 w w0.heap.size P0_1_ u9000_ l0_1) (hp0_1_0_2 : ∀ k_, P0_1_ k_ → ¬ P0_2_ k_) (ho0_2 : Kd.R (Kd.int .i64) 3 w w0.heap.size P0_2_ u9001_ l0_2) (hp0_2_0_1 : ∀ k_, P0_2_ k_ → ¬ P0_1_ k_) (ho0_3 : Kd.R Kd.bool 4 w w0.heap.size P0_3_ u9002_ l0_3) (hr1 : ∀ W_, Kept w W_ (fun k_ => (P0_1_ k_ ∨ P0_2_ k_ ∨ P0_3_ k_) ∨ k_ = g) → Kd.C k26 W_ A1 l1.length l1) (hc1 : l1.length ≤ c1) (hr2 : ∀ W_, Kept w W_ (fun k_ => (P0_1_ k_ ∨ P0_2_ k_ ∨ P0_3_ k_) ∨ k_ = g) → Kd.C (Kd.int .i64) W_ A2 l2.length l2) (hc2 : l2.length ≤ c2) (h : impl_Machine_step.f k a0_0 l0_1 l0_2 l0_3 l1 l2 = some (r1, r2, r3, r4, r5, r6)) :
  Calls Try.prog 96 #[.pointer (some ⟨g, 0, none⟩), .slice A1 l1.length c1, .slice A2 l2.length c2] w fun e w' => e = .returned (.tuple #[.int .i64 r1, .bool r2]) ∧ w'.heap[g]? = some (.cells #[.int .i64 r3, u9000_, u9001_, u9002_] 116 (0, 0)) ∧ Kd.R (Kd.int .i64) 3 w' w0.heap.size (fun k_ => ((P0_1_ k_ ∨ P0_2_ k_ ∨ P0_3_ k_) ∨ w.heap.size ≤ k_)) u9000_ r4 ∧ Kd.R (Kd.int .i64) 3 w' w0.heap.size (fun k_ => ((P0_1_ k_ ∨ P0_2_ k_ ∨ P0_3_ k_) ∨ w.heap.size ≤ k_)) u9001_ r5 ∧ Kd.R Kd.bool 4 w' w0.heap.size (fun k_ => ((P0_1_ k_ ∨ P0_2_ k_ ∨ P0_3_ k_) ∨ w.heap.size ≤ k_)) u9002_ r6 ∧ Below w0.heap.size w0 w' ∧ Kept w w' (fun k_ => (P0_1_ k_ ∨ P0_2_ k_ ∨ P0_3_ k_) ∨ k_ = g) := by
 have hu26 := Try.underlying26
 have HO0_1 := Aside0.mk (show Kd.R (Kd.int .i64) 3 w w0.heap.size (fun k_ => ((P0_1_ k_ ∨ P0_2_ k_ ∨ P0_3_ k_) ∨ w.heap.size ≤ k_) ∧ some k_ ≠ (u9001_ : Value).ownBlock) u9000_ l0_1 from Kd.R_mono ho0_1 (fun k_ hk => ⟨(.inl (.inl hk)), fun e_ => hp0_1_0_2 k_ hk (ho0_2.1 k_ e_.symm)⟩))
 have HO0_2 := Aside0.mk (show Kd.R (Kd.int .i64) 3 w w0.heap.size (fun k_ => ((P0_1_ k_ ∨ P0_2_ k_ ∨ P0_3_ k_) ∨ w.heap.size ≤ k_) ∧ some k_ ≠ (u9000_ : Value).ownBlock) u9001_ l0_2 from Kd.R_mono ho0_2 (fun k_ hk => ⟨(.inl (.inr (.inl hk))), fun e_ => hp0_2_0_1 k_ hk (ho0_1.1 k_ e_.symm)⟩))
 have HO0_3 := Aside0.mk (show Kd.R Kd.bool 4 w w0.heap.size (fun k_ => ((P0_1_ k_ ∨ P0_2_ k_ ∨ P0_3_ k_) ∨ w.heap.size ≤ k_)) u9002_ l0_3 from Kd.R_mono ho0_3 (fun k_ hk => (.inl (.inr (.inr hk)))))
 have HR1 := Aside0.mk hr1
 have HC1 := Aside0.mk hc1
 clear hr1 hc1
 have HR2 := Aside0.mk hr2
 have HC2 := Aside0.mk hc2
 clear hr2 hc2
 have HK := Aside0.mk (Kept.refl w (fun k_ => (P0_1_ k_ ∨ P0_2_ k_ ∨ P0_3_ k_) ∨ k_ = g))
 have BK251 := Aside0.mk hbx
 have GE251 := Aside0.mk hbg
 clear hbx hbg
 have HW0 := Aside0.mk hB.size
 have HB := Aside0.mk hB
 clear hB
 have H : (if 0 ≤ a0_0 then (if a0_0 < (l1.length : Int) then (if ((rd_T26 l1 a0_0).f0) = 1 then (if 0 ≤ ((rd_T26 l1 a0_0).f2) then (if ((rd_T26 l1 a0_0).f2) < (l0_1.length : Int) then (if 0 ≤ ((rd_T26 l1 a0_0).f3) then (if ((rd_T26 l1 a0_0).f3) < (l0_1.length : Int) then ((impl_do.f ((rd_T26 l1 a0_0).f1) (rd l0_1 ((rd_T26 l1 a0_0).f2)) (rd l0_1 ((rd_T26 l1 a0_0).f3))).bind fun t256 => (some (0, false, wrap64 (a0_0 + 1), (l0_1.set (((rd_T26 l1 a0_0).f2) : Int).toNat t256), l0_2, l0_3))) else (none)) else (none)) else (none)) else (none)) else (if ((rd_T26 l1 a0_0).f0) = 2 then (if 0 ≤ ((rd_T26 l1 a0_0).f2) then (if ((rd_T26 l1 a0_0).f2) < (l0_1.length : Int) then ((impl_do.f ((rd_T26 l1 a0_0).f1) (rd l0_1 ((rd_T26 l1 a0_0).f2)) ((rd_T26 l1 a0_0).f4)).bind fun t259 => (some (0, false, wrap64 (a0_0 + 1), (l0_1.set (((rd_T26 l1 a0_0).f2) : Int).toNat t259), l0_2, l0_3))) else (none)) else (none)) else (if ((rd_T26 l1 a0_0).f0) = 3 then (impl_Machine_step.j0 k l2 (wrap64 (a0_0 + 1)) ((rd_T26 l1 a0_0).f0) (((rd_T26 l1 a0_0).f0) == 3) a0_0 l0_1 l0_2 l0_3 ((rd_T26 l1 a0_0).f0) ((rd_T26 l1 a0_0).f1) ((rd_T26 l1 a0_0).f2) ((rd_T26 l1 a0_0).f3) ((rd_T26 l1 a0_0).f4) ((rd_T26 l1 a0_0).f5)) else (impl_Machine_step.j0 k l2 (wrap64 (a0_0 + 1)) ((rd_T26 l1 a0_0).f0) (((rd_T26 l1 a0_0).f0) == 4) a0_0 l0_1 l0_2 l0_3 ((rd_T26 l1 a0_0).f0) ((rd_T26 l1 a0_0).f1) ((rd_T26 l1 a0_0).f2) ((rd_T26 l1 a0_0).f3) ((rd_T26 l1 a0_0).f4) ((rd_T26 l1 a0_0).f5))))) else (none)) else (none)) = some (r1, r2, r3, r4, r5, r6) := h
 clear h
 by_cases c4 : 0 ≤ a0_0
 ·rw [if_pos c4] at H
  have c4b0 : decide (0 ≤ a0_0) = true := decide_eq_true c4
  clear c4
  by_cases c5 : a0_0 < (l1.length : Int)
  ·rw [if_pos c5] at H
   have c5b0 : decide (a0_0 < (l1.length : Int)) = true := decide_eq_true c5
   clear c5
   by_cases c6 : ((rd_T26 l1 a0_0).f0) = 1
   ·rw [if_pos c6] at H
    have c6b0 : (((rd_T26 l1 a0_0).f0) == 1) = true := beq_iff_eq.mpr c6
    have c6b1 : (((rd_T26 l1 a0_0).f0) != 1) = false := bne_eq_false_iff_eq.mpr c6
    clear c6
    by_cases c7 : 0 ≤ ((rd_T26 l1 a0_0).f2)
    ·rw [if_pos c7] at H
     have c7b0 : decide (0 ≤ ((rd_T26 l1 a0_0).f2)) = true := decide_eq_true c7
     clear c7
     by_cases c8 : ((rd_T26 l1 a0_0).f2) < (l0_1.length : Int)
     ·rw [if_pos c8] at H
      have c8b0 : decide (((rd_T26 l1 a0_0).f2) < (l0_1.length : Int)) = true := decide_eq_true c8
      clear c8
      by_cases c9 : 0 ≤ ((rd_T26 l1 a0_0).f3)
      ·rw [if_pos c9] at H
       have c9b0 : decide (0 ≤ ((rd_T26 l1 a0_0).f3)) = true := decide_eq_true c9
       clear c9
       by_cases c10 : ((rd_T26 l1 a0_0).f3) < (l0_1.length : Int)
       ·rw [if_pos c10] at H
        have c10b0 : decide (((rd_T26 l1 a0_0).f3) < (l0_1.length : Int)) = true := decide_eq_true c10
        clear c10
        replace H := Option.bind_eq_some_iff.mp H
        obtain ⟨t256, A110, H⟩ := H
        (try dsimp only at H)
        have A11 := Aside0.mk A110
        clear A110
        obtain ⟨y257, hy257⟩ : ∃ y_ : List Int, y_ = (l0_1.set (((rd_T26 l1 a0_0).f2) : Int).toNat t256) := ⟨_, rfl⟩
        replace H : (some (0, false, wrap64 (a0_0 + 1), y257, l0_2, l0_3)) = some (r1, r2, r3, r4, r5, r6) := by first | (rw [hy257]; with_reducible exact H) | (have H2_ := (Option.bind_some _ _).symm.trans H; rw [hy257]; with_reducible exact H2_) | (have H2_ := (Option.bind_some _ _).symm.trans H; with_reducible exact H2_) | with_reducible exact H | (rw [hy257]; exact H) | exact H
        have Ny257 := Aside0.mk hy257
        clear hy257
        simp only [Option.some.injEq, Prod.mk.injEq] at H
        obtain ⟨rfl, rfl, rfl, rfl, rfl, rfl⟩ := H
        have hcz13_0 : w.cell? ⟨g, 0, none⟩ = some (.int .i64 a0_0) := (blk_cell BK251.out 0).trans rfl
        have hcz13_1 : w.cell? ⟨g, 1, none⟩ = some (u9000_) := (blk_cell BK251.out 1).trans rfl
        have hcz13_2 : w.cell? ⟨g, 2, none⟩ = some (u9001_) := (blk_cell BK251.out 2).trans rfl
        have hcz13_3 : w.cell? ⟨g, 3, none⟩ = some (u9002_) := (blk_cell BK251.out 3).trans rfl
        have hfz13_0 := blk_frozen BK251.out 0
        have hfz13_1 := blk_frozen BK251.out 1
        have hfz13_2 := blk_frozen BK251.out 2
        have hfz13_3 := blk_frozen BK251.out 3
        have p252 : 0 ≤ (a0_0 : Int) := dt_
        have q252 : a0_0 < (l1.length : Int) := dt_
        obtain ⟨ad252, e252, hx252_0, hx252_1, hx252_2, hx252_3, hx252_4, hx252_5⟩ := at_T26 (Kd.C_kept_now HR1.out HK.out) a0_0 p252 q252
        cases e252
        replace p252 := eq_true p252
        replace q252 := eq_true q252
        go_enter Try.func96, Try.ntmps96
        try go_wp2_with (first | ((with_reducible refine gate_dst (N := 8) rfl ?_); refine box_event ?hg (N := 8) ?hd (cs := #[.int .i64 0, .int .i64 0, .int .i64 0, .int .i64 0, .int .i64 0, .int .i64 0]) (t := 26) ?hr ?_; (case hd => rfl); (case hg => rfl); (case hr => first | (go_simp; done) | (go_simp; rfl)); intro gb253 hg w14 hbox hb; have n0_ := Aside0.mk (Kd.R_below (zR_ HO0_1.out) hb); have n1_ := Aside0.mk (Kd.R_below (zR_ HO0_2.out) hb); have n2_ := Aside0.mk (Kd.R_below (zR_ HO0_3.out) hb); have n3_ := Aside0.mk (blk_below (g := g) (o := .cells #[.int .i64 a0_0, u9000_, u9001_, u9002_] 116 (0, 0)) (zO_ BK251.out) hb); have n4_ := Aside0.mk (Kept.below (S := (fun k_ => (P0_1_ k_ ∨ P0_2_ k_ ∨ P0_3_ k_) ∨ k_ = g)) (by repeat (first | (with_reducible first | exact HK.out | apply Kept.alloc | apply Kept.drewN | apply Kept.drew | refine Kept.setCell ?_ (.inl (.inr rfl)) _ | refine Kept.setCell ?_ (.inr GW251.out) _) | exact HK.out)) hb); have n5_ := Aside0.mk (below_step (by repeat (first | (with_reducible first | exact HB.out | apply ba_ | apply bn_ | apply bd_ | refine bs_ ?_ GE251.out) | exact HB.out)) hb); have n6_ := Aside0.mk (hbox); have n7_ := Aside0.mk ((by rw [hg]; exact (by first | exact HK.out.1 | exact (show Kept w _ (fun k_ => (P0_1_ k_ ∨ P0_2_ k_ ∨ P0_3_ k_) ∨ k_ = g) from by repeat (first | (with_reducible first | exact HK.out | apply Kept.alloc | apply Kept.drewN | apply Kept.drew | refine Kept.setCell ?_ (.inl (.inr rfl)) _ | refine Kept.setCell ?_ (.inr GW251.out) _) | exact HK.out)).1) : w.heap.size ≤ gb253)); have n8_ := Aside0.mk ((by rw [hg]; exact (below_size (by repeat (first | (with_reducible first | exact HB.out | apply ba_ | apply bn_ | apply bd_ | refine bs_ ?_ GE251.out) | exact HB.out))) : w0.heap.size ≤ gb253)); have n9_ := Aside0.mk ((by rw [hg]; exact Nat.ne_of_lt (blk_lt (g := g) (o := .cells #[.int .i64 a0_0, u9000_, u9001_, u9002_] 116 (0, 0)) (zO_ BK251.out)) : g ≠ gb253)); have n10_ := Aside0.mk ((by rw [hg]; exact Nat.ne_of_gt (blk_lt (g := g) (o := .cells #[.int .i64 a0_0, u9000_, u9001_, u9002_] 116 (0, 0)) (zO_ BK251.out)) : gb253 ≠ g)); clear HO0_1; clear HO0_2; clear HO0_3; clear BK251; clear HK; clear HB; have HO0_1 := n0_; have HO0_2 := n1_; have HO0_3 := n2_; have BK251 := n3_; have HK := n4_; have HB := n5_; have BK253 := n6_; have GW253 := n7_; have GE253 := n8_; have NB251_253 := n9_; have NB253_251 := n10_; clear n0_ n1_ n2_ n3_ n4_ n5_ n6_ n7_ n8_ n9_ n10_; clear hb hbox hg; have hnb15 := NB253_251.out; have hnc15 := NB251_253.out; have hcz16_0 : w14.cell? ⟨gb253, 0, none⟩ = some (.int .i64 0) := (blk_cell BK253.out 0).trans rfl; have hcz16_1 : w14.cell? ⟨gb253, 1, none⟩ = some (.int .i64 0) := (blk_cell BK253.out 1).trans rfl; have hcz16_2 : w14.cell? ⟨gb253, 2, none⟩ = some (.int .i64 0) := (blk_cell BK253.out 2).trans rfl; have hcz16_3 : w14.cell? ⟨gb253, 3, none⟩ = some (.int .i64 0) := (blk_cell BK253.out 3).trans rfl; have hcz16_4 : w14.cell? ⟨gb253, 4, none⟩ = some (.int .i64 0) := (blk_cell BK253.out 4).trans rfl; have hcz16_5 : w14.cell? ⟨gb253, 5, none⟩ = some (.int .i64 0) := (blk_cell BK253.out 5).trans rfl; have hfz16_0 := blk_frozen BK253.out 0; have hfz16_1 := blk_frozen BK253.out 1; have hfz16_2 := blk_frozen BK253.out 2; have hfz16_3 := blk_frozen BK253.out 3; have hfz16_4 := blk_frozen BK253.out 4; have hfz16_5 := blk_frozen BK253.out 5; have hcz17_0 : w14.cell? ⟨g, 0, none⟩ = some (.int .i64 a0_0) := (blk_cell BK251.out 0).trans rfl; have hcz17_1 : w14.cell? ⟨g, 1, none⟩ = some (u9000_) := (blk_cell BK251.out 1).trans rfl; have hcz17_2 : w14.cell? ⟨g, 2, none⟩ = some (u9001_) := (blk_cell BK251.out 2).trans rfl; have hcz17_3 : w14.cell? ⟨g, 3, none⟩ = some (u9002_) := (blk_cell BK251.out 3).trans rfl; have hfz17_0 := blk_frozen BK251.out 0; have hfz17_1 := blk_frozen BK251.out 1; have hfz17_2 := blk_frozen BK251.out 2; have hfz17_3 := blk_frozen BK251.out 3))
        (try rw [drewN_set_])
        have n0_ : Aside0 (Kd.R (Kd.int .i64) 3 ((((((w14.setCell ⟨gb253, 0, none⟩ (.int .i64 ((rd_T26 l1 a0_0).f0))).setCell ⟨gb253, 1, none⟩ (.int .i64 ((rd_T26 l1 a0_0).f1))).setCell ⟨gb253, 2, none⟩ (.int .i64 ((rd_T26 l1 a0_0).f2))).setCell ⟨gb253, 3, none⟩ (.int .i64 ((rd_T26 l1 a0_0).f3))).setCell ⟨gb253, 4, none⟩ (.int .i64 ((rd_T26 l1 a0_0).f4))).setCell ⟨gb253, 5, none⟩ (.int .i64 ((rd_T26 l1 a0_0).f5))) w0.heap.size (fun k_ => ((P0_1_ k_ ∨ P0_2_ k_ ∨ P0_3_ k_) ∨ w.heap.size ≤ k_) ∧ some k_ ≠ (u9001_ : Value).ownBlock) u9000_ l0_1) := ⟨by (with_reducible repeat (first | apply Ra_ | apply Rn_ | apply Rd_)); exact Kd.R_mono (Kd.R_far (p := ⟨gb253, 5, none⟩) (Kd.R_far (p := ⟨gb253, 4, none⟩) (Kd.R_far (p := ⟨gb253, 3, none⟩) (Kd.R_far (p := ⟨gb253, 2, none⟩) (Kd.R_far (p := ⟨gb253, 1, none⟩) (Kd.R_far (p := ⟨gb253, 0, none⟩) (Kd.R_types HO0_1.out BK253.out (by decide)) (fun _ hk => hk.2) (.int .i64 ((rd_T26 l1 a0_0).f0))) (fun _ hk => hk.2) (.int .i64 ((rd_T26 l1 a0_0).f1))) (fun _ hk => hk.2) (.int .i64 ((rd_T26 l1 a0_0).f2))) (fun _ hk => hk.2) (.int .i64 ((rd_T26 l1 a0_0).f3))) (fun _ hk => hk.2) (.int .i64 ((rd_T26 l1 a0_0).f4))) (fun _ hk => hk.2) (.int .i64 ((rd_T26 l1 a0_0).f5))) (fun _ hk => ⟨hk.1.1, hk.1.2⟩)⟩
        have n1_ : Aside0 (Kd.R (Kd.int .i64) 3 ((((((w14.setCell ⟨gb253, 0, none⟩ (.int .i64 ((rd_T26 l1 a0_0).f0))).setCell ⟨gb253, 1, none⟩ (.int .i64 ((rd_T26 l1 a0_0).f1))).setCell ⟨gb253, 2, none⟩ (.int .i64 ((rd_T26 l1 a0_0).f2))).setCell ⟨gb253, 3, none⟩ (.int .i64 ((rd_T26 l1 a0_0).f3))).setCell ⟨gb253, 4, none⟩ (.int .i64 ((rd_T26 l1 a0_0).f4))).setCell ⟨gb253, 5, none⟩ (.int .i64 ((rd_T26 l1 a0_0).f5))) w0.heap.size (fun k_ => ((P0_1_ k_ ∨ P0_2_ k_ ∨ P0_3_ k_) ∨ w.heap.size ≤ k_) ∧ some k_ ≠ (u9000_ : Value).ownBlock) u9001_ l0_2) := ⟨by (with_reducible repeat (first | apply Ra_ | apply Rn_ | apply Rd_)); exact Kd.R_mono (Kd.R_far (p := ⟨gb253, 5, none⟩) (Kd.R_far (p := ⟨gb253, 4, none⟩) (Kd.R_far (p := ⟨gb253, 3, none⟩) (Kd.R_far (p := ⟨gb253, 2, none⟩) (Kd.R_far (p := ⟨gb253, 1, none⟩) (Kd.R_far (p := ⟨gb253, 0, none⟩) (Kd.R_types HO0_2.out BK253.out (by decide)) (fun _ hk => hk.2) (.int .i64 ((rd_T26 l1 a0_0).f0))) (fun _ hk => hk.2) (.int .i64 ((rd_T26 l1 a0_0).f1))) (fun _ hk => hk.2) (.int .i64 ((rd_T26 l1 a0_0).f2))) (fun _ hk => hk.2) (.int .i64 ((rd_T26 l1 a0_0).f3))) (fun _ hk => hk.2) (.int .i64 ((rd_T26 l1 a0_0).f4))) (fun _ hk => hk.2) (.int .i64 ((rd_T26 l1 a0_0).f5))) (fun _ hk => ⟨hk.1.1, hk.1.2⟩)⟩
        have n2_ : Aside0 (Kd.R Kd.bool 4 ((((((w14.setCell ⟨gb253, 0, none⟩ (.int .i64 ((rd_T26 l1 a0_0).f0))).setCell ⟨gb253, 1, none⟩ (.int .i64 ((rd_T26 l1 a0_0).f1))).setCell ⟨gb253, 2, none⟩ (.int .i64 ((rd_T26 l1 a0_0).f2))).setCell ⟨gb253, 3, none⟩ (.int .i64 ((rd_T26 l1 a0_0).f3))).setCell ⟨gb253, 4, none⟩ (.int .i64 ((rd_T26 l1 a0_0).f4))).setCell ⟨gb253, 5, none⟩ (.int .i64 ((rd_T26 l1 a0_0).f5))) w0.heap.size (fun k_ => ((P0_1_ k_ ∨ P0_2_ k_ ∨ P0_3_ k_) ∨ w.heap.size ≤ k_)) u9002_ l0_3) := ⟨by (with_reducible repeat (first | apply Ra_ | apply Rn_ | apply Rd_)); exact Kd.R_mono (Kd.R_far (p := ⟨gb253, 5, none⟩) (Kd.R_far (p := ⟨gb253, 4, none⟩) (Kd.R_far (p := ⟨gb253, 3, none⟩) (Kd.R_far (p := ⟨gb253, 2, none⟩) (Kd.R_far (p := ⟨gb253, 1, none⟩) (Kd.R_far (p := ⟨gb253, 0, none⟩) (Kd.R_types HO0_3.out BK253.out (by decide)) (fun _ hk => hk.2) (.int .i64 ((rd_T26 l1 a0_0).f0))) (fun _ hk => hk.2) (.int .i64 ((rd_T26 l1 a0_0).f1))) (fun _ hk => hk.2) (.int .i64 ((rd_T26 l1 a0_0).f2))) (fun _ hk => hk.2) (.int .i64 ((rd_T26 l1 a0_0).f3))) (fun _ hk => hk.2) (.int .i64 ((rd_T26 l1 a0_0).f4))) (fun _ hk => hk.2) (.int .i64 ((rd_T26 l1 a0_0).f5))) (fun _ hk => hk.1)⟩
        have n3_ : Aside0 (((((((w14.setCell ⟨gb253, 0, none⟩ (.int .i64 ((rd_T26 l1 a0_0).f0))).setCell ⟨gb253, 1, none⟩ (.int .i64 ((rd_T26 l1 a0_0).f1))).setCell ⟨gb253, 2, none⟩ (.int .i64 ((rd_T26 l1 a0_0).f2))).setCell ⟨gb253, 3, none⟩ (.int .i64 ((rd_T26 l1 a0_0).f3))).setCell ⟨gb253, 4, none⟩ (.int .i64 ((rd_T26 l1 a0_0).f4))).setCell ⟨gb253, 5, none⟩ (.int .i64 ((rd_T26 l1 a0_0).f5))).heap[g]? = some (.cells #[.int .i64 a0_0, u9000_, u9001_, u9002_] 116 (0, 0))) := ⟨by (with_reducible repeat (first | refine on_ ?_ _ | refine od_ ?_ | refine oa_ ?_ _)); refine blk_far ?_ NB251_253.out _; refine blk_far ?_ NB251_253.out _; refine blk_far ?_ NB251_253.out _; refine blk_far ?_ NB251_253.out _; refine blk_far ?_ NB251_253.out _; refine blk_far ?_ NB251_253.out _; (with_reducible repeat (first | refine on_ ?_ _ | refine od_ ?_ | refine oa_ ?_ _)); exact BK251.out⟩
        have n4_ : Aside0 (((((((w14.setCell ⟨gb253, 0, none⟩ (.int .i64 ((rd_T26 l1 a0_0).f0))).setCell ⟨gb253, 1, none⟩ (.int .i64 ((rd_T26 l1 a0_0).f1))).setCell ⟨gb253, 2, none⟩ (.int .i64 ((rd_T26 l1 a0_0).f2))).setCell ⟨gb253, 3, none⟩ (.int .i64 ((rd_T26 l1 a0_0).f3))).setCell ⟨gb253, 4, none⟩ (.int .i64 ((rd_T26 l1 a0_0).f4))).setCell ⟨gb253, 5, none⟩ (.int .i64 ((rd_T26 l1 a0_0).f5))).heap[gb253]? = some (.cells #[.int .i64 ((rd_T26 l1 a0_0).f0), .int .i64 ((rd_T26 l1 a0_0).f1), .int .i64 ((rd_T26 l1 a0_0).f2), .int .i64 ((rd_T26 l1 a0_0).f3), .int .i64 ((rd_T26 l1 a0_0).f4), .int .i64 ((rd_T26 l1 a0_0).f5)] 26 (0, 0))) := ⟨by (with_reducible repeat (first | refine on_ ?_ _ | refine od_ ?_ | refine oa_ ?_ _)); refine blk_put (cs := #[.int .i64 ((rd_T26 l1 a0_0).f0), .int .i64 ((rd_T26 l1 a0_0).f1), .int .i64 ((rd_T26 l1 a0_0).f2), .int .i64 ((rd_T26 l1 a0_0).f3), .int .i64 ((rd_T26 l1 a0_0).f4), .int .i64 0]) ?_ 5 _ rfl; refine blk_put (cs := #[.int .i64 ((rd_T26 l1 a0_0).f0), .int .i64 ((rd_T26 l1 a0_0).f1), .int .i64 ((rd_T26 l1 a0_0).f2), .int .i64 ((rd_T26 l1 a0_0).f3), .int .i64 0, .int .i64 0]) ?_ 4 _ rfl; refine blk_put (cs := #[.int .i64 ((rd_T26 l1 a0_0).f0), .int .i64 ((rd_T26 l1 a0_0).f1), .int .i64 ((rd_T26 l1 a0_0).f2), .int .i64 0, .int .i64 0, .int .i64 0]) ?_ 3 _ rfl; refine blk_put (cs := #[.int .i64 ((rd_T26 l1 a0_0).f0), .int .i64 ((rd_T26 l1 a0_0).f1), .int .i64 0, .int .i64 0, .int .i64 0, .int .i64 0]) ?_ 2 _ rfl; refine blk_put (cs := #[.int .i64 ((rd_T26 l1 a0_0).f0), .int .i64 0, .int .i64 0, .int .i64 0, .int .i64 0, .int .i64 0]) ?_ 1 _ rfl; refine blk_put (cs := #[.int .i64 0, .int .i64 0, .int .i64 0, .int .i64 0, .int .i64 0, .int .i64 0]) ?_ 0 _ rfl; (with_reducible repeat (first | refine on_ ?_ _ | refine od_ ?_ | refine oa_ ?_ _)); exact BK253.out⟩
        have n5_ : Aside0 (Kept w ((((((w14.setCell ⟨gb253, 0, none⟩ (.int .i64 ((rd_T26 l1 a0_0).f0))).setCell ⟨gb253, 1, none⟩ (.int .i64 ((rd_T26 l1 a0_0).f1))).setCell ⟨gb253, 2, none⟩ (.int .i64 ((rd_T26 l1 a0_0).f2))).setCell ⟨gb253, 3, none⟩ (.int .i64 ((rd_T26 l1 a0_0).f3))).setCell ⟨gb253, 4, none⟩ (.int .i64 ((rd_T26 l1 a0_0).f4))).setCell ⟨gb253, 5, none⟩ (.int .i64 ((rd_T26 l1 a0_0).f5))) (fun k_ => (P0_1_ k_ ∨ P0_2_ k_ ∨ P0_3_ k_) ∨ k_ = g)) := ⟨by repeat (first | (with_reducible first | exact HK.out | apply Kept.alloc | apply Kept.drewN | apply Kept.drew | refine Kept.setCell ?_ (.inl (.inr rfl)) _ | refine Kept.setCell ?_ (.inr GW251.out) _ | refine Kept.setCell ?_ (.inr GW253.out) _) | exact HK.out)⟩
        have n6_ : Aside0 (Below w0.heap.size w0 ((((((w14.setCell ⟨gb253, 0, none⟩ (.int .i64 ((rd_T26 l1 a0_0).f0))).setCell ⟨gb253, 1, none⟩ (.int .i64 ((rd_T26 l1 a0_0).f1))).setCell ⟨gb253, 2, none⟩ (.int .i64 ((rd_T26 l1 a0_0).f2))).setCell ⟨gb253, 3, none⟩ (.int .i64 ((rd_T26 l1 a0_0).f3))).setCell ⟨gb253, 4, none⟩ (.int .i64 ((rd_T26 l1 a0_0).f4))).setCell ⟨gb253, 5, none⟩ (.int .i64 ((rd_T26 l1 a0_0).f5)))) := ⟨by repeat (first | (with_reducible first | exact HB.out | apply ba_ | apply bn_ | apply bd_ | refine bs_ ?_ GE251.out | refine bs_ ?_ GE253.out) | exact HB.out)⟩
        (try clear HO0_1)
        (try clear HO0_2)
        (try clear HO0_3)
        (try clear BK251)
        (try clear BK253)
        (try clear HK)
        (try clear HB)
        generalize ((((((w14.setCell ⟨gb253, 0, none⟩ (.int .i64 ((rd_T26 l1 a0_0).f0))).setCell ⟨gb253, 1, none⟩ (.int .i64 ((rd_T26 l1 a0_0).f1))).setCell ⟨gb253, 2, none⟩ (.int .i64 ((rd_T26 l1 a0_0).f2))).setCell ⟨gb253, 3, none⟩ (.int .i64 ((rd_T26 l1 a0_0).f3))).setCell ⟨gb253, 4, none⟩ (.int .i64 ((rd_T26 l1 a0_0).f4))).setCell ⟨gb253, 5, none⟩ (.int .i64 ((rd_T26 l1 a0_0).f5))) = w18 at n0_ n1_ n2_ n3_ n4_ n5_ n6_ ⊢
        have HO0_1 := n0_
        have HO0_2 := n1_
        have HO0_3 := n2_
        have BK251 := n3_
        have BK253 := n4_
        have HK := n5_
        have HB := n6_
        clear n0_ n1_ n2_ n3_ n4_ n5_ n6_
        have n0_ := Aside0.mk (Kd.R_drew HO0_1.out)
        have n1_ := Aside0.mk (Kd.R_drew HO0_2.out)
        have n2_ := Aside0.mk (Kd.R_drew HO0_3.out)
        have n3_ := Aside0.mk (blk_drew BK251.out)
        have n4_ := Aside0.mk (blk_drew BK253.out)
        have n5_ := Aside0.mk (Kept.drew HK.out)
        have n6_ := Aside0.mk (below_drew1 HB.out)
        clear HO0_1
        clear HO0_2
        clear HO0_3
        clear BK251
        clear BK253
        clear HK
        clear HB
        have HO0_1 := n0_
        have HO0_2 := n1_
        have HO0_3 := n2_
        have BK251 := n3_
        have BK253 := n4_
        have HK := n5_
        have HB := n6_
        clear n0_ n1_ n2_ n3_ n4_ n5_ n6_
        obtain ⟨Ao20, co20, eo20⟩ := Kd.R_slice HO0_1.out
        (first | subst eo20 | (injection eo20 with f1_ f2_ f3_; have f4_ := f1_.symm; have f5_ := f3_.symm; clear f1_ f2_ f3_; subst f4_; subst f5_))
        have p254 : 0 ≤ (((rd_T26 l1 a0_0).f2) : Int) := dt_
        have q254 : ((rd_T26 l1 a0_0).f2) < (l0_1.length : Int) := dt_
        obtain ⟨ad254, e254, hx254_0⟩ := Kd.at_int (Kd.R_reads' HO0_1.out).2.2 ((rd_T26 l1 a0_0).f2) p254 q254
        cases e254
        replace p254 := eq_true p254
        replace q254 := eq_true q254
        have p255 : 0 ≤ (((rd_T26 l1 a0_0).f3) : Int) := dt_
        have q255 : ((rd_T26 l1 a0_0).f3) < (l0_1.length : Int) := dt_
        obtain ⟨ad255, e255, hx255_0⟩ := Kd.at_int (Kd.R_reads' HO0_1.out).2.2 ((rd_T26 l1 a0_0).f3) p255 q255
        obtain rfl : ad254 = ad255 := (by injection e255)
        replace p255 := eq_true p255
        replace q255 := eq_true q255
        refine start_ (n := 18) (S := fun w' => w'.cell? ⟨gb253, 0, none⟩ = some (.int .i64 ((rd_T26 l1 a0_0).f0)) ∧ w'.cell? ⟨gb253, 1, none⟩ = some (.int .i64 ((rd_T26 l1 a0_0).f1)) ∧ w'.cell? ⟨gb253, 2, none⟩ = some (.int .i64 ((rd_T26 l1 a0_0).f2)) ∧ w'.cell? ⟨gb253, 3, none⟩ = some (.int .i64 ((rd_T26 l1 a0_0).f3)) ∧ w'.cell? ⟨gb253, 4, none⟩ = some (.int .i64 ((rd_T26 l1 a0_0).f4)) ∧ w'.cell? ⟨gb253, 5, none⟩ = some (.int .i64 ((rd_T26 l1 a0_0).f5)) ∧ w'.cell? (ad254.add (((rd_T26 l1 a0_0).f2)).toNat) = some (.int .i64 (rd l0_1 ((rd_T26 l1 a0_0).f2))) ∧ w'.cell? (ad254.add (((rd_T26 l1 a0_0).f3)).toNat) = some (.int .i64 (rd l0_1 ((rd_T26 l1 a0_0).f3)))) (ds := [17]) #[false, false, false, false, false, false, false, false, false, false, false, false, false, false, false, false, false, false] (by kernel_rfl) rfl rfl ⟨(blk_cell BK253.out 0).trans rfl, (blk_cell BK253.out 1).trans rfl, (blk_cell BK253.out 2).trans rfl, (blk_cell BK253.out 3).trans rfl, (blk_cell BK253.out 4).trans rfl, (blk_cell BK253.out 5).trans rfl, hx254_0, hx255_0⟩ (fun hHeld => ?_); refine with_tabW impl_Machine_step.tab8 impl_Machine_step.bits8 (fun HT_ HW_ => ?_)
        generalize w18.drew = w19 at HO0_1 HO0_2 HO0_3 BK251 BK253 HK HB hx254_0 hx255_0 hHeld ⊢
        refine pz_ 0 (some 70) (v := ?_) (a' := ?_) (any_of HT_.out (by kernel_rfl)) rfl rfl (fun _ _ _ h => h) (by rfl) ?_ ?_ ?_;rotate_left;intro w';go_simp;with_reducible rfl;rotate_left;simp only [Act.put, yy_];rfl
        refine pz_ 1 (some 71) (v := ?_) (a' := ?_) (any_of HT_.out (by kernel_rfl)) rfl rfl (fun _ _ _ h => h) (by rfl) ?_ ?_ ?_;rotate_left;intro w';go_simp;with_reducible rfl;rotate_left;simp only [Act.put, yy_];rfl
        refine pz_ 3 (some 73) (v := ?_) (a' := ?_) (any_of HT_.out (by kernel_rfl)) rfl rfl (fun _ _ _ h => h) (by rfl) ?_ ?_ ?_;rotate_left;intro w';go_simp;with_reducible rfl;rotate_left;simp only [Act.put, yy_];rfl
        refine pz_ 5 (some 75) (v := ?_) (a' := ?_) (any_of HT_.out (by kernel_rfl)) rfl rfl (fun _ _ _ h => h) (by rfl) ?_ ?_ ?_;rotate_left;intro w';go_simp;with_reducible rfl;rotate_left;simp only [Act.put, yy_];rfl
        refine pz_ 6 (some 76) (v := ?_) (a' := ?_) (any_of HT_.out (by kernel_rfl)) rfl rfl (fun _ _ _ h => h) (by rfl) ?_ ?_ ?_;rotate_left;intro w';go_simp;with_reducible rfl;rotate_left;simp only [Act.put, yy_];rfl
        refine pz_ 10 (some 80) (v := ?_) (a' := ?_) (any_of HT_.out (by kernel_rfl)) rfl rfl (fun _ _ _ h => h) (by rfl) ?_ ?_ ?_;rotate_left;intro w';go_simp;with_reducible rfl;rotate_left;simp only [Act.put, yy_];rfl
        refine pz_ 11 (some 81) (v := ?_) (a' := ?_) (any_of HT_.out (by kernel_rfl)) rfl rfl (fun _ _ _ h => h) (by rfl) ?_ ?_ ?_;rotate_left;intro w';go_simp;with_reducible rfl;rotate_left;simp only [Act.put, yy_];rfl
        refine tz_ 2 (some 72) (v := ?_) (a' := ?_) (take_ofW HT_.out HW_.out (by kernel_rfl)) rfl rfl (fun _ _ _ h => h) (by rfl) ?_ hHeld ?_ ?_;rotate_left;rintro w' ⟨s0, s1, s2, s3, s4, s5, s6, s7⟩;go_simp;with_reducible rfl;rotate_left;simp only [Act.put, yy_];rfl
        refine tz_ 4 (some 74) (v := ?_) (a' := ?_) (take_ofW HT_.out HW_.out (by kernel_rfl)) rfl rfl (fun _ _ _ h => h) (by rfl) ?_ hHeld ?_ ?_;rotate_left;rintro w' ⟨s0, s1, s2, s3, s4, s5, s6, s7⟩;go_simp;with_reducible rfl;rotate_left;simp only [Act.put, yy_];rfl
        refine tz_ 7 (some 77) (v := ?_) (a' := ?_) (take_ofW HT_.out HW_.out (by kernel_rfl)) rfl rfl (fun _ _ _ h => h) (by rfl) ?_ hHeld ?_ ?_;rotate_left;rintro w' ⟨s0, s1, s2, s3, s4, s5, s6, s7⟩;go_simp;with_reducible rfl;rotate_left;simp only [Act.put, yy_];rfl
        refine pz_ 8 (some 78) (v := ?_) (a' := ?_) (any_of HT_.out (by kernel_rfl)) rfl rfl (fun _ _ _ h => h) (by rfl) ?_ ?_ ?_;rotate_left;intro w';go_simp;with_reducible rfl;rotate_left;simp only [Act.put, yy_];rfl
        refine tz_ 9 (some 79) (v := ?_) (a' := ?_) (take_ofW HT_.out HW_.out (by kernel_rfl)) rfl rfl (fun _ _ _ h => h) (by rfl) ?_ hHeld ?_ ?_;rotate_left;rintro w' ⟨s0, s1, s2, s3, s4, s5, s6, s7⟩;go_simp;with_reducible rfl;rotate_left;simp only [Act.put, yy_];rfl
        refine tz_ 12 (some 82) (v := ?_) (a' := ?_) (take_ofW HT_.out HW_.out (by kernel_rfl)) rfl rfl (fun _ _ _ h => h) (by rfl) ?_ hHeld ?_ ?_;rotate_left;rintro w' ⟨s0, s1, s2, s3, s4, s5, s6, s7⟩;go_simp;with_reducible rfl;rotate_left;simp only [Act.put, yy_];rfl
        refine pz_ 13 (some 83) (v := ?_) (a' := ?_) (any_of HT_.out (by kernel_rfl)) rfl rfl (fun _ _ _ h => h) (by rfl) ?_ ?_ ?_;rotate_left;intro w';go_simp;with_reducible rfl;rotate_left;simp only [Act.put, yy_];rfl
        refine tz_ 14 (some 84) (v := ?_) (a' := ?_) (take_ofW HT_.out HW_.out (by kernel_rfl)) rfl rfl (fun _ _ _ h => h) (by rfl) ?_ hHeld ?_ ?_;rotate_left;rintro w' ⟨s0, s1, s2, s3, s4, s5, s6, s7⟩;go_simp;with_reducible rfl;rotate_left;simp only [Act.put, yy_];rfl
        refine one_ (i := 15) (N := some 85) #[true, true, true, true, true, true, true, true, true, true, true, true, true, true, true, true, false, false] rfl rfl (one_of HT_.out (by kernel_rfl)) (by decide) (fun K hK => ?_)
        refine goes_ Try.func103 (by kernel_rfl) rfl #[.int .i64 ((rd_T26 l1 a0_0).f1), .int .i64 (rd l0_1 ((rd_T26 l1 a0_0).f2)), .int .i64 (rd l0_1 ((rd_T26 l1 a0_0).f3))] (by rfl) rfl rfl (by simp only [zA_, zB_, zD_] <;> rfl) ?_
        with_reducible refine (impl_do.calls ((rd_T26 l1 a0_0).f1) (rd l0_1 ((rd_T26 l1 a0_0).f2)) (rd l0_1 ((rd_T26 l1 a0_0).f3)) t256 _ A11.out).mono ?_
        rintro e w' ⟨rfl, ⟨nd, rfl⟩⟩
        refine ⟨_, rfl, ?_⟩
        have p12 : 0 ≤ (((rd_T26 l1 a0_0).f2) : Int) := dt_
        have q12 : (((rd_T26 l1 a0_0).f2) : Int) < ((l0_1.length : Int) : Int) := dt_
        obtain ⟨go12, co12, eo12, gb12, gl12, cl12, HG12⟩ := Kd.R_form HO0_1.out (by omega)
        (first | cases eo12 | (injection eo12 with ea_ en_ ec_; (first | subst ea_ | (injection ea_ with ea_; subst ea_)); subst ec_; clear en_))
        have GB12 := Aside0.mk gb12
        have GG12 := Aside0.mk HG12
        clear gb12 gl12 HG12
        have HMgo12 := Aside0.mk (show ((P0_1_ go12 ∨ P0_2_ go12 ∨ P0_3_ go12) ∨ w.heap.size ≤ go12) from (HO0_1.out.1 _ rfl).1)
        (first | simp only [add_plain] at hx254_0 | skip)
        (first | simp only [add_plain] at hx255_0 | skip)
        obtain ⟨hx12_0, hf12_0⟩ := Kd.R_celln 0 HO0_1.out (((rd_T26 l1 a0_0).f2) : Int) p12 q12
        replace p12 := eq_true p12
        replace q12 := eq_true q12
        have HP21 := Kd.R_putn HO0_1.out (((rd_T26 l1 a0_0).f2) : Int) t256
        rw [← Ny257.out] at HP21
        have HQ21 := Aside0.mk HP21
        clear HP21
        refine hK.out _ _ ⟨(blk_cell BK253.out 0).trans rfl, (blk_cell BK253.out 1).trans rfl, (blk_cell BK253.out 2).trans rfl, (blk_cell BK253.out 3).trans rfl, (blk_cell BK253.out 4).trans rfl, (blk_cell BK253.out 5).trans rfl, hHeld.2.2.2.2.2.2.1, hHeld.2.2.2.2.2.2.2⟩ (fun hHeld => ?_)
        clear hK K
        refine norm_ (a' := ?_) ?_ ?_
        rotate_left
        ·show Act.put _ (some 85) _ = _
         simp only [Act.put, yy_]
         rfl
        refine pz_ 16 (some 86) (v := ?_) (a' := ?_) (any_of HT_.out (by kernel_rfl)) rfl rfl (fun _ _ _ h => h) (by rfl) ?_ ?_ ?_;rotate_left;intro w';go_simp;with_reducible rfl;rotate_left;simp only [Act.put, yy_];rfl
        refine last_ (i := 17) (N := none) #[true, true, true, true, true, true, true, true, true, true, true, true, true, true, true, true, true, true] rfl rfl (one_of HT_.out (by kernel_rfl)) (by decide) (fun K hK => ?_)
        refine skip_ (w1 := ?_) (by rfl) rfl ?_ ?_
        rotate_left
        ·go_simp
         rfl
        refine hK.out _ _ ?_
        clear hK K
        refine done_ (done_of HT_.out (by kernel_rfl)) ?_
        (try rw [drewN_set_])
        have n0_ : Aside0 (Kd.R (Kd.int .i64) 3 (w19.setCell ⟨go12, (((rd_T26 l1 a0_0).f2) : Int).toNat, none⟩ (.int .i64 t256)) w0.heap.size (fun k_ => ((P0_1_ k_ ∨ P0_2_ k_ ∨ P0_3_ k_) ∨ w.heap.size ≤ k_) ∧ some k_ ≠ (u9001_ : Value).ownBlock) (.slice (some ⟨go12, 0, none⟩) l0_1.length co20) y257) := ⟨zR_ HQ21.out⟩
        have n1_ : Aside0 (Kd.R (Kd.int .i64) 3 (w19.setCell ⟨go12, (((rd_T26 l1 a0_0).f2) : Int).toNat, none⟩ (.int .i64 t256)) w0.heap.size (fun k_ => ((P0_1_ k_ ∨ P0_2_ k_ ∨ P0_3_ k_) ∨ w.heap.size ≤ k_) ∧ some k_ ≠ (.slice (some ⟨go12, 0, none⟩) l0_1.length co20 : Value).ownBlock) u9001_ l0_2) := ⟨by (with_reducible repeat (first | apply Ra_ | apply Rn_ | apply Rd_)); exact Kd.R_mono (Kd.R_far (p := ⟨go12, (((rd_T26 l1 a0_0).f2) : Int).toNat, none⟩) (Kd.R_mono HO0_2.out (fun k_ hk => (⟨hk, fun e_ => hk.2 (by rw [e_]; rfl)⟩ : _ ∧ k_ ≠ go12))) (fun _ hk => hk.2) (.int .i64 t256)) (fun _ hk => ⟨hk.1.1, hk.1.2⟩)⟩
        have n2_ : Aside0 (Kd.R Kd.bool 4 (w19.setCell ⟨go12, (((rd_T26 l1 a0_0).f2) : Int).toNat, none⟩ (.int .i64 t256)) w0.heap.size (fun k_ => ((P0_1_ k_ ∨ P0_2_ k_ ∨ P0_3_ k_) ∨ w.heap.size ≤ k_)) u9002_ l0_3) := ⟨by (with_reducible repeat (first | apply Ra_ | apply Rn_ | apply Rd_)); exact Kd.R_mono (Kd.R_far (p := ⟨go12, (((rd_T26 l1 a0_0).f2) : Int).toNat, none⟩) (Kd.R_types HO0_3.out GG12.out (by decide)) (fun _ hk => hk.2) (.int .i64 t256)) (fun _ hk => hk.1)⟩
        have n3_ : Aside0 ((w19.setCell ⟨go12, (((rd_T26 l1 a0_0).f2) : Int).toNat, none⟩ (.int .i64 t256)).heap[g]? = some (.cells #[.int .i64 a0_0, .slice (some ⟨go12, 0, none⟩) l0_1.length co20, u9001_, u9002_] 116 (0, 0))) := ⟨by (with_reducible repeat (first | refine on_ ?_ _ | refine od_ ?_ | refine oa_ ?_ _)); refine blk_far ?_ (by have h_ := Kd.R_ne HO0_1.out BK251.out (by decide); intro e_; exact h_ (by rw [e_]; rfl)) _; (with_reducible repeat (first | refine on_ ?_ _ | refine od_ ?_ | refine oa_ ?_ _)); exact BK251.out⟩
        have n4_ : Aside0 ((w19.setCell ⟨go12, (((rd_T26 l1 a0_0).f2) : Int).toNat, none⟩ (.int .i64 t256)).heap[gb253]? = some (.cells #[.int .i64 ((rd_T26 l1 a0_0).f0), .int .i64 ((rd_T26 l1 a0_0).f1), .int .i64 ((rd_T26 l1 a0_0).f2), .int .i64 ((rd_T26 l1 a0_0).f3), .int .i64 ((rd_T26 l1 a0_0).f4), .int .i64 ((rd_T26 l1 a0_0).f5)] 26 (0, 0))) := ⟨by (with_reducible repeat (first | refine on_ ?_ _ | refine od_ ?_ | refine oa_ ?_ _)); refine blk_far ?_ (by have h_ := Kd.R_ne HO0_1.out BK253.out (by decide); intro e_; exact h_ (by rw [e_]; rfl)) _; (with_reducible repeat (first | refine on_ ?_ _ | refine od_ ?_ | refine oa_ ?_ _)); exact BK253.out⟩
        have n5_ : Aside0 (Kept w (w19.setCell ⟨go12, (((rd_T26 l1 a0_0).f2) : Int).toNat, none⟩ (.int .i64 t256)) (fun k_ => (P0_1_ k_ ∨ P0_2_ k_ ∨ P0_3_ k_) ∨ k_ = g)) := ⟨by repeat (first | (with_reducible first | exact HK.out | apply Kept.alloc | apply Kept.drewN | apply Kept.drew | refine Kept.setCell ?_ (Or.imp_left Or.inl HMgo12.out) _ | refine Kept.setCell ?_ (.inl (.inr rfl)) _ | refine Kept.setCell ?_ (.inr GW251.out) _ | refine Kept.setCell ?_ (.inr GW253.out) _) | exact HK.out)⟩
        have n6_ : Aside0 (Below w0.heap.size w0 (w19.setCell ⟨go12, (((rd_T26 l1 a0_0).f2) : Int).toNat, none⟩ (.int .i64 t256))) := ⟨by repeat (first | (with_reducible first | exact HB.out | apply ba_ | apply bn_ | apply bd_ | refine bs_ ?_ GB12.out | refine bs_ ?_ GE251.out | refine bs_ ?_ GE253.out) | exact HB.out)⟩
        (try clear HO0_1)
        (try clear HO0_2)
        (try clear HO0_3)
        (try clear BK251)
        (try clear BK253)
        (try clear HK)
        (try clear HB)
        generalize (w19.setCell ⟨go12, (((rd_T26 l1 a0_0).f2) : Int).toNat, none⟩ (.int .i64 t256)) = w22 at n0_ n1_ n2_ n3_ n4_ n5_ n6_ ⊢
        have HO0_1 := n0_
        have HO0_2 := n1_
        have HO0_3 := n2_
        have BK251 := n3_
        have BK253 := n4_
        have HK := n5_
        have HB := n6_
        clear n0_ n1_ n2_ n3_ n4_ n5_ n6_
        have hcz23_0 : w22.cell? ⟨g, 0, none⟩ = some (.int .i64 a0_0) := (blk_cell BK251.out 0).trans rfl
        have hcz23_1 : w22.cell? ⟨g, 1, none⟩ = some (.slice (some ⟨go12, 0, none⟩) l0_1.length co20) := (blk_cell BK251.out 1).trans rfl
        have hcz23_2 : w22.cell? ⟨g, 2, none⟩ = some (u9001_) := (blk_cell BK251.out 2).trans rfl
        have hcz23_3 : w22.cell? ⟨g, 3, none⟩ = some (u9002_) := (blk_cell BK251.out 3).trans rfl
        have hfz23_0 := blk_frozen BK251.out 0
        have hfz23_1 := blk_frozen BK251.out 1
        have hfz23_2 := blk_frozen BK251.out 2
        have hfz23_3 := blk_frozen BK251.out 3
        try go_wp2
        go_ret2
        exact ⟨by first | rfl | (simp <;> rfl) | (simp [*] <;> rfl), (by (with_reducible repeat (first | refine on_ ?_ _ | refine od_ ?_ | refine oa_ ?_ _)); refine blk_put (cs := #[.int .i64 a0_0, .slice (some ⟨go12, 0, none⟩) l0_1.length co20, u9001_, u9002_]) ?_ 0 _ rfl; (with_reducible repeat (first | refine on_ ?_ _ | refine od_ ?_ | refine oa_ ?_ _)); exact BK251.out), by (with_reducible repeat (first | apply Ra_ | apply Rn_ | apply Rd_)); exact Kd.R_mono (Kd.R_far (p := ⟨g, 0, none⟩) (Kd.R_types HO0_1.out BK251.out (by decide)) (fun _ hk => hk.2) (.int .i64 (wrap64 (a0_0 + 1)))) (fun _ hk => hk.1.1), by (with_reducible repeat (first | apply Ra_ | apply Rn_ | apply Rd_)); exact Kd.R_mono (Kd.R_far (p := ⟨g, 0, none⟩) (Kd.R_types HO0_2.out BK251.out (by decide)) (fun _ hk => hk.2) (.int .i64 (wrap64 (a0_0 + 1)))) (fun _ hk => hk.1.1), by (with_reducible repeat (first | apply Ra_ | apply Rn_ | apply Rd_)); exact Kd.R_mono (Kd.R_far (p := ⟨g, 0, none⟩) (Kd.R_types HO0_3.out BK251.out (by decide)) (fun _ hk => hk.2) (.int .i64 (wrap64 (a0_0 + 1)))) (fun _ hk => hk.1), by repeat (first | (with_reducible first | exact HB.out | apply ba_ | apply bn_ | apply bd_ | refine bs_ ?_ GE251.out | refine bs_ ?_ GE253.out) | exact HB.out), by repeat (first | (with_reducible first | exact HK.out | apply Kept.alloc | apply Kept.drewN | apply Kept.drew | refine Kept.setCell ?_ (.inl (.inr rfl)) _ | refine Kept.setCell ?_ (.inr GW251.out) _ | refine Kept.setCell ?_ (.inr GW253.out) _) | exact HK.out)⟩
       rw [if_neg c10] at H
       exact absurd H (by simp)
      rw [if_neg c9] at H
      exact absurd H (by simp)
     rw [if_neg c8] at H
     exact absurd H (by simp)
    rw [if_neg c7] at H
    exact absurd H (by simp)
   rw [if_neg c6] at H
   have c6b0 : (((rd_T26 l1 a0_0).f0) == 1) = false := beq_eq_false_iff_ne.mpr c6
   have c6b1 : (((rd_T26 l1 a0_0).f0) != 1) = true := bne_iff_ne.mpr c6
   by_cases c24 : ((rd_T26 l1 a0_0).f0) = 2
   ·rw [if_pos c24] at H
    have c24b0 : (((rd_T26 l1 a0_0).f0) == 2) = true := beq_iff_eq.mpr c24
    have c24b1 : (((rd_T26 l1 a0_0).f0) != 2) = false := bne_eq_false_iff_eq.mpr c24
    clear c24
    by_cases c25 : 0 ≤ ((rd_T26 l1 a0_0).f2)
    ·rw [if_pos c25] at H
     have c25b0 : decide (0 ≤ ((rd_T26 l1 a0_0).f2)) = true := decide_eq_true c25
     clear c25
     by_cases c26 : ((rd_T26 l1 a0_0).f2) < (l0_1.length : Int)
     ·rw [if_pos c26] at H
      have c26b0 : decide (((rd_T26 l1 a0_0).f2) < (l0_1.length : Int)) = true := decide_eq_true c26
      clear c26
      replace H := Option.bind_eq_some_iff.mp H
      obtain ⟨t259, A270, H⟩ := H
      (try dsimp only at H)
      have A27 := Aside0.mk A270
      clear A270
      obtain ⟨y260, hy260⟩ : ∃ y_ : List Int, y_ = (l0_1.set (((rd_T26 l1 a0_0).f2) : Int).toNat t259) := ⟨_, rfl⟩
      replace H : (some (0, false, wrap64 (a0_0 + 1), y260, l0_2, l0_3)) = some (r1, r2, r3, r4, r5, r6) := by first | (rw [hy260]; with_reducible exact H) | (have H2_ := (Option.bind_some _ _).symm.trans H; rw [hy260]; with_reducible exact H2_) | (have H2_ := (Option.bind_some _ _).symm.trans H; with_reducible exact H2_) | with_reducible exact H | (rw [hy260]; exact H) | exact H
      have Ny260 := Aside0.mk hy260
      clear hy260
      simp only [Option.some.injEq, Prod.mk.injEq] at H
      obtain ⟨rfl, rfl, rfl, rfl, rfl, rfl⟩ := H
      have hcz29_0 : w.cell? ⟨g, 0, none⟩ = some (.int .i64 a0_0) := (blk_cell BK251.out 0).trans rfl
      have hcz29_1 : w.cell? ⟨g, 1, none⟩ = some (u9000_) := (blk_cell BK251.out 1).trans rfl
      have hcz29_2 : w.cell? ⟨g, 2, none⟩ = some (u9001_) := (blk_cell BK251.out 2).trans rfl
      have hcz29_3 : w.cell? ⟨g, 3, none⟩ = some (u9002_) := (blk_cell BK251.out 3).trans rfl
      have hfz29_0 := blk_frozen BK251.out 0
      have hfz29_1 := blk_frozen BK251.out 1
      have hfz29_2 := blk_frozen BK251.out 2
      have hfz29_3 := blk_frozen BK251.out 3
      have p252 : 0 ≤ (a0_0 : Int) := dt_
      have q252 : a0_0 < (l1.length : Int) := dt_
      obtain ⟨ad252, e252, hx252_0, hx252_1, hx252_2, hx252_3, hx252_4, hx252_5⟩ := at_T26 (Kd.C_kept_now HR1.out HK.out) a0_0 p252 q252
      cases e252
      replace p252 := eq_true p252
      replace q252 := eq_true q252
      go_enter Try.func96, Try.ntmps96
      try go_wp2_with (first | ((with_reducible refine gate_dst (N := 8) rfl ?_); refine box_event ?hg (N := 8) ?hd (cs := #[.int .i64 0, .int .i64 0, .int .i64 0, .int .i64 0, .int .i64 0, .int .i64 0]) (t := 26) ?hr ?_; (case hd => rfl); (case hg => rfl); (case hr => first | (go_simp; done) | (go_simp; rfl)); intro gb253 hg w30 hbox hb; have n0_ := Aside0.mk (Kd.R_below (zR_ HO0_1.out) hb); have n1_ := Aside0.mk (Kd.R_below (zR_ HO0_2.out) hb); have n2_ := Aside0.mk (Kd.R_below (zR_ HO0_3.out) hb); have n3_ := Aside0.mk (blk_below (g := g) (o := .cells #[.int .i64 a0_0, u9000_, u9001_, u9002_] 116 (0, 0)) (zO_ BK251.out) hb); have n4_ := Aside0.mk (Kept.below (S := (fun k_ => (P0_1_ k_ ∨ P0_2_ k_ ∨ P0_3_ k_) ∨ k_ = g)) (by repeat (first | (with_reducible first | exact HK.out | apply Kept.alloc | apply Kept.drewN | apply Kept.drew | refine Kept.setCell ?_ (.inl (.inr rfl)) _ | refine Kept.setCell ?_ (.inr GW251.out) _) | exact HK.out)) hb); have n5_ := Aside0.mk (below_step (by repeat (first | (with_reducible first | exact HB.out | apply ba_ | apply bn_ | apply bd_ | refine bs_ ?_ GE251.out) | exact HB.out)) hb); have n6_ := Aside0.mk (hbox); have n7_ := Aside0.mk ((by rw [hg]; exact (by first | exact HK.out.1 | exact (show Kept w _ (fun k_ => (P0_1_ k_ ∨ P0_2_ k_ ∨ P0_3_ k_) ∨ k_ = g) from by repeat (first | (with_reducible first | exact HK.out | apply Kept.alloc | apply Kept.drewN | apply Kept.drew | refine Kept.setCell ?_ (.inl (.inr rfl)) _ | refine Kept.setCell ?_ (.inr GW251.out) _) | exact HK.out)).1) : w.heap.size ≤ gb253)); have n8_ := Aside0.mk ((by rw [hg]; exact (below_size (by repeat (first | (with_reducible first | exact HB.out | apply ba_ | apply bn_ | apply bd_ | refine bs_ ?_ GE251.out) | exact HB.out))) : w0.heap.size ≤ gb253)); have n9_ := Aside0.mk ((by rw [hg]; exact Nat.ne_of_lt (blk_lt (g := g) (o := .cells #[.int .i64 a0_0, u9000_, u9001_, u9002_] 116 (0, 0)) (zO_ BK251.out)) : g ≠ gb253)); have n10_ := Aside0.mk ((by rw [hg]; exact Nat.ne_of_gt (blk_lt (g := g) (o := .cells #[.int .i64 a0_0, u9000_, u9001_, u9002_] 116 (0, 0)) (zO_ BK251.out)) : gb253 ≠ g)); clear HO0_1; clear HO0_2; clear HO0_3; clear BK251; clear HK; clear HB; have HO0_1 := n0_; have HO0_2 := n1_; have HO0_3 := n2_; have BK251 := n3_; have HK := n4_; have HB := n5_; have BK253 := n6_; have GW253 := n7_; have GE253 := n8_; have NB251_253 := n9_; have NB253_251 := n10_; clear n0_ n1_ n2_ n3_ n4_ n5_ n6_ n7_ n8_ n9_ n10_; clear hb hbox hg; have hnb31 := NB253_251.out; have hnc31 := NB251_253.out; have hcz32_0 : w30.cell? ⟨gb253, 0, none⟩ = some (.int .i64 0) := (blk_cell BK253.out 0).trans rfl; have hcz32_1 : w30.cell? ⟨gb253, 1, none⟩ = some (.int .i64 0) := (blk_cell BK253.out 1).trans rfl; have hcz32_2 : w30.cell? ⟨gb253, 2, none⟩ = some (.int .i64 0) := (blk_cell BK253.out 2).trans rfl; have hcz32_3 : w30.cell? ⟨gb253, 3, none⟩ = some (.int .i64 0) := (blk_cell BK253.out 3).trans rfl; have hcz32_4 : w30.cell? ⟨gb253, 4, none⟩ = some (.int .i64 0) := (blk_cell BK253.out 4).trans rfl; have hcz32_5 : w30.cell? ⟨gb253, 5, none⟩ = some (.int .i64 0) := (blk_cell BK253.out 5).trans rfl; have hfz32_0 := blk_frozen BK253.out 0; have hfz32_1 := blk_frozen BK253.out 1; have hfz32_2 := blk_frozen BK253.out 2; have hfz32_3 := blk_frozen BK253.out 3; have hfz32_4 := blk_frozen BK253.out 4; have hfz32_5 := blk_frozen BK253.out 5; have hcz33_0 : w30.cell? ⟨g, 0, none⟩ = some (.int .i64 a0_0) := (blk_cell BK251.out 0).trans rfl; have hcz33_1 : w30.cell? ⟨g, 1, none⟩ = some (u9000_) := (blk_cell BK251.out 1).trans rfl; have hcz33_2 : w30.cell? ⟨g, 2, none⟩ = some (u9001_) := (blk_cell BK251.out 2).trans rfl; have hcz33_3 : w30.cell? ⟨g, 3, none⟩ = some (u9002_) := (blk_cell BK251.out 3).trans rfl; have hfz33_0 := blk_frozen BK251.out 0; have hfz33_1 := blk_frozen BK251.out 1; have hfz33_2 := blk_frozen BK251.out 2; have hfz33_3 := blk_frozen BK251.out 3))
      (try rw [drewN_set_])
      have n0_ : Aside0 (Kd.R (Kd.int .i64) 3 ((((((w30.setCell ⟨gb253, 0, none⟩ (.int .i64 ((rd_T26 l1 a0_0).f0))).setCell ⟨gb253, 1, none⟩ (.int .i64 ((rd_T26 l1 a0_0).f1))).setCell ⟨gb253, 2, none⟩ (.int .i64 ((rd_T26 l1 a0_0).f2))).setCell ⟨gb253, 3, none⟩ (.int .i64 ((rd_T26 l1 a0_0).f3))).setCell ⟨gb253, 4, none⟩ (.int .i64 ((rd_T26 l1 a0_0).f4))).setCell ⟨gb253, 5, none⟩ (.int .i64 ((rd_T26 l1 a0_0).f5))) w0.heap.size (fun k_ => ((P0_1_ k_ ∨ P0_2_ k_ ∨ P0_3_ k_) ∨ w.heap.size ≤ k_) ∧ some k_ ≠ (u9001_ : Value).ownBlock) u9000_ l0_1) := ⟨by (with_reducible repeat (first | apply Ra_ | apply Rn_ | apply Rd_)); exact Kd.R_mono (Kd.R_far (p := ⟨gb253, 5, none⟩) (Kd.R_far (p := ⟨gb253, 4, none⟩) (Kd.R_far (p := ⟨gb253, 3, none⟩) (Kd.R_far (p := ⟨gb253, 2, none⟩) (Kd.R_far (p := ⟨gb253, 1, none⟩) (Kd.R_far (p := ⟨gb253, 0, none⟩) (Kd.R_types HO0_1.out BK253.out (by decide)) (fun _ hk => hk.2) (.int .i64 ((rd_T26 l1 a0_0).f0))) (fun _ hk => hk.2) (.int .i64 ((rd_T26 l1 a0_0).f1))) (fun _ hk => hk.2) (.int .i64 ((rd_T26 l1 a0_0).f2))) (fun _ hk => hk.2) (.int .i64 ((rd_T26 l1 a0_0).f3))) (fun _ hk => hk.2) (.int .i64 ((rd_T26 l1 a0_0).f4))) (fun _ hk => hk.2) (.int .i64 ((rd_T26 l1 a0_0).f5))) (fun _ hk => ⟨hk.1.1, hk.1.2⟩)⟩
      have n1_ : Aside0 (Kd.R (Kd.int .i64) 3 ((((((w30.setCell ⟨gb253, 0, none⟩ (.int .i64 ((rd_T26 l1 a0_0).f0))).setCell ⟨gb253, 1, none⟩ (.int .i64 ((rd_T26 l1 a0_0).f1))).setCell ⟨gb253, 2, none⟩ (.int .i64 ((rd_T26 l1 a0_0).f2))).setCell ⟨gb253, 3, none⟩ (.int .i64 ((rd_T26 l1 a0_0).f3))).setCell ⟨gb253, 4, none⟩ (.int .i64 ((rd_T26 l1 a0_0).f4))).setCell ⟨gb253, 5, none⟩ (.int .i64 ((rd_T26 l1 a0_0).f5))) w0.heap.size (fun k_ => ((P0_1_ k_ ∨ P0_2_ k_ ∨ P0_3_ k_) ∨ w.heap.size ≤ k_) ∧ some k_ ≠ (u9000_ : Value).ownBlock) u9001_ l0_2) := ⟨by (with_reducible repeat (first | apply Ra_ | apply Rn_ | apply Rd_)); exact Kd.R_mono (Kd.R_far (p := ⟨gb253, 5, none⟩) (Kd.R_far (p := ⟨gb253, 4, none⟩) (Kd.R_far (p := ⟨gb253, 3, none⟩) (Kd.R_far (p := ⟨gb253, 2, none⟩) (Kd.R_far (p := ⟨gb253, 1, none⟩) (Kd.R_far (p := ⟨gb253, 0, none⟩) (Kd.R_types HO0_2.out BK253.out (by decide)) (fun _ hk => hk.2) (.int .i64 ((rd_T26 l1 a0_0).f0))) (fun _ hk => hk.2) (.int .i64 ((rd_T26 l1 a0_0).f1))) (fun _ hk => hk.2) (.int .i64 ((rd_T26 l1 a0_0).f2))) (fun _ hk => hk.2) (.int .i64 ((rd_T26 l1 a0_0).f3))) (fun _ hk => hk.2) (.int .i64 ((rd_T26 l1 a0_0).f4))) (fun _ hk => hk.2) (.int .i64 ((rd_T26 l1 a0_0).f5))) (fun _ hk => ⟨hk.1.1, hk.1.2⟩)⟩
      have n2_ : Aside0 (Kd.R Kd.bool 4 ((((((w30.setCell ⟨gb253, 0, none⟩ (.int .i64 ((rd_T26 l1 a0_0).f0))).setCell ⟨gb253, 1, none⟩ (.int .i64 ((rd_T26 l1 a0_0).f1))).setCell ⟨gb253, 2, none⟩ (.int .i64 ((rd_T26 l1 a0_0).f2))).setCell ⟨gb253, 3, none⟩ (.int .i64 ((rd_T26 l1 a0_0).f3))).setCell ⟨gb253, 4, none⟩ (.int .i64 ((rd_T26 l1 a0_0).f4))).setCell ⟨gb253, 5, none⟩ (.int .i64 ((rd_T26 l1 a0_0).f5))) w0.heap.size (fun k_ => ((P0_1_ k_ ∨ P0_2_ k_ ∨ P0_3_ k_) ∨ w.heap.size ≤ k_)) u9002_ l0_3) := ⟨by (with_reducible repeat (first | apply Ra_ | apply Rn_ | apply Rd_)); exact Kd.R_mono (Kd.R_far (p := ⟨gb253, 5, none⟩) (Kd.R_far (p := ⟨gb253, 4, none⟩) (Kd.R_far (p := ⟨gb253, 3, none⟩) (Kd.R_far (p := ⟨gb253, 2, none⟩) (Kd.R_far (p := ⟨gb253, 1, none⟩) (Kd.R_far (p := ⟨gb253, 0, none⟩) (Kd.R_types HO0_3.out BK253.out (by decide)) (fun _ hk => hk.2) (.int .i64 ((rd_T26 l1 a0_0).f0))) (fun _ hk => hk.2) (.int .i64 ((rd_T26 l1 a0_0).f1))) (fun _ hk => hk.2) (.int .i64 ((rd_T26 l1 a0_0).f2))) (fun _ hk => hk.2) (.int .i64 ((rd_T26 l1 a0_0).f3))) (fun _ hk => hk.2) (.int .i64 ((rd_T26 l1 a0_0).f4))) (fun _ hk => hk.2) (.int .i64 ((rd_T26 l1 a0_0).f5))) (fun _ hk => hk.1)⟩
      have n3_ : Aside0 (((((((w30.setCell ⟨gb253, 0, none⟩ (.int .i64 ((rd_T26 l1 a0_0).f0))).setCell ⟨gb253, 1, none⟩ (.int .i64 ((rd_T26 l1 a0_0).f1))).setCell ⟨gb253, 2, none⟩ (.int .i64 ((rd_T26 l1 a0_0).f2))).setCell ⟨gb253, 3, none⟩ (.int .i64 ((rd_T26 l1 a0_0).f3))).setCell ⟨gb253, 4, none⟩ (.int .i64 ((rd_T26 l1 a0_0).f4))).setCell ⟨gb253, 5, none⟩ (.int .i64 ((rd_T26 l1 a0_0).f5))).heap[g]? = some (.cells #[.int .i64 a0_0, u9000_, u9001_, u9002_] 116 (0, 0))) := ⟨by (with_reducible repeat (first | refine on_ ?_ _ | refine od_ ?_ | refine oa_ ?_ _)); refine blk_far ?_ NB251_253.out _; refine blk_far ?_ NB251_253.out _; refine blk_far ?_ NB251_253.out _; refine blk_far ?_ NB251_253.out _; refine blk_far ?_ NB251_253.out _; refine blk_far ?_ NB251_253.out _; (with_reducible repeat (first | refine on_ ?_ _ | refine od_ ?_ | refine oa_ ?_ _)); exact BK251.out⟩
      have n4_ : Aside0 (((((((w30.setCell ⟨gb253, 0, none⟩ (.int .i64 ((rd_T26 l1 a0_0).f0))).setCell ⟨gb253, 1, none⟩ (.int .i64 ((rd_T26 l1 a0_0).f1))).setCell ⟨gb253, 2, none⟩ (.int .i64 ((rd_T26 l1 a0_0).f2))).setCell ⟨gb253, 3, none⟩ (.int .i64 ((rd_T26 l1 a0_0).f3))).setCell ⟨gb253, 4, none⟩ (.int .i64 ((rd_T26 l1 a0_0).f4))).setCell ⟨gb253, 5, none⟩ (.int .i64 ((rd_T26 l1 a0_0).f5))).heap[gb253]? = some (.cells #[.int .i64 ((rd_T26 l1 a0_0).f0), .int .i64 ((rd_T26 l1 a0_0).f1), .int .i64 ((rd_T26 l1 a0_0).f2), .int .i64 ((rd_T26 l1 a0_0).f3), .int .i64 ((rd_T26 l1 a0_0).f4), .int .i64 ((rd_T26 l1 a0_0).f5)] 26 (0, 0))) := ⟨by (with_reducible repeat (first | refine on_ ?_ _ | refine od_ ?_ | refine oa_ ?_ _)); refine blk_put (cs := #[.int .i64 ((rd_T26 l1 a0_0).f0), .int .i64 ((rd_T26 l1 a0_0).f1), .int .i64 ((rd_T26 l1 a0_0).f2), .int .i64 ((rd_T26 l1 a0_0).f3), .int .i64 ((rd_T26 l1 a0_0).f4), .int .i64 0]) ?_ 5 _ rfl; refine blk_put (cs := #[.int .i64 ((rd_T26 l1 a0_0).f0), .int .i64 ((rd_T26 l1 a0_0).f1), .int .i64 ((rd_T26 l1 a0_0).f2), .int .i64 ((rd_T26 l1 a0_0).f3), .int .i64 0, .int .i64 0]) ?_ 4 _ rfl; refine blk_put (cs := #[.int .i64 ((rd_T26 l1 a0_0).f0), .int .i64 ((rd_T26 l1 a0_0).f1), .int .i64 ((rd_T26 l1 a0_0).f2), .int .i64 0, .int .i64 0, .int .i64 0]) ?_ 3 _ rfl; refine blk_put (cs := #[.int .i64 ((rd_T26 l1 a0_0).f0), .int .i64 ((rd_T26 l1 a0_0).f1), .int .i64 0, .int .i64 0, .int .i64 0, .int .i64 0]) ?_ 2 _ rfl; refine blk_put (cs := #[.int .i64 ((rd_T26 l1 a0_0).f0), .int .i64 0, .int .i64 0, .int .i64 0, .int .i64 0, .int .i64 0]) ?_ 1 _ rfl; refine blk_put (cs := #[.int .i64 0, .int .i64 0, .int .i64 0, .int .i64 0, .int .i64 0, .int .i64 0]) ?_ 0 _ rfl; (with_reducible repeat (first | refine on_ ?_ _ | refine od_ ?_ | refine oa_ ?_ _)); exact BK253.out⟩
      have n5_ : Aside0 (Kept w ((((((w30.setCell ⟨gb253, 0, none⟩ (.int .i64 ((rd_T26 l1 a0_0).f0))).setCell ⟨gb253, 1, none⟩ (.int .i64 ((rd_T26 l1 a0_0).f1))).setCell ⟨gb253, 2, none⟩ (.int .i64 ((rd_T26 l1 a0_0).f2))).setCell ⟨gb253, 3, none⟩ (.int .i64 ((rd_T26 l1 a0_0).f3))).setCell ⟨gb253, 4, none⟩ (.int .i64 ((rd_T26 l1 a0_0).f4))).setCell ⟨gb253, 5, none⟩ (.int .i64 ((rd_T26 l1 a0_0).f5))) (fun k_ => (P0_1_ k_ ∨ P0_2_ k_ ∨ P0_3_ k_) ∨ k_ = g)) := ⟨by repeat (first | (with_reducible first | exact HK.out | apply Kept.alloc | apply Kept.drewN | apply Kept.drew | refine Kept.setCell ?_ (.inl (.inr rfl)) _ | refine Kept.setCell ?_ (.inr GW251.out) _ | refine Kept.setCell ?_ (.inr GW253.out) _) | exact HK.out)⟩
      have n6_ : Aside0 (Below w0.heap.size w0 ((((((w30.setCell ⟨gb253, 0, none⟩ (.int .i64 ((rd_T26 l1 a0_0).f0))).setCell ⟨gb253, 1, none⟩ (.int .i64 ((rd_T26 l1 a0_0).f1))).setCell ⟨gb253, 2, none⟩ (.int .i64 ((rd_T26 l1 a0_0).f2))).setCell ⟨gb253, 3, none⟩ (.int .i64 ((rd_T26 l1 a0_0).f3))).setCell ⟨gb253, 4, none⟩ (.int .i64 ((rd_T26 l1 a0_0).f4))).setCell ⟨gb253, 5, none⟩ (.int .i64 ((rd_T26 l1 a0_0).f5)))) := ⟨by repeat (first | (with_reducible first | exact HB.out | apply ba_ | apply bn_ | apply bd_ | refine bs_ ?_ GE251.out | refine bs_ ?_ GE253.out) | exact HB.out)⟩
      (try clear HO0_1)
      (try clear HO0_2)
      (try clear HO0_3)
      (try clear BK251)
      (try clear BK253)
      (try clear HK)
      (try clear HB)
      generalize ((((((w30.setCell ⟨gb253, 0, none⟩ (.int .i64 ((rd_T26 l1 a0_0).f0))).setCell ⟨gb253, 1, none⟩ (.int .i64 ((rd_T26 l1 a0_0).f1))).setCell ⟨gb253, 2, none⟩ (.int .i64 ((rd_T26 l1 a0_0).f2))).setCell ⟨gb253, 3, none⟩ (.int .i64 ((rd_T26 l1 a0_0).f3))).setCell ⟨gb253, 4, none⟩ (.int .i64 ((rd_T26 l1 a0_0).f4))).setCell ⟨gb253, 5, none⟩ (.int .i64 ((rd_T26 l1 a0_0).f5))) = w34 at n0_ n1_ n2_ n3_ n4_ n5_ n6_ ⊢
      have HO0_1 := n0_
      have HO0_2 := n1_
      have HO0_3 := n2_
      have BK251 := n3_
      have BK253 := n4_
      have HK := n5_
      have HB := n6_
      clear n0_ n1_ n2_ n3_ n4_ n5_ n6_
      have n0_ := Aside0.mk (Kd.R_drew HO0_1.out)
      have n1_ := Aside0.mk (Kd.R_drew HO0_2.out)
      have n2_ := Aside0.mk (Kd.R_drew HO0_3.out)
      have n3_ := Aside0.mk (blk_drew BK251.out)
      have n4_ := Aside0.mk (blk_drew BK253.out)
      have n5_ := Aside0.mk (Kept.drew HK.out)
      have n6_ := Aside0.mk (below_drew1 HB.out)
      clear HO0_1
      clear HO0_2
      clear HO0_3
      clear BK251
      clear BK253
      clear HK
      clear HB
      have HO0_1 := n0_
      have HO0_2 := n1_
      have HO0_3 := n2_
      have BK251 := n3_
      have BK253 := n4_
      have HK := n5_
      have HB := n6_
      clear n0_ n1_ n2_ n3_ n4_ n5_ n6_
      obtain ⟨Ao36, co36, eo36⟩ := Kd.R_slice HO0_1.out
      (first | subst eo36 | (injection eo36 with f1_ f2_ f3_; have f4_ := f1_.symm; have f5_ := f3_.symm; clear f1_ f2_ f3_; subst f4_; subst f5_))
      have p258 : 0 ≤ (((rd_T26 l1 a0_0).f2) : Int) := dt_
      have q258 : ((rd_T26 l1 a0_0).f2) < (l0_1.length : Int) := dt_
      obtain ⟨ad258, e258, hx258_0⟩ := Kd.at_int (Kd.R_reads' HO0_1.out).2.2 ((rd_T26 l1 a0_0).f2) p258 q258
      cases e258
      replace p258 := eq_true p258
      replace q258 := eq_true q258
      refine start_ (n := 15) (S := fun w' => w'.cell? ⟨gb253, 0, none⟩ = some (.int .i64 ((rd_T26 l1 a0_0).f0)) ∧ w'.cell? ⟨gb253, 1, none⟩ = some (.int .i64 ((rd_T26 l1 a0_0).f1)) ∧ w'.cell? ⟨gb253, 2, none⟩ = some (.int .i64 ((rd_T26 l1 a0_0).f2)) ∧ w'.cell? ⟨gb253, 3, none⟩ = some (.int .i64 ((rd_T26 l1 a0_0).f3)) ∧ w'.cell? ⟨gb253, 4, none⟩ = some (.int .i64 ((rd_T26 l1 a0_0).f4)) ∧ w'.cell? ⟨gb253, 5, none⟩ = some (.int .i64 ((rd_T26 l1 a0_0).f5)) ∧ w'.cell? (ad258.add (((rd_T26 l1 a0_0).f2)).toNat) = some (.int .i64 (rd l0_1 ((rd_T26 l1 a0_0).f2)))) (ds := [14]) #[false, false, false, false, false, false, false, false, false, false, false, false, false, false, false] (by kernel_rfl) rfl rfl ⟨(blk_cell BK253.out 0).trans rfl, (blk_cell BK253.out 1).trans rfl, (blk_cell BK253.out 2).trans rfl, (blk_cell BK253.out 3).trans rfl, (blk_cell BK253.out 4).trans rfl, (blk_cell BK253.out 5).trans rfl, hx258_0⟩ (fun hHeld => ?_); refine with_tabW impl_Machine_step.tab10 impl_Machine_step.bits10 (fun HT_ HW_ => ?_)
      generalize w34.drew = w35 at HO0_1 HO0_2 HO0_3 BK251 BK253 HK HB hx258_0 hHeld ⊢
      refine pz_ 0 (some 89) (v := ?_) (a' := ?_) (any_of HT_.out (by kernel_rfl)) rfl rfl (fun _ _ _ h => h) (by rfl) ?_ ?_ ?_;rotate_left;intro w';go_simp;with_reducible rfl;rotate_left;simp only [Act.put, yy_];rfl
      refine pz_ 1 (some 90) (v := ?_) (a' := ?_) (any_of HT_.out (by kernel_rfl)) rfl rfl (fun _ _ _ h => h) (by rfl) ?_ ?_ ?_;rotate_left;intro w';go_simp;with_reducible rfl;rotate_left;simp only [Act.put, yy_];rfl
      refine pz_ 3 (some 92) (v := ?_) (a' := ?_) (any_of HT_.out (by kernel_rfl)) rfl rfl (fun _ _ _ h => h) (by rfl) ?_ ?_ ?_;rotate_left;intro w';go_simp;with_reducible rfl;rotate_left;simp only [Act.put, yy_];rfl
      refine pz_ 5 (some 94) (v := ?_) (a' := ?_) (any_of HT_.out (by kernel_rfl)) rfl rfl (fun _ _ _ h => h) (by rfl) ?_ ?_ ?_;rotate_left;intro w';go_simp;with_reducible rfl;rotate_left;simp only [Act.put, yy_];rfl
      refine pz_ 6 (some 95) (v := ?_) (a' := ?_) (any_of HT_.out (by kernel_rfl)) rfl rfl (fun _ _ _ h => h) (by rfl) ?_ ?_ ?_;rotate_left;intro w';go_simp;with_reducible rfl;rotate_left;simp only [Act.put, yy_];rfl
      refine pz_ 10 (some 99) (v := ?_) (a' := ?_) (any_of HT_.out (by kernel_rfl)) rfl rfl (fun _ _ _ h => h) (by rfl) ?_ ?_ ?_;rotate_left;intro w';go_simp;with_reducible rfl;rotate_left;simp only [Act.put, yy_];rfl
      refine tz_ 2 (some 91) (v := ?_) (a' := ?_) (take_ofW HT_.out HW_.out (by kernel_rfl)) rfl rfl (fun _ _ _ h => h) (by rfl) ?_ hHeld ?_ ?_;rotate_left;rintro w' ⟨s0, s1, s2, s3, s4, s5, s6⟩;go_simp;with_reducible rfl;rotate_left;simp only [Act.put, yy_];rfl
      refine tz_ 4 (some 93) (v := ?_) (a' := ?_) (take_ofW HT_.out HW_.out (by kernel_rfl)) rfl rfl (fun _ _ _ h => h) (by rfl) ?_ hHeld ?_ ?_;rotate_left;rintro w' ⟨s0, s1, s2, s3, s4, s5, s6⟩;go_simp;with_reducible rfl;rotate_left;simp only [Act.put, yy_];rfl
      refine tz_ 7 (some 96) (v := ?_) (a' := ?_) (take_ofW HT_.out HW_.out (by kernel_rfl)) rfl rfl (fun _ _ _ h => h) (by rfl) ?_ hHeld ?_ ?_;rotate_left;rintro w' ⟨s0, s1, s2, s3, s4, s5, s6⟩;go_simp;with_reducible rfl;rotate_left;simp only [Act.put, yy_];rfl
      refine pz_ 8 (some 97) (v := ?_) (a' := ?_) (any_of HT_.out (by kernel_rfl)) rfl rfl (fun _ _ _ h => h) (by rfl) ?_ ?_ ?_;rotate_left;intro w';go_simp;with_reducible rfl;rotate_left;simp only [Act.put, yy_];rfl
      refine tz_ 9 (some 98) (v := ?_) (a' := ?_) (take_ofW HT_.out HW_.out (by kernel_rfl)) rfl rfl (fun _ _ _ h => h) (by rfl) ?_ hHeld ?_ ?_;rotate_left;rintro w' ⟨s0, s1, s2, s3, s4, s5, s6⟩;go_simp;with_reducible rfl;rotate_left;simp only [Act.put, yy_];rfl
      refine tz_ 11 (some 100) (v := ?_) (a' := ?_) (take_ofW HT_.out HW_.out (by kernel_rfl)) rfl rfl (fun _ _ _ h => h) (by rfl) ?_ hHeld ?_ ?_;rotate_left;rintro w' ⟨s0, s1, s2, s3, s4, s5, s6⟩;go_simp;with_reducible rfl;rotate_left;simp only [Act.put, yy_];rfl
      refine one_ (i := 12) (N := some 101) #[true, true, true, true, true, true, true, true, true, true, true, true, true, false, false] rfl rfl (one_of HT_.out (by kernel_rfl)) (by decide) (fun K hK => ?_)
      refine goes_ Try.func103 (by kernel_rfl) rfl #[.int .i64 ((rd_T26 l1 a0_0).f1), .int .i64 (rd l0_1 ((rd_T26 l1 a0_0).f2)), .int .i64 ((rd_T26 l1 a0_0).f4)] (by rfl) rfl rfl (by simp only [zA_, zB_, zD_] <;> rfl) ?_
      with_reducible refine (impl_do.calls ((rd_T26 l1 a0_0).f1) (rd l0_1 ((rd_T26 l1 a0_0).f2)) ((rd_T26 l1 a0_0).f4) t259 _ A27.out).mono ?_
      rintro e w' ⟨rfl, ⟨nd, rfl⟩⟩
      refine ⟨_, rfl, ?_⟩
      have p28 : 0 ≤ (((rd_T26 l1 a0_0).f2) : Int) := dt_
      have q28 : (((rd_T26 l1 a0_0).f2) : Int) < ((l0_1.length : Int) : Int) := dt_
      obtain ⟨go28, co28, eo28, gb28, gl28, cl28, HG28⟩ := Kd.R_form HO0_1.out (by omega)
      (first | cases eo28 | (injection eo28 with ea_ en_ ec_; (first | subst ea_ | (injection ea_ with ea_; subst ea_)); subst ec_; clear en_))
      have GB28 := Aside0.mk gb28
      have GG28 := Aside0.mk HG28
      clear gb28 gl28 HG28
      have HMgo28 := Aside0.mk (show ((P0_1_ go28 ∨ P0_2_ go28 ∨ P0_3_ go28) ∨ w.heap.size ≤ go28) from (HO0_1.out.1 _ rfl).1)
      (first | simp only [add_plain] at hx258_0 | skip)
      obtain ⟨hx28_0, hf28_0⟩ := Kd.R_celln 0 HO0_1.out (((rd_T26 l1 a0_0).f2) : Int) p28 q28
      replace p28 := eq_true p28
      replace q28 := eq_true q28
      have HP37 := Kd.R_putn HO0_1.out (((rd_T26 l1 a0_0).f2) : Int) t259
      rw [← Ny260.out] at HP37
      have HQ37 := Aside0.mk HP37
      clear HP37
      refine hK.out _ _ ⟨(blk_cell BK253.out 0).trans rfl, (blk_cell BK253.out 1).trans rfl, (blk_cell BK253.out 2).trans rfl, (blk_cell BK253.out 3).trans rfl, (blk_cell BK253.out 4).trans rfl, (blk_cell BK253.out 5).trans rfl, hHeld.2.2.2.2.2.2⟩ (fun hHeld => ?_)
      clear hK K
      refine norm_ (a' := ?_) ?_ ?_
      rotate_left
      ·show Act.put _ (some 101) _ = _
       simp only [Act.put, yy_]
       rfl
      refine pz_ 13 (some 102) (v := ?_) (a' := ?_) (any_of HT_.out (by kernel_rfl)) rfl rfl (fun _ _ _ h => h) (by rfl) ?_ ?_ ?_;rotate_left;intro w';go_simp;with_reducible rfl;rotate_left;simp only [Act.put, yy_];rfl
      refine last_ (i := 14) (N := none) #[true, true, true, true, true, true, true, true, true, true, true, true, true, true, true] rfl rfl (one_of HT_.out (by kernel_rfl)) (by decide) (fun K hK => ?_)
      refine skip_ (w1 := ?_) (by rfl) rfl ?_ ?_
      rotate_left
      ·go_simp
       rfl
      refine hK.out _ _ ?_
      clear hK K
      refine done_ (done_of HT_.out (by kernel_rfl)) ?_
      (try rw [drewN_set_])
      have n0_ : Aside0 (Kd.R (Kd.int .i64) 3 (w35.setCell ⟨go28, (((rd_T26 l1 a0_0).f2) : Int).toNat, none⟩ (.int .i64 t259)) w0.heap.size (fun k_ => ((P0_1_ k_ ∨ P0_2_ k_ ∨ P0_3_ k_) ∨ w.heap.size ≤ k_) ∧ some k_ ≠ (u9001_ : Value).ownBlock) (.slice (some ⟨go28, 0, none⟩) l0_1.length co36) y260) := ⟨zR_ HQ37.out⟩
      have n1_ : Aside0 (Kd.R (Kd.int .i64) 3 (w35.setCell ⟨go28, (((rd_T26 l1 a0_0).f2) : Int).toNat, none⟩ (.int .i64 t259)) w0.heap.size (fun k_ => ((P0_1_ k_ ∨ P0_2_ k_ ∨ P0_3_ k_) ∨ w.heap.size ≤ k_) ∧ some k_ ≠ (.slice (some ⟨go28, 0, none⟩) l0_1.length co36 : Value).ownBlock) u9001_ l0_2) := ⟨by (with_reducible repeat (first | apply Ra_ | apply Rn_ | apply Rd_)); exact Kd.R_mono (Kd.R_far (p := ⟨go28, (((rd_T26 l1 a0_0).f2) : Int).toNat, none⟩) (Kd.R_mono HO0_2.out (fun k_ hk => (⟨hk, fun e_ => hk.2 (by rw [e_]; rfl)⟩ : _ ∧ k_ ≠ go28))) (fun _ hk => hk.2) (.int .i64 t259)) (fun _ hk => ⟨hk.1.1, hk.1.2⟩)⟩
      have n2_ : Aside0 (Kd.R Kd.bool 4 (w35.setCell ⟨go28, (((rd_T26 l1 a0_0).f2) : Int).toNat, none⟩ (.int .i64 t259)) w0.heap.size (fun k_ => ((P0_1_ k_ ∨ P0_2_ k_ ∨ P0_3_ k_) ∨ w.heap.size ≤ k_)) u9002_ l0_3) := ⟨by (with_reducible repeat (first | apply Ra_ | apply Rn_ | apply Rd_)); exact Kd.R_mono (Kd.R_far (p := ⟨go28, (((rd_T26 l1 a0_0).f2) : Int).toNat, none⟩) (Kd.R_types HO0_3.out GG28.out (by decide)) (fun _ hk => hk.2) (.int .i64 t259)) (fun _ hk => hk.1)⟩
      have n3_ : Aside0 ((w35.setCell ⟨go28, (((rd_T26 l1 a0_0).f2) : Int).toNat, none⟩ (.int .i64 t259)).heap[g]? = some (.cells #[.int .i64 a0_0, .slice (some ⟨go28, 0, none⟩) l0_1.length co36, u9001_, u9002_] 116 (0, 0))) := ⟨by (with_reducible repeat (first | refine on_ ?_ _ | refine od_ ?_ | refine oa_ ?_ _)); refine blk_far ?_ (by have h_ := Kd.R_ne HO0_1.out BK251.out (by decide); intro e_; exact h_ (by rw [e_]; rfl)) _; (with_reducible repeat (first | refine on_ ?_ _ | refine od_ ?_ | refine oa_ ?_ _)); exact BK251.out⟩
      have n4_ : Aside0 ((w35.setCell ⟨go28, (((rd_T26 l1 a0_0).f2) : Int).toNat, none⟩ (.int .i64 t259)).heap[gb253]? = some (.cells #[.int .i64 ((rd_T26 l1 a0_0).f0), .int .i64 ((rd_T26 l1 a0_0).f1), .int .i64 ((rd_T26 l1 a0_0).f2), .int .i64 ((rd_T26 l1 a0_0).f3), .int .i64 ((rd_T26 l1 a0_0).f4), .int .i64 ((rd_T26 l1 a0_0).f5)] 26 (0, 0))) := ⟨by (with_reducible repeat (first | refine on_ ?_ _ | refine od_ ?_ | refine oa_ ?_ _)); refine blk_far ?_ (by have h_ := Kd.R_ne HO0_1.out BK253.out (by decide); intro e_; exact h_ (by rw [e_]; rfl)) _; (with_reducible repeat (first | refine on_ ?_ _ | refine od_ ?_ | refine oa_ ?_ _)); exact BK253.out⟩
      have n5_ : Aside0 (Kept w (w35.setCell ⟨go28, (((rd_T26 l1 a0_0).f2) : Int).toNat, none⟩ (.int .i64 t259)) (fun k_ => (P0_1_ k_ ∨ P0_2_ k_ ∨ P0_3_ k_) ∨ k_ = g)) := ⟨by repeat (first | (with_reducible first | exact HK.out | apply Kept.alloc | apply Kept.drewN | apply Kept.drew | refine Kept.setCell ?_ (Or.imp_left Or.inl HMgo28.out) _ | refine Kept.setCell ?_ (.inl (.inr rfl)) _ | refine Kept.setCell ?_ (.inr GW251.out) _ | refine Kept.setCell ?_ (.inr GW253.out) _) | exact HK.out)⟩
      have n6_ : Aside0 (Below w0.heap.size w0 (w35.setCell ⟨go28, (((rd_T26 l1 a0_0).f2) : Int).toNat, none⟩ (.int .i64 t259))) := ⟨by repeat (first | (with_reducible first | exact HB.out | apply ba_ | apply bn_ | apply bd_ | refine bs_ ?_ GB28.out | refine bs_ ?_ GE251.out | refine bs_ ?_ GE253.out) | exact HB.out)⟩
      (try clear HO0_1)
      (try clear HO0_2)
      (try clear HO0_3)
      (try clear BK251)
      (try clear BK253)
      (try clear HK)
      (try clear HB)
      generalize (w35.setCell ⟨go28, (((rd_T26 l1 a0_0).f2) : Int).toNat, none⟩ (.int .i64 t259)) = w38 at n0_ n1_ n2_ n3_ n4_ n5_ n6_ ⊢
      have HO0_1 := n0_
      have HO0_2 := n1_
      have HO0_3 := n2_
      have BK251 := n3_
      have BK253 := n4_
      have HK := n5_
      have HB := n6_
      clear n0_ n1_ n2_ n3_ n4_ n5_ n6_
      have hcz39_0 : w38.cell? ⟨g, 0, none⟩ = some (.int .i64 a0_0) := (blk_cell BK251.out 0).trans rfl
      have hcz39_1 : w38.cell? ⟨g, 1, none⟩ = some (.slice (some ⟨go28, 0, none⟩) l0_1.length co36) := (blk_cell BK251.out 1).trans rfl
      have hcz39_2 : w38.cell? ⟨g, 2, none⟩ = some (u9001_) := (blk_cell BK251.out 2).trans rfl
      have hcz39_3 : w38.cell? ⟨g, 3, none⟩ = some (u9002_) := (blk_cell BK251.out 3).trans rfl
      have hfz39_0 := blk_frozen BK251.out 0
      have hfz39_1 := blk_frozen BK251.out 1
      have hfz39_2 := blk_frozen BK251.out 2
      have hfz39_3 := blk_frozen BK251.out 3
      try go_wp2
      go_ret2
      exact ⟨by first | rfl | (simp <;> rfl) | (simp [*] <;> rfl), (by (with_reducible repeat (first | refine on_ ?_ _ | refine od_ ?_ | refine oa_ ?_ _)); refine blk_put (cs := #[.int .i64 a0_0, .slice (some ⟨go28, 0, none⟩) l0_1.length co36, u9001_, u9002_]) ?_ 0 _ rfl; (with_reducible repeat (first | refine on_ ?_ _ | refine od_ ?_ | refine oa_ ?_ _)); exact BK251.out), by (with_reducible repeat (first | apply Ra_ | apply Rn_ | apply Rd_)); exact Kd.R_mono (Kd.R_far (p := ⟨g, 0, none⟩) (Kd.R_types HO0_1.out BK251.out (by decide)) (fun _ hk => hk.2) (.int .i64 (wrap64 (a0_0 + 1)))) (fun _ hk => hk.1.1), by (with_reducible repeat (first | apply Ra_ | apply Rn_ | apply Rd_)); exact Kd.R_mono (Kd.R_far (p := ⟨g, 0, none⟩) (Kd.R_types HO0_2.out BK251.out (by decide)) (fun _ hk => hk.2) (.int .i64 (wrap64 (a0_0 + 1)))) (fun _ hk => hk.1.1), by (with_reducible repeat (first | apply Ra_ | apply Rn_ | apply Rd_)); exact Kd.R_mono (Kd.R_far (p := ⟨g, 0, none⟩) (Kd.R_types HO0_3.out BK251.out (by decide)) (fun _ hk => hk.2) (.int .i64 (wrap64 (a0_0 + 1)))) (fun _ hk => hk.1), by repeat (first | (with_reducible first | exact HB.out | apply ba_ | apply bn_ | apply bd_ | refine bs_ ?_ GE251.out | refine bs_ ?_ GE253.out) | exact HB.out), by repeat (first | (with_reducible first | exact HK.out | apply Kept.alloc | apply Kept.drewN | apply Kept.drew | refine Kept.setCell ?_ (.inl (.inr rfl)) _ | refine Kept.setCell ?_ (.inr GW251.out) _ | refine Kept.setCell ?_ (.inr GW253.out) _) | exact HK.out)⟩
     rw [if_neg c26] at H
     exact absurd H (by simp)
    rw [if_neg c25] at H
    exact absurd H (by simp)
   rw [if_neg c24] at H
   have c24b0 : (((rd_T26 l1 a0_0).f0) == 2) = false := beq_eq_false_iff_ne.mpr c24
   have c24b1 : (((rd_T26 l1 a0_0).f0) != 2) = true := bne_iff_ne.mpr c24
   have HC40 := Aside0.mk H
   clear H
   have hcz41_0 : w.cell? ⟨g, 0, none⟩ = some (.int .i64 a0_0) := (blk_cell BK251.out 0).trans rfl
   have hcz41_1 : w.cell? ⟨g, 1, none⟩ = some (u9000_) := (blk_cell BK251.out 1).trans rfl
   have hcz41_2 : w.cell? ⟨g, 2, none⟩ = some (u9001_) := (blk_cell BK251.out 2).trans rfl
   have hcz41_3 : w.cell? ⟨g, 3, none⟩ = some (u9002_) := (blk_cell BK251.out 3).trans rfl
   have hfz41_0 := blk_frozen BK251.out 0
   have hfz41_1 := blk_frozen BK251.out 1
   have hfz41_2 := blk_frozen BK251.out 2
   have hfz41_3 := blk_frozen BK251.out 3
   have p252 : 0 ≤ (a0_0 : Int) := dt_
   have q252 : a0_0 < (l1.length : Int) := dt_
   obtain ⟨ad252, e252, hx252_0, hx252_1, hx252_2, hx252_3, hx252_4, hx252_5⟩ := at_T26 (Kd.C_kept_now HR1.out HK.out) a0_0 p252 q252
   cases e252
   replace p252 := eq_true p252
   replace q252 := eq_true q252
   go_enter Try.func96, Try.ntmps96
   go_upto_if 103 with (first | ((with_reducible refine gate_dst (N := 8) rfl ?_); refine box_event ?hg (N := 8) ?hd (cs := #[.int .i64 0, .int .i64 0, .int .i64 0, .int .i64 0, .int .i64 0, .int .i64 0]) (t := 26) ?hr ?_; (case hd => rfl); (case hg => rfl); (case hr => first | (go_simp; done) | (go_simp; rfl)); intro gb253 hg w42 hbox hb; have n0_ := Aside0.mk (Kd.R_below (zR_ HO0_1.out) hb); have n1_ := Aside0.mk (Kd.R_below (zR_ HO0_2.out) hb); have n2_ := Aside0.mk (Kd.R_below (zR_ HO0_3.out) hb); have n3_ := Aside0.mk (blk_below (g := g) (o := .cells #[.int .i64 a0_0, u9000_, u9001_, u9002_] 116 (0, 0)) (zO_ BK251.out) hb); have n4_ := Aside0.mk (Kept.below (S := (fun k_ => (P0_1_ k_ ∨ P0_2_ k_ ∨ P0_3_ k_) ∨ k_ = g)) (by repeat (first | (with_reducible first | exact HK.out | apply Kept.alloc | apply Kept.drewN | apply Kept.drew | refine Kept.setCell ?_ (.inl (.inr rfl)) _ | refine Kept.setCell ?_ (.inr GW251.out) _) | exact HK.out)) hb); have n5_ := Aside0.mk (below_step (by repeat (first | (with_reducible first | exact HB.out | apply ba_ | apply bn_ | apply bd_ | refine bs_ ?_ GE251.out) | exact HB.out)) hb); have n6_ := Aside0.mk (hbox); have n7_ := Aside0.mk ((by rw [hg]; exact (by first | exact HK.out.1 | exact (show Kept w _ (fun k_ => (P0_1_ k_ ∨ P0_2_ k_ ∨ P0_3_ k_) ∨ k_ = g) from by repeat (first | (with_reducible first | exact HK.out | apply Kept.alloc | apply Kept.drewN | apply Kept.drew | refine Kept.setCell ?_ (.inl (.inr rfl)) _ | refine Kept.setCell ?_ (.inr GW251.out) _) | exact HK.out)).1) : w.heap.size ≤ gb253)); have n8_ := Aside0.mk ((by rw [hg]; exact (below_size (by repeat (first | (with_reducible first | exact HB.out | apply ba_ | apply bn_ | apply bd_ | refine bs_ ?_ GE251.out) | exact HB.out))) : w0.heap.size ≤ gb253)); have n9_ := Aside0.mk ((by rw [hg]; exact Nat.ne_of_lt (blk_lt (g := g) (o := .cells #[.int .i64 a0_0, u9000_, u9001_, u9002_] 116 (0, 0)) (zO_ BK251.out)) : g ≠ gb253)); have n10_ := Aside0.mk ((by rw [hg]; exact Nat.ne_of_gt (blk_lt (g := g) (o := .cells #[.int .i64 a0_0, u9000_, u9001_, u9002_] 116 (0, 0)) (zO_ BK251.out)) : gb253 ≠ g)); clear HO0_1; clear HO0_2; clear HO0_3; clear BK251; clear HK; clear HB; have HO0_1 := n0_; have HO0_2 := n1_; have HO0_3 := n2_; have BK251 := n3_; have HK := n4_; have HB := n5_; have BK253 := n6_; have GW253 := n7_; have GE253 := n8_; have NB251_253 := n9_; have NB253_251 := n10_; clear n0_ n1_ n2_ n3_ n4_ n5_ n6_ n7_ n8_ n9_ n10_; clear hb hbox hg; have hnb43 := NB253_251.out; have hnc43 := NB251_253.out; have hcz44_0 : w42.cell? ⟨gb253, 0, none⟩ = some (.int .i64 0) := (blk_cell BK253.out 0).trans rfl; have hcz44_1 : w42.cell? ⟨gb253, 1, none⟩ = some (.int .i64 0) := (blk_cell BK253.out 1).trans rfl; have hcz44_2 : w42.cell? ⟨gb253, 2, none⟩ = some (.int .i64 0) := (blk_cell BK253.out 2).trans rfl; have hcz44_3 : w42.cell? ⟨gb253, 3, none⟩ = some (.int .i64 0) := (blk_cell BK253.out 3).trans rfl; have hcz44_4 : w42.cell? ⟨gb253, 4, none⟩ = some (.int .i64 0) := (blk_cell BK253.out 4).trans rfl; have hcz44_5 : w42.cell? ⟨gb253, 5, none⟩ = some (.int .i64 0) := (blk_cell BK253.out 5).trans rfl; have hfz44_0 := blk_frozen BK253.out 0; have hfz44_1 := blk_frozen BK253.out 1; have hfz44_2 := blk_frozen BK253.out 2; have hfz44_3 := blk_frozen BK253.out 3; have hfz44_4 := blk_frozen BK253.out 4; have hfz44_5 := blk_frozen BK253.out 5; have hcz45_0 : w42.cell? ⟨g, 0, none⟩ = some (.int .i64 a0_0) := (blk_cell BK251.out 0).trans rfl; have hcz45_1 : w42.cell? ⟨g, 1, none⟩ = some (u9000_) := (blk_cell BK251.out 1).trans rfl; have hcz45_2 : w42.cell? ⟨g, 2, none⟩ = some (u9001_) := (blk_cell BK251.out 2).trans rfl; have hcz45_3 : w42.cell? ⟨g, 3, none⟩ = some (u9002_) := (blk_cell BK251.out 3).trans rfl; have hfz45_0 := blk_frozen BK251.out 0; have hfz45_1 := blk_frozen BK251.out 1; have hfz45_2 := blk_frozen BK251.out 2; have hfz45_3 := blk_frozen BK251.out 3))
   (try simp only [Act.put, List.setIfInBounds_toArray, List.set_cons_zero, List.set_cons_succ])
   go_cut [103] (fun v103 wc => ∃ (kq : Nat) (x103_39 : Bool), v103 = .bool x103_39 ∧ Aside0 (impl_Machine_step.j0 kq l2 (wrap64 (a0_0 + 1)) ((rd_T26 l1 a0_0).f0) x103_39 a0_0 l0_1 l0_2 l0_3 ((rd_T26 l1 a0_0).f0) ((rd_T26 l1 a0_0).f1) ((rd_T26 l1 a0_0).f2) ((rd_T26 l1 a0_0).f3) ((rd_T26 l1 a0_0).f4) ((rd_T26 l1 a0_0).f5) = some (r1, r2, r3, r4, r5, r6)) ∧ Aside0 (kq ≤ k) ∧ Aside0 (Kd.R (Kd.int .i64) 3 wc w0.heap.size (fun k_ => ((P0_1_ k_ ∨ P0_2_ k_ ∨ P0_3_ k_) ∨ w.heap.size ≤ k_) ∧ some k_ ≠ (u9001_ : Value).ownBlock) u9000_ l0_1) ∧ Aside0 (Kd.R (Kd.int .i64) 3 wc w0.heap.size (fun k_ => ((P0_1_ k_ ∨ P0_2_ k_ ∨ P0_3_ k_) ∨ w.heap.size ≤ k_) ∧ some k_ ≠ (u9000_ : Value).ownBlock) u9001_ l0_2) ∧ Aside0 (Kd.R Kd.bool 4 wc w0.heap.size (fun k_ => ((P0_1_ k_ ∨ P0_2_ k_ ∨ P0_3_ k_) ∨ w.heap.size ≤ k_)) u9002_ l0_3) ∧ Aside0 (wc.heap[g]? = some (.cells #[.int .i64 a0_0, u9000_, u9001_, u9002_] 116 (0, 0))) ∧ Aside0 (wc.heap[gb253]? = some (.cells #[.int .i64 ((rd_T26 l1 a0_0).f0), .int .i64 ((rd_T26 l1 a0_0).f1), .int .i64 ((rd_T26 l1 a0_0).f2), .int .i64 ((rd_T26 l1 a0_0).f3), .int .i64 ((rd_T26 l1 a0_0).f4), .int .i64 ((rd_T26 l1 a0_0).f5)] 26 (0, 0))) ∧ Aside0 (Kept w wc (fun k_ => (P0_1_ k_ ∨ P0_2_ k_ ∨ P0_3_ k_) ∨ k_ = g)) ∧ Aside0 (Below w0.heap.size w0 wc))
   case first => as_aux_lemma =>
    have H := HC40.out
    clear HC40
    by_cases c46 : ((rd_T26 l1 a0_0).f0) = 3
    ·rw [if_pos c46] at H
     have c46b0 : (((rd_T26 l1 a0_0).f0) == 3) = true := beq_iff_eq.mpr c46
     have c46b1 : (((rd_T26 l1 a0_0).f0) != 3) = false := bne_eq_false_iff_eq.mpr c46
     clear c46
     (first | rw [c46b0] | (simp only [i64_w, i32_w]; rw [c46b0]) | skip)
     have H' := Aside0.mk H
     clear H
     go_wp2
     go_meet
     case rel => exact ⟨_, ((((rd_T26 l1 a0_0).f0) == 3)), (by first | rfl | (simp; done) | (simp [*]; done)), H', ⟨by first | omega | exact Nat.le_refl _⟩, ⟨by (with_reducible repeat (first | apply Ra_ | apply Rn_ | apply Rd_)); exact Kd.R_mono (Kd.R_far (p := ⟨gb253, 5, none⟩) (Kd.R_far (p := ⟨gb253, 4, none⟩) (Kd.R_far (p := ⟨gb253, 3, none⟩) (Kd.R_far (p := ⟨gb253, 2, none⟩) (Kd.R_far (p := ⟨gb253, 1, none⟩) (Kd.R_far (p := ⟨gb253, 0, none⟩) (Kd.R_types HO0_1.out BK253.out (by decide)) (fun _ hk => hk.2) (.int .i64 ((rd_T26 l1 a0_0).f0))) (fun _ hk => hk.2) (.int .i64 ((rd_T26 l1 a0_0).f1))) (fun _ hk => hk.2) (.int .i64 ((rd_T26 l1 a0_0).f2))) (fun _ hk => hk.2) (.int .i64 ((rd_T26 l1 a0_0).f3))) (fun _ hk => hk.2) (.int .i64 ((rd_T26 l1 a0_0).f4))) (fun _ hk => hk.2) (.int .i64 ((rd_T26 l1 a0_0).f5))) (fun _ hk => ⟨hk.1.1, hk.1.2⟩)⟩, ⟨by (with_reducible repeat (first | apply Ra_ | apply Rn_ | apply Rd_)); exact Kd.R_mono (Kd.R_far (p := ⟨gb253, 5, none⟩) (Kd.R_far (p := ⟨gb253, 4, none⟩) (Kd.R_far (p := ⟨gb253, 3, none⟩) (Kd.R_far (p := ⟨gb253, 2, none⟩) (Kd.R_far (p := ⟨gb253, 1, none⟩) (Kd.R_far (p := ⟨gb253, 0, none⟩) (Kd.R_types HO0_2.out BK253.out (by decide)) (fun _ hk => hk.2) (.int .i64 ((rd_T26 l1 a0_0).f0))) (fun _ hk => hk.2) (.int .i64 ((rd_T26 l1 a0_0).f1))) (fun _ hk => hk.2) (.int .i64 ((rd_T26 l1 a0_0).f2))) (fun _ hk => hk.2) (.int .i64 ((rd_T26 l1 a0_0).f3))) (fun _ hk => hk.2) (.int .i64 ((rd_T26 l1 a0_0).f4))) (fun _ hk => hk.2) (.int .i64 ((rd_T26 l1 a0_0).f5))) (fun _ hk => ⟨hk.1.1, hk.1.2⟩)⟩, ⟨by (with_reducible repeat (first | apply Ra_ | apply Rn_ | apply Rd_)); exact Kd.R_mono (Kd.R_far (p := ⟨gb253, 5, none⟩) (Kd.R_far (p := ⟨gb253, 4, none⟩) (Kd.R_far (p := ⟨gb253, 3, none⟩) (Kd.R_far (p := ⟨gb253, 2, none⟩) (Kd.R_far (p := ⟨gb253, 1, none⟩) (Kd.R_far (p := ⟨gb253, 0, none⟩) (Kd.R_types HO0_3.out BK253.out (by decide)) (fun _ hk => hk.2) (.int .i64 ((rd_T26 l1 a0_0).f0))) (fun _ hk => hk.2) (.int .i64 ((rd_T26 l1 a0_0).f1))) (fun _ hk => hk.2) (.int .i64 ((rd_T26 l1 a0_0).f2))) (fun _ hk => hk.2) (.int .i64 ((rd_T26 l1 a0_0).f3))) (fun _ hk => hk.2) (.int .i64 ((rd_T26 l1 a0_0).f4))) (fun _ hk => hk.2) (.int .i64 ((rd_T26 l1 a0_0).f5))) (fun _ hk => hk.1)⟩, ⟨by (with_reducible repeat (first | refine on_ ?_ _ | refine od_ ?_ | refine oa_ ?_ _)); refine blk_far ?_ NB251_253.out _; refine blk_far ?_ NB251_253.out _; refine blk_far ?_ NB251_253.out _; refine blk_far ?_ NB251_253.out _; refine blk_far ?_ NB251_253.out _; refine blk_far ?_ NB251_253.out _; (with_reducible repeat (first | refine on_ ?_ _ | refine od_ ?_ | refine oa_ ?_ _)); exact BK251.out⟩, ⟨by (with_reducible repeat (first | refine on_ ?_ _ | refine od_ ?_ | refine oa_ ?_ _)); refine blk_put (cs := #[.int .i64 ((rd_T26 l1 a0_0).f0), .int .i64 ((rd_T26 l1 a0_0).f1), .int .i64 ((rd_T26 l1 a0_0).f2), .int .i64 ((rd_T26 l1 a0_0).f3), .int .i64 ((rd_T26 l1 a0_0).f4), .int .i64 0]) ?_ 5 _ rfl; refine blk_put (cs := #[.int .i64 ((rd_T26 l1 a0_0).f0), .int .i64 ((rd_T26 l1 a0_0).f1), .int .i64 ((rd_T26 l1 a0_0).f2), .int .i64 ((rd_T26 l1 a0_0).f3), .int .i64 0, .int .i64 0]) ?_ 4 _ rfl; refine blk_put (cs := #[.int .i64 ((rd_T26 l1 a0_0).f0), .int .i64 ((rd_T26 l1 a0_0).f1), .int .i64 ((rd_T26 l1 a0_0).f2), .int .i64 0, .int .i64 0, .int .i64 0]) ?_ 3 _ rfl; refine blk_put (cs := #[.int .i64 ((rd_T26 l1 a0_0).f0), .int .i64 ((rd_T26 l1 a0_0).f1), .int .i64 0, .int .i64 0, .int .i64 0, .int .i64 0]) ?_ 2 _ rfl; refine blk_put (cs := #[.int .i64 ((rd_T26 l1 a0_0).f0), .int .i64 0, .int .i64 0, .int .i64 0, .int .i64 0, .int .i64 0]) ?_ 1 _ rfl; refine blk_put (cs := #[.int .i64 0, .int .i64 0, .int .i64 0, .int .i64 0, .int .i64 0, .int .i64 0]) ?_ 0 _ rfl; (with_reducible repeat (first | refine on_ ?_ _ | refine od_ ?_ | refine oa_ ?_ _)); exact BK253.out⟩, ⟨by repeat (first | (with_reducible first | exact HK.out | apply Kept.alloc | apply Kept.drewN | apply Kept.drew | refine Kept.setCell ?_ (.inl (.inr rfl)) _ | refine Kept.setCell ?_ (.inr GW251.out) _ | refine Kept.setCell ?_ (.inr GW253.out) _) | exact HK.out)⟩, ⟨by repeat (first | (with_reducible first | exact HB.out | apply ba_ | apply bn_ | apply bd_ | refine bs_ ?_ GE251.out | refine bs_ ?_ GE253.out) | exact HB.out)⟩⟩
    rw [if_neg c46] at H
    have c46b0 : (((rd_T26 l1 a0_0).f0) == 3) = false := beq_eq_false_iff_ne.mpr c46
    have c46b1 : (((rd_T26 l1 a0_0).f0) != 3) = true := bne_iff_ne.mpr c46
    (first | rw [c46b0] | (simp only [i64_w, i32_w]; rw [c46b0]) | skip)
    have H' := Aside0.mk H
    clear H
    go_wp2
    go_meet
    case rel => exact ⟨_, ((((rd_T26 l1 a0_0).f0) == 4)), (by first | rfl | (simp; done) | (simp [*]; done)), H', ⟨by first | omega | exact Nat.le_refl _⟩, ⟨by (with_reducible repeat (first | apply Ra_ | apply Rn_ | apply Rd_)); exact Kd.R_mono (Kd.R_far (p := ⟨gb253, 5, none⟩) (Kd.R_far (p := ⟨gb253, 4, none⟩) (Kd.R_far (p := ⟨gb253, 3, none⟩) (Kd.R_far (p := ⟨gb253, 2, none⟩) (Kd.R_far (p := ⟨gb253, 1, none⟩) (Kd.R_far (p := ⟨gb253, 0, none⟩) (Kd.R_types HO0_1.out BK253.out (by decide)) (fun _ hk => hk.2) (.int .i64 ((rd_T26 l1 a0_0).f0))) (fun _ hk => hk.2) (.int .i64 ((rd_T26 l1 a0_0).f1))) (fun _ hk => hk.2) (.int .i64 ((rd_T26 l1 a0_0).f2))) (fun _ hk => hk.2) (.int .i64 ((rd_T26 l1 a0_0).f3))) (fun _ hk => hk.2) (.int .i64 ((rd_T26 l1 a0_0).f4))) (fun _ hk => hk.2) (.int .i64 ((rd_T26 l1 a0_0).f5))) (fun _ hk => ⟨hk.1.1, hk.1.2⟩)⟩, ⟨by (with_reducible repeat (first | apply Ra_ | apply Rn_ | apply Rd_)); exact Kd.R_mono (Kd.R_far (p := ⟨gb253, 5, none⟩) (Kd.R_far (p := ⟨gb253, 4, none⟩) (Kd.R_far (p := ⟨gb253, 3, none⟩) (Kd.R_far (p := ⟨gb253, 2, none⟩) (Kd.R_far (p := ⟨gb253, 1, none⟩) (Kd.R_far (p := ⟨gb253, 0, none⟩) (Kd.R_types HO0_2.out BK253.out (by decide)) (fun _ hk => hk.2) (.int .i64 ((rd_T26 l1 a0_0).f0))) (fun _ hk => hk.2) (.int .i64 ((rd_T26 l1 a0_0).f1))) (fun _ hk => hk.2) (.int .i64 ((rd_T26 l1 a0_0).f2))) (fun _ hk => hk.2) (.int .i64 ((rd_T26 l1 a0_0).f3))) (fun _ hk => hk.2) (.int .i64 ((rd_T26 l1 a0_0).f4))) (fun _ hk => hk.2) (.int .i64 ((rd_T26 l1 a0_0).f5))) (fun _ hk => ⟨hk.1.1, hk.1.2⟩)⟩, ⟨by (with_reducible repeat (first | apply Ra_ | apply Rn_ | apply Rd_)); exact Kd.R_mono (Kd.R_far (p := ⟨gb253, 5, none⟩) (Kd.R_far (p := ⟨gb253, 4, none⟩) (Kd.R_far (p := ⟨gb253, 3, none⟩) (Kd.R_far (p := ⟨gb253, 2, none⟩) (Kd.R_far (p := ⟨gb253, 1, none⟩) (Kd.R_far (p := ⟨gb253, 0, none⟩) (Kd.R_types HO0_3.out BK253.out (by decide)) (fun _ hk => hk.2) (.int .i64 ((rd_T26 l1 a0_0).f0))) (fun _ hk => hk.2) (.int .i64 ((rd_T26 l1 a0_0).f1))) (fun _ hk => hk.2) (.int .i64 ((rd_T26 l1 a0_0).f2))) (fun _ hk => hk.2) (.int .i64 ((rd_T26 l1 a0_0).f3))) (fun _ hk => hk.2) (.int .i64 ((rd_T26 l1 a0_0).f4))) (fun _ hk => hk.2) (.int .i64 ((rd_T26 l1 a0_0).f5))) (fun _ hk => hk.1)⟩, ⟨by (with_reducible repeat (first | refine on_ ?_ _ | refine od_ ?_ | refine oa_ ?_ _)); refine blk_far ?_ NB251_253.out _; refine blk_far ?_ NB251_253.out _; refine blk_far ?_ NB251_253.out _; refine blk_far ?_ NB251_253.out _; refine blk_far ?_ NB251_253.out _; refine blk_far ?_ NB251_253.out _; (with_reducible repeat (first | refine on_ ?_ _ | refine od_ ?_ | refine oa_ ?_ _)); exact BK251.out⟩, ⟨by (with_reducible repeat (first | refine on_ ?_ _ | refine od_ ?_ | refine oa_ ?_ _)); refine blk_put (cs := #[.int .i64 ((rd_T26 l1 a0_0).f0), .int .i64 ((rd_T26 l1 a0_0).f1), .int .i64 ((rd_T26 l1 a0_0).f2), .int .i64 ((rd_T26 l1 a0_0).f3), .int .i64 ((rd_T26 l1 a0_0).f4), .int .i64 0]) ?_ 5 _ rfl; refine blk_put (cs := #[.int .i64 ((rd_T26 l1 a0_0).f0), .int .i64 ((rd_T26 l1 a0_0).f1), .int .i64 ((rd_T26 l1 a0_0).f2), .int .i64 ((rd_T26 l1 a0_0).f3), .int .i64 0, .int .i64 0]) ?_ 4 _ rfl; refine blk_put (cs := #[.int .i64 ((rd_T26 l1 a0_0).f0), .int .i64 ((rd_T26 l1 a0_0).f1), .int .i64 ((rd_T26 l1 a0_0).f2), .int .i64 0, .int .i64 0, .int .i64 0]) ?_ 3 _ rfl; refine blk_put (cs := #[.int .i64 ((rd_T26 l1 a0_0).f0), .int .i64 ((rd_T26 l1 a0_0).f1), .int .i64 0, .int .i64 0, .int .i64 0, .int .i64 0]) ?_ 2 _ rfl; refine blk_put (cs := #[.int .i64 ((rd_T26 l1 a0_0).f0), .int .i64 0, .int .i64 0, .int .i64 0, .int .i64 0, .int .i64 0]) ?_ 1 _ rfl; refine blk_put (cs := #[.int .i64 0, .int .i64 0, .int .i64 0, .int .i64 0, .int .i64 0, .int .i64 0]) ?_ 0 _ rfl; (with_reducible repeat (first | refine on_ ?_ _ | refine od_ ?_ | refine oa_ ?_ _)); exact BK253.out⟩, ⟨by repeat (first | (with_reducible first | exact HK.out | apply Kept.alloc | apply Kept.drewN | apply Kept.drew | refine Kept.setCell ?_ (.inl (.inr rfl)) _ | refine Kept.setCell ?_ (.inr GW251.out) _ | refine Kept.setCell ?_ (.inr GW253.out) _) | exact HK.out)⟩, ⟨by repeat (first | (with_reducible first | exact HB.out | apply ba_ | apply bn_ | apply bd_ | refine bs_ ?_ GE251.out | refine bs_ ?_ GE253.out) | exact HB.out)⟩⟩
   case rest => as_aux_lemma =>
    clear HC40
    obtain ⟨kq, x103_39, rfl, HA, HJ39, HO_252001, HO_252002, HO_252003, BK251, BK253, HK, HB⟩ := hcut
    cases kq with
    | zero => exact absurd HA.out (by simp [impl_Machine_step.j0])
    | succ kj39 =>
     have H := HA.out
     clear HA
     simp only [impl_Machine_step.j0] at H
     by_cases c47 : x103_39 = true
     ·subst c47
      have H1 : (if 0 ≤ ((rd_T26 l1 a0_0).f2) then (if ((rd_T26 l1 a0_0).f2) < (l0_1.length : Int) then (some (0, false, (wrap64 (a0_0 + 1)), (l0_1.set (((rd_T26 l1 a0_0).f2) : Int).toNat ((rd_T26 l1 a0_0).f4)), l0_2, l0_3)) else (none)) else (none)) = some (r1, r2, r3, r4, r5, r6) := by rw [if_pos rfl] at H; exact H
      clear H
      have H := H1
      clear H1
      by_cases c48 : 0 ≤ ((rd_T26 l1 a0_0).f2)
      ·rw [if_pos c48] at H
       have c48b0 : decide (0 ≤ ((rd_T26 l1 a0_0).f2)) = true := decide_eq_true c48
       clear c48
       by_cases c49 : ((rd_T26 l1 a0_0).f2) < (l0_1.length : Int)
       ·rw [if_pos c49] at H
        have c49b0 : decide (((rd_T26 l1 a0_0).f2) < (l0_1.length : Int)) = true := decide_eq_true c49
        clear c49
        obtain ⟨y261, hy261⟩ : ∃ y_ : List Int, y_ = (l0_1.set (((rd_T26 l1 a0_0).f2) : Int).toNat ((rd_T26 l1 a0_0).f4)) := ⟨_, rfl⟩
        replace H : (some (0, false, (wrap64 (a0_0 + 1)), y261, l0_2, l0_3)) = some (r1, r2, r3, r4, r5, r6) := by first | (rw [hy261]; with_reducible exact H) | (have H2_ := (Option.bind_some _ _).symm.trans H; rw [hy261]; with_reducible exact H2_) | (have H2_ := (Option.bind_some _ _).symm.trans H; with_reducible exact H2_) | with_reducible exact H | (rw [hy261]; exact H) | exact H
        have Ny261 := Aside0.mk hy261
        clear hy261
        simp only [Option.some.injEq, Prod.mk.injEq] at H
        obtain ⟨rfl, rfl, rfl, rfl, rfl, rfl⟩ := H
        have hnb51 := NB253_251.out
        have hnc51 := NB251_253.out
        have hcz52_0 : wc.cell? ⟨gb253, 0, none⟩ = some (.int .i64 ((rd_T26 l1 a0_0).f0)) := (blk_cell BK253.out 0).trans rfl
        have hcz52_1 : wc.cell? ⟨gb253, 1, none⟩ = some (.int .i64 ((rd_T26 l1 a0_0).f1)) := (blk_cell BK253.out 1).trans rfl
        have hcz52_2 : wc.cell? ⟨gb253, 2, none⟩ = some (.int .i64 ((rd_T26 l1 a0_0).f2)) := (blk_cell BK253.out 2).trans rfl
        have hcz52_3 : wc.cell? ⟨gb253, 3, none⟩ = some (.int .i64 ((rd_T26 l1 a0_0).f3)) := (blk_cell BK253.out 3).trans rfl
        have hcz52_4 : wc.cell? ⟨gb253, 4, none⟩ = some (.int .i64 ((rd_T26 l1 a0_0).f4)) := (blk_cell BK253.out 4).trans rfl
        have hcz52_5 : wc.cell? ⟨gb253, 5, none⟩ = some (.int .i64 ((rd_T26 l1 a0_0).f5)) := (blk_cell BK253.out 5).trans rfl
        have hfz52_0 := blk_frozen BK253.out 0
        have hfz52_1 := blk_frozen BK253.out 1
        have hfz52_2 := blk_frozen BK253.out 2
        have hfz52_3 := blk_frozen BK253.out 3
        have hfz52_4 := blk_frozen BK253.out 4
        have hfz52_5 := blk_frozen BK253.out 5
        have p50 : 0 ≤ (((rd_T26 l1 a0_0).f2) : Int) := dt_
        have q50 : (((rd_T26 l1 a0_0).f2) : Int) < ((l0_1.length : Int) : Int) := dt_
        obtain ⟨go50, co50, eo50, gb50, gl50, cl50, HG50⟩ := Kd.R_form HO_252001.out (by omega)
        (first | cases eo50 | (injection eo50 with ea_ en_ ec_; (first | subst ea_ | (injection ea_ with ea_; subst ea_)); subst ec_; clear en_))
        have GB50 := Aside0.mk gb50
        have GG50 := Aside0.mk HG50
        clear gb50 gl50 HG50
        have HMgo50 := Aside0.mk (show ((P0_1_ go50 ∨ P0_2_ go50 ∨ P0_3_ go50) ∨ w.heap.size ≤ go50) from (HO_252001.out.1 _ rfl).1)
        obtain ⟨hx50_0, hf50_0⟩ := Kd.R_celln 0 HO_252001.out (((rd_T26 l1 a0_0).f2) : Int) p50 q50
        replace p50 := eq_true p50
        replace q50 := eq_true q50
        have HP53 := Kd.R_putg HO_252001.out (((rd_T26 l1 a0_0).f2) : Int) ((rd_T26 l1 a0_0).f4)
        go_wp2_with (first | ((with_reducible refine gate_store (t := 3) (p := 111) rfl ?_); refine store_event (t := 3) (p := 111) (v := ?vo_w54) (w1 := (wc.setCell ⟨go50, (((rd_T26 l1 a0_0).f2) : Int).toNat, none⟩ (.int .i64 ((rd_T26 l1 a0_0).f4)))) ?hg ?ho ?hn ?hr ?_; (case ho => rfl); (case hg => rfl); (case hn => rfl); (case hr => first | (go_simp; done) | (go_simp; rfl)); intro w54 hw; have hg : wc.grownBy w54 (some go50) := (by rw [hw]; exact HP53.2); have hp_ : Kd.R (Kd.int .i64) 3 w54 w0.heap.size (fun k_ => ((P0_1_ k_ ∨ P0_2_ k_ ∨ P0_3_ k_) ∨ w.heap.size ≤ k_) ∧ some k_ ≠ (u9001_ : Value).ownBlock) (.slice (some ⟨go50, 0, none⟩) l0_1.length co50) y261 := (by rw [hw, Ny261.out]; exact HP53.1); clear HP53; have n0_ := Aside0.mk (hp_); have n1_ := Aside0.mk (Kd.R_after (v := (.slice (some ⟨go50, 0, none⟩) l0_1.length co50)) (v1 := (.slice (some ⟨go50, 0, none⟩) l0_1.length co50)) (ok := (fun k_ => ((P0_1_ k_ ∨ P0_2_ k_ ∨ P0_3_ k_) ∨ w.heap.size ≤ k_))) (zR_ HO_252002.out) hg (.inl rfl)); have n2_ := Aside0.mk (Kd.R_over' (v := (.slice (some ⟨go50, 0, none⟩) l0_1.length co50)) (zR_ HO_252003.out) (Kd.R_typed HO_252001.out) (by decide) hg); have n3_ := Aside0.mk (blk_grown (g := g) (o := .cells #[.int .i64 a0_0, .slice (some ⟨go50, 0, none⟩) l0_1.length co50, u9001_, u9002_] 116 (0, 0)) (zO_ BK251.out) hg (Kd.R_ne HO_252001.out BK251.out (by decide))); have n4_ := Aside0.mk (blk_grown (g := gb253) (o := .cells #[.int .i64 ((rd_T26 l1 a0_0).f0), .int .i64 ((rd_T26 l1 a0_0).f1), .int .i64 ((rd_T26 l1 a0_0).f2), .int .i64 ((rd_T26 l1 a0_0).f3), .int .i64 ((rd_T26 l1 a0_0).f4), .int .i64 ((rd_T26 l1 a0_0).f5)] 26 (0, 0)) (zO_ BK253.out) hg (Kd.R_ne HO_252001.out BK253.out (by decide))); have n5_ := Aside0.mk ((by rw [hw]; exact below_set (HB.out) GB50.out : Below w0.heap.size w0 w54)); have n6_ := Aside0.mk (Kept.of_grown (S := (fun k_ => (P0_1_ k_ ∨ P0_2_ k_ ∨ P0_3_ k_) ∨ k_ = g)) hg (by repeat (first | (with_reducible first | exact HK.out | apply Kept.alloc | apply Kept.drewN | apply Kept.drew | refine Kept.setCell ?_ (.inl (.inr rfl)) _ | refine Kept.setCell ?_ (.inr GW251.out) _ | refine Kept.setCell ?_ (.inr GW253.out) _) | exact HK.out)) (fun k_ e_ => Or.imp_left Or.inl ((HO_252001.out.1 k_ e_).1))); clear HO_252001; clear HO_252002; clear HO_252003; clear BK251; clear BK253; clear HB; clear HK; have HO_252001 := n0_; have HO_252002 := n1_; have HO_252003 := n2_; have BK251 := n3_; have BK253 := n4_; have HB := n5_; have HK := n6_; clear n0_ n1_ n2_ n3_ n4_ n5_ n6_; clear hg hw hp_; have hcz55_0 : w54.cell? ⟨g, 0, none⟩ = some (.int .i64 a0_0) := (blk_cell BK251.out 0).trans rfl; have hcz55_1 : w54.cell? ⟨g, 1, none⟩ = some (.slice (some ⟨go50, 0, none⟩) l0_1.length co50) := (blk_cell BK251.out 1).trans rfl; have hcz55_2 : w54.cell? ⟨g, 2, none⟩ = some (u9001_) := (blk_cell BK251.out 2).trans rfl; have hcz55_3 : w54.cell? ⟨g, 3, none⟩ = some (u9002_) := (blk_cell BK251.out 3).trans rfl; have hfz55_0 := blk_frozen BK251.out 0; have hfz55_1 := blk_frozen BK251.out 1; have hfz55_2 := blk_frozen BK251.out 2; have hfz55_3 := blk_frozen BK251.out 3))
        go_ret2
        exact ⟨by first | rfl | (simp <;> rfl) | (simp [*] <;> rfl), (by (with_reducible repeat (first | refine on_ ?_ _ | refine od_ ?_ | refine oa_ ?_ _)); refine blk_put (cs := #[.int .i64 a0_0, .slice (some ⟨go50, 0, none⟩) l0_1.length co50, u9001_, u9002_]) ?_ 0 _ rfl; (with_reducible repeat (first | refine on_ ?_ _ | refine od_ ?_ | refine oa_ ?_ _)); exact BK251.out), by (with_reducible repeat (first | apply Ra_ | apply Rn_ | apply Rd_)); exact Kd.R_mono (Kd.R_far (p := ⟨g, 0, none⟩) (Kd.R_types HO_252001.out BK251.out (by decide)) (fun _ hk => hk.2) (.int .i64 (wrap64 (a0_0 + 1)))) (fun _ hk => hk.1.1), by (with_reducible repeat (first | apply Ra_ | apply Rn_ | apply Rd_)); exact Kd.R_mono (Kd.R_far (p := ⟨g, 0, none⟩) (Kd.R_types HO_252002.out BK251.out (by decide)) (fun _ hk => hk.2) (.int .i64 (wrap64 (a0_0 + 1)))) (fun _ hk => hk.1.1), by (with_reducible repeat (first | apply Ra_ | apply Rn_ | apply Rd_)); exact Kd.R_mono (Kd.R_far (p := ⟨g, 0, none⟩) (Kd.R_types HO_252003.out BK251.out (by decide)) (fun _ hk => hk.2) (.int .i64 (wrap64 (a0_0 + 1)))) (fun _ hk => hk.1), by repeat (first | (with_reducible first | exact HB.out | apply ba_ | apply bn_ | apply bd_ | refine bs_ ?_ GE251.out | refine bs_ ?_ GE253.out) | exact HB.out), by repeat (first | (with_reducible first | exact HK.out | apply Kept.alloc | apply Kept.drewN | apply Kept.drew | refine Kept.setCell ?_ (.inl (.inr rfl)) _ | refine Kept.setCell ?_ (.inr GW251.out) _ | refine Kept.setCell ?_ (.inr GW253.out) _) | exact HK.out)⟩
       rw [if_neg c49] at H
       exact absurd H (by simp)
      rw [if_neg c48] at H
      exact absurd H (by simp)
     ·replace c47 := Bool.eq_false_iff.mpr c47
      subst c47
      have H1 : (if ((rd_T26 l1 a0_0).f0) = 5 then (if 0 ≤ ((rd_T26 l1 a0_0).f3) then (if ((rd_T26 l1 a0_0).f3) < (l0_1.length : Int) then (if (wrap64 ((rd l0_1 ((rd_T26 l1 a0_0).f3)) + ((rd_T26 l1 a0_0).f4))) ≥ 8 then (some (1, false, a0_0, l0_1, l0_2, l0_3)) else (if 0 ≤ (wrap64 ((rd l0_1 ((rd_T26 l1 a0_0).f3)) + ((rd_T26 l1 a0_0).f4))) then (if (wrap64 ((rd l0_1 ((rd_T26 l1 a0_0).f3)) + ((rd_T26 l1 a0_0).f4))) < (l2.length : Int) then (if 0 ≤ ((rd_T26 l1 a0_0).f2) then (if ((rd_T26 l1 a0_0).f2) < (l0_1.length : Int) then (some (0, false, (wrap64 (a0_0 + 1)), (l0_1.set (((rd_T26 l1 a0_0).f2) : Int).toNat (rd l2 (wrap64 ((rd l0_1 ((rd_T26 l1 a0_0).f3)) + ((rd_T26 l1 a0_0).f4))))), l0_2, l0_3)) else (none)) else (none)) else (none)) else (none))) else (none)) else (none)) else (if ((rd_T26 l1 a0_0).f0) = 7 then (impl_Machine_step.j1 kj39 (wrap64 (a0_0 + 1)) ((rd_T26 l1 a0_0).f0) (((rd_T26 l1 a0_0).f0) == 7) a0_0 l0_1 l0_2 l0_3 ((rd_T26 l1 a0_0).f0) ((rd_T26 l1 a0_0).f1) ((rd_T26 l1 a0_0).f2) ((rd_T26 l1 a0_0).f3) ((rd_T26 l1 a0_0).f4) ((rd_T26 l1 a0_0).f5)) else (impl_Machine_step.j1 kj39 (wrap64 (a0_0 + 1)) ((rd_T26 l1 a0_0).f0) (((rd_T26 l1 a0_0).f0) == 6) a0_0 l0_1 l0_2 l0_3 ((rd_T26 l1 a0_0).f0) ((rd_T26 l1 a0_0).f1) ((rd_T26 l1 a0_0).f2) ((rd_T26 l1 a0_0).f3) ((rd_T26 l1 a0_0).f4) ((rd_T26 l1 a0_0).f5)))) = some (r1, r2, r3, r4, r5, r6) := by rw [if_neg (show ¬ (false = true) by decide)] at H; exact H
      clear H
      have H := H1
      clear H1
      by_cases c56 : ((rd_T26 l1 a0_0).f0) = 5
      ·rw [if_pos c56] at H
       have c56b0 : (((rd_T26 l1 a0_0).f0) == 5) = true := beq_iff_eq.mpr c56
       have c56b1 : (((rd_T26 l1 a0_0).f0) != 5) = false := bne_eq_false_iff_eq.mpr c56
       clear c56
       by_cases c57 : 0 ≤ ((rd_T26 l1 a0_0).f3)
       ·rw [if_pos c57] at H
        have c57b0 : decide (0 ≤ ((rd_T26 l1 a0_0).f3)) = true := decide_eq_true c57
        clear c57
        by_cases c58 : ((rd_T26 l1 a0_0).f3) < (l0_1.length : Int)
        ·rw [if_pos c58] at H
         have c58b0 : decide (((rd_T26 l1 a0_0).f3) < (l0_1.length : Int)) = true := decide_eq_true c58
         clear c58
         by_cases c59 : (wrap64 ((rd l0_1 ((rd_T26 l1 a0_0).f3)) + ((rd_T26 l1 a0_0).f4))) ≥ 8
         ·rw [if_pos c59] at H
          have c59b0 : decide (8 ≤ (wrap64 ((rd l0_1 ((rd_T26 l1 a0_0).f3)) + ((rd_T26 l1 a0_0).f4)))) = true := decide_eq_true c59
          clear c59
          simp only [Option.some.injEq, Prod.mk.injEq] at H
          obtain ⟨rfl, rfl, rfl, rfl, rfl, rfl⟩ := H
          try go_wp2
          have n0_ := Aside0.mk (Kd.R_drew HO_252001.out)
          have n1_ := Aside0.mk (Kd.R_drew HO_252002.out)
          have n2_ := Aside0.mk (Kd.R_drew HO_252003.out)
          have n3_ := Aside0.mk (blk_drew BK251.out)
          have n4_ := Aside0.mk (blk_drew BK253.out)
          have n5_ := Aside0.mk (Kept.drew HK.out)
          have n6_ := Aside0.mk (below_drew1 HB.out)
          clear HO_252001
          clear HO_252002
          clear HO_252003
          clear BK251
          clear BK253
          clear HK
          clear HB
          have HO_252001 := n0_
          have HO_252002 := n1_
          have HO_252003 := n2_
          have BK251 := n3_
          have BK253 := n4_
          have HK := n5_
          have HB := n6_
          clear n0_ n1_ n2_ n3_ n4_ n5_ n6_
          obtain ⟨Ao61, co61, eo61⟩ := Kd.R_slice HO_252001.out
          (first | subst eo61 | (injection eo61 with f1_ f2_ f3_; have f4_ := f1_.symm; have f5_ := f3_.symm; clear f1_ f2_ f3_; subst f4_; subst f5_))
          have p262 : 0 ≤ (((rd_T26 l1 a0_0).f3) : Int) := dt_
          have q262 : ((rd_T26 l1 a0_0).f3) < (l0_1.length : Int) := dt_
          obtain ⟨ad262, e262, hx262_0⟩ := Kd.at_int (Kd.R_reads' HO_252001.out).2.2 ((rd_T26 l1 a0_0).f3) p262 q262
          cases e262
          replace p262 := eq_true p262
          replace q262 := eq_true q262
          refine start_ (n := 9) (S := fun w' => w'.cell? ⟨gb253, 0, none⟩ = some (.int .i64 ((rd_T26 l1 a0_0).f0)) ∧ w'.cell? ⟨gb253, 1, none⟩ = some (.int .i64 ((rd_T26 l1 a0_0).f1)) ∧ w'.cell? ⟨gb253, 2, none⟩ = some (.int .i64 ((rd_T26 l1 a0_0).f2)) ∧ w'.cell? ⟨gb253, 3, none⟩ = some (.int .i64 ((rd_T26 l1 a0_0).f3)) ∧ w'.cell? ⟨gb253, 4, none⟩ = some (.int .i64 ((rd_T26 l1 a0_0).f4)) ∧ w'.cell? ⟨gb253, 5, none⟩ = some (.int .i64 ((rd_T26 l1 a0_0).f5)) ∧ w'.cell? (ad262.add (((rd_T26 l1 a0_0).f3)).toNat) = some (.int .i64 (rd l0_1 ((rd_T26 l1 a0_0).f3)))) (ds := []) #[false, false, false, false, false, false, false, false, false] (by kernel_rfl) rfl rfl ⟨(blk_cell BK253.out 0).trans rfl, (blk_cell BK253.out 1).trans rfl, (blk_cell BK253.out 2).trans rfl, (blk_cell BK253.out 3).trans rfl, (blk_cell BK253.out 4).trans rfl, (blk_cell BK253.out 5).trans rfl, hx262_0⟩ (fun hHeld => ?_); refine with_tabW impl_Machine_step.tab15 impl_Machine_step.bits15 (fun HT_ HW_ => ?_)
          generalize wc.drew = w60 at HO_252001 HO_252002 HO_252003 BK251 BK253 HK HB hx262_0 hHeld ⊢
          refine pz_ 0 (some 114) (v := ?_) (a' := ?_) (any_of HT_.out (by kernel_rfl)) rfl rfl (fun _ _ _ h => h) (by rfl) ?_ ?_ ?_;rotate_left;intro w';go_simp;with_reducible rfl;rotate_left;simp only [Act.put, yy_];rfl
          refine pz_ 1 (some 115) (v := ?_) (a' := ?_) (any_of HT_.out (by kernel_rfl)) rfl rfl (fun _ _ _ h => h) (by rfl) ?_ ?_ ?_;rotate_left;intro w';go_simp;with_reducible rfl;rotate_left;simp only [Act.put, yy_];rfl
          refine pz_ 5 (some 119) (v := ?_) (a' := ?_) (any_of HT_.out (by kernel_rfl)) rfl rfl (fun _ _ _ h => h) (by rfl) ?_ ?_ ?_;rotate_left;intro w';go_simp;with_reducible rfl;rotate_left;simp only [Act.put, yy_];rfl
          refine tz_ 2 (some 116) (v := ?_) (a' := ?_) (take_ofW HT_.out HW_.out (by kernel_rfl)) rfl rfl (fun _ _ _ h => h) (by rfl) ?_ hHeld ?_ ?_;rotate_left;rintro w' ⟨s0, s1, s2, s3, s4, s5, s6⟩;go_simp;with_reducible rfl;rotate_left;simp only [Act.put, yy_];rfl
          refine pz_ 3 (some 117) (v := ?_) (a' := ?_) (any_of HT_.out (by kernel_rfl)) rfl rfl (fun _ _ _ h => h) (by rfl) ?_ ?_ ?_;rotate_left;intro w';go_simp;with_reducible rfl;rotate_left;simp only [Act.put, yy_];rfl
          refine tz_ 4 (some 118) (v := ?_) (a' := ?_) (take_ofW HT_.out HW_.out (by kernel_rfl)) rfl rfl (fun _ _ _ h => h) (by rfl) ?_ hHeld ?_ ?_;rotate_left;rintro w' ⟨s0, s1, s2, s3, s4, s5, s6⟩;go_simp;with_reducible rfl;rotate_left;simp only [Act.put, yy_];rfl
          refine tz_ 6 (some 120) (v := ?_) (a' := ?_) (take_ofW HT_.out HW_.out (by kernel_rfl)) rfl rfl (fun _ _ _ h => h) (by rfl) ?_ hHeld ?_ ?_;rotate_left;rintro w' ⟨s0, s1, s2, s3, s4, s5, s6⟩;go_simp;with_reducible rfl;rotate_left;simp only [Act.put, yy_];rfl
          refine pz_ 7 (some 121) (v := ?_) (a' := ?_) (any_of HT_.out (by kernel_rfl)) rfl rfl (fun _ _ _ h => h) (by rfl) ?_ ?_ ?_;rotate_left;intro w';go_simp;with_reducible rfl;rotate_left;simp only [Act.put, yy_];rfl
          refine pz_ 8 (some 11) (v := ?_) (a' := ?_) (any_of HT_.out (by kernel_rfl)) rfl rfl (fun _ _ _ h => h) (by rfl) ?_ ?_ ?_;rotate_left;intro w';go_simp;with_reducible rfl;rotate_left;simp only [Act.put, yy_];rfl
          refine done_ (done_of HT_.out (by kernel_rfl)) ?_
          try go_wp2
          go_ret2
          exact ⟨by first | rfl | (simp <;> rfl) | (simp [*] <;> rfl), (zO_ BK251.out), by (with_reducible repeat (first | apply Ra_ | apply Rn_ | apply Rd_)); exact Kd.R_mono HO_252001.out (fun _ hk => hk.1), by (with_reducible repeat (first | apply Ra_ | apply Rn_ | apply Rd_)); exact Kd.R_mono HO_252002.out (fun _ hk => hk.1), zR_ HO_252003.out, by repeat (first | (with_reducible first | exact HB.out | apply ba_ | apply bn_ | apply bd_ | refine bs_ ?_ GE251.out | refine bs_ ?_ GE253.out) | exact HB.out), by repeat (first | (with_reducible first | exact HK.out | apply Kept.alloc | apply Kept.drewN | apply Kept.drew | refine Kept.setCell ?_ (.inl (.inr rfl)) _ | refine Kept.setCell ?_ (.inr GW251.out) _ | refine Kept.setCell ?_ (.inr GW253.out) _) | exact HK.out)⟩
         rw [if_neg c59] at H
         have c59b0 : decide (8 ≤ (wrap64 ((rd l0_1 ((rd_T26 l1 a0_0).f3)) + ((rd_T26 l1 a0_0).f4)))) = false := decide_eq_false c59
         clear c59
         obtain ⟨ji62, hji62⟩ : ∃ j_ : Int, (wrap64 ((rd l0_1 ((rd_T26 l1 a0_0).f3)) + ((rd_T26 l1 a0_0).f4))) = j_ := ⟨_, rfl⟩
         replace H : (if 0 ≤ (ji62) then (if (ji62) < (l2.length : Int) then (if 0 ≤ ((rd_T26 l1 a0_0).f2) then (if ((rd_T26 l1 a0_0).f2) < (l0_1.length : Int) then (some (0, false, (wrap64 (a0_0 + 1)), (l0_1.set (((rd_T26 l1 a0_0).f2) : Int).toNat (rd l2 (ji62))), l0_2, l0_3)) else (none)) else (none)) else (none)) else (none)) = some (r1, r2, r3, r4, r5, r6) := by first | (rw [hji62] at H; exact H) | (simp only [hji62] at H ⊢; exact H)
         (try rw [hji62] at c59b0)
         have hji62w : (IntKind.i64.wrap ((rd l0_1 ((rd_T26 l1 a0_0).f3)) + ((rd_T26 l1 a0_0).f4))) = ji62 := (i64_w _).trans hji62
         by_cases c63 : 0 ≤ (ji62)
         ·rw [if_pos c63] at H
          have c63b0 : decide (0 ≤ (ji62)) = true := decide_eq_true c63
          clear c63
          by_cases c64 : (ji62) < (l2.length : Int)
          ·rw [if_pos c64] at H
           have c64b0 : decide ((ji62) < (l2.length : Int)) = true := decide_eq_true c64
           clear c64
           by_cases c65 : 0 ≤ ((rd_T26 l1 a0_0).f2)
           ·rw [if_pos c65] at H
            have c65b0 : decide (0 ≤ ((rd_T26 l1 a0_0).f2)) = true := decide_eq_true c65
            clear c65
            by_cases c66 : ((rd_T26 l1 a0_0).f2) < (l0_1.length : Int)
            ·rw [if_pos c66] at H
             have c66b0 : decide (((rd_T26 l1 a0_0).f2) < (l0_1.length : Int)) = true := decide_eq_true c66
             clear c66
             obtain ⟨y264, hy264⟩ : ∃ y_ : List Int, y_ = (l0_1.set (((rd_T26 l1 a0_0).f2) : Int).toNat (rd l2 (ji62))) := ⟨_, rfl⟩
             replace H : (some (0, false, (wrap64 (a0_0 + 1)), y264, l0_2, l0_3)) = some (r1, r2, r3, r4, r5, r6) := by first | (rw [hy264]; with_reducible exact H) | (have H2_ := (Option.bind_some _ _).symm.trans H; rw [hy264]; with_reducible exact H2_) | (have H2_ := (Option.bind_some _ _).symm.trans H; with_reducible exact H2_) | with_reducible exact H | (rw [hy264]; exact H) | exact H
             have Ny264 := Aside0.mk hy264
             clear hy264
             simp only [Option.some.injEq, Prod.mk.injEq] at H
             obtain ⟨rfl, rfl, rfl, rfl, rfl, rfl⟩ := H
             try go_wp2
             have n0_ := Aside0.mk (Kd.R_drew HO_252001.out)
             have n1_ := Aside0.mk (Kd.R_drew HO_252002.out)
             have n2_ := Aside0.mk (Kd.R_drew HO_252003.out)
             have n3_ := Aside0.mk (blk_drew BK251.out)
             have n4_ := Aside0.mk (blk_drew BK253.out)
             have n5_ := Aside0.mk (Kept.drew HK.out)
             have n6_ := Aside0.mk (below_drew1 HB.out)
             clear HO_252001
             clear HO_252002
             clear HO_252003
             clear BK251
             clear BK253
             clear HK
             clear HB
             have HO_252001 := n0_
             have HO_252002 := n1_
             have HO_252003 := n2_
             have BK251 := n3_
             have BK253 := n4_
             have HK := n5_
             have HB := n6_
             clear n0_ n1_ n2_ n3_ n4_ n5_ n6_
             obtain ⟨Ao69, co69, eo69⟩ := Kd.R_slice HO_252001.out
             (first | subst eo69 | (injection eo69 with f1_ f2_ f3_; have f4_ := f1_.symm; have f5_ := f3_.symm; clear f1_ f2_ f3_; subst f4_; subst f5_))
             have p262 : 0 ≤ (((rd_T26 l1 a0_0).f3) : Int) := dt_
             have q262 : ((rd_T26 l1 a0_0).f3) < (l0_1.length : Int) := dt_
             obtain ⟨ad262, e262, hx262_0⟩ := Kd.at_int (Kd.R_reads' HO_252001.out).2.2 ((rd_T26 l1 a0_0).f3) p262 q262
             cases e262
             replace p262 := eq_true p262
             replace q262 := eq_true q262
             refine start_ (n := 9) (S := fun w' => w'.cell? ⟨gb253, 0, none⟩ = some (.int .i64 ((rd_T26 l1 a0_0).f0)) ∧ w'.cell? ⟨gb253, 1, none⟩ = some (.int .i64 ((rd_T26 l1 a0_0).f1)) ∧ w'.cell? ⟨gb253, 2, none⟩ = some (.int .i64 ((rd_T26 l1 a0_0).f2)) ∧ w'.cell? ⟨gb253, 3, none⟩ = some (.int .i64 ((rd_T26 l1 a0_0).f3)) ∧ w'.cell? ⟨gb253, 4, none⟩ = some (.int .i64 ((rd_T26 l1 a0_0).f4)) ∧ w'.cell? ⟨gb253, 5, none⟩ = some (.int .i64 ((rd_T26 l1 a0_0).f5)) ∧ w'.cell? (ad262.add (((rd_T26 l1 a0_0).f3)).toNat) = some (.int .i64 (rd l0_1 ((rd_T26 l1 a0_0).f3)))) (ds := []) #[false, false, false, false, false, false, false, false, false] (by kernel_rfl) rfl rfl ⟨(blk_cell BK253.out 0).trans rfl, (blk_cell BK253.out 1).trans rfl, (blk_cell BK253.out 2).trans rfl, (blk_cell BK253.out 3).trans rfl, (blk_cell BK253.out 4).trans rfl, (blk_cell BK253.out 5).trans rfl, hx262_0⟩ (fun hHeld => ?_); refine with_tabW impl_Machine_step.tab15 impl_Machine_step.bits15 (fun HT_ HW_ => ?_)
             generalize wc.drew = w68 at HO_252001 HO_252002 HO_252003 BK251 BK253 HK HB hx262_0 hHeld ⊢
             refine pz_ 0 (some 114) (v := ?_) (a' := ?_) (any_of HT_.out (by kernel_rfl)) rfl rfl (fun _ _ _ h => h) (by rfl) ?_ ?_ ?_;rotate_left;intro w';go_simp;with_reducible rfl;rotate_left;simp only [Act.put, yy_];rfl
             refine pz_ 1 (some 115) (v := ?_) (a' := ?_) (any_of HT_.out (by kernel_rfl)) rfl rfl (fun _ _ _ h => h) (by rfl) ?_ ?_ ?_;rotate_left;intro w';go_simp;with_reducible rfl;rotate_left;simp only [Act.put, yy_];rfl
             refine pz_ 5 (some 119) (v := ?_) (a' := ?_) (any_of HT_.out (by kernel_rfl)) rfl rfl (fun _ _ _ h => h) (by rfl) ?_ ?_ ?_;rotate_left;intro w';go_simp;with_reducible rfl;rotate_left;simp only [Act.put, yy_];rfl
             refine tz_ 2 (some 116) (v := ?_) (a' := ?_) (take_ofW HT_.out HW_.out (by kernel_rfl)) rfl rfl (fun _ _ _ h => h) (by rfl) ?_ hHeld ?_ ?_;rotate_left;rintro w' ⟨s0, s1, s2, s3, s4, s5, s6⟩;go_simp;with_reducible rfl;rotate_left;simp only [Act.put, yy_];rfl
             refine pz_ 3 (some 117) (v := ?_) (a' := ?_) (any_of HT_.out (by kernel_rfl)) rfl rfl (fun _ _ _ h => h) (by rfl) ?_ ?_ ?_;rotate_left;intro w';go_simp;with_reducible rfl;rotate_left;simp only [Act.put, yy_];rfl
             refine tz_ 4 (some 118) (v := ?_) (a' := ?_) (take_ofW HT_.out HW_.out (by kernel_rfl)) rfl rfl (fun _ _ _ h => h) (by rfl) ?_ hHeld ?_ ?_;rotate_left;rintro w' ⟨s0, s1, s2, s3, s4, s5, s6⟩;go_simp;with_reducible rfl;rotate_left;simp only [Act.put, yy_];rfl
             refine tz_ 6 (some 120) (v := ?_) (a' := ?_) (take_ofW HT_.out HW_.out (by kernel_rfl)) rfl rfl (fun _ _ _ h => h) (by rfl) ?_ hHeld ?_ ?_;rotate_left;rintro w' ⟨s0, s1, s2, s3, s4, s5, s6⟩;go_simp;with_reducible rfl;rotate_left;simp only [Act.put, yy_];rfl
             refine pz_ 7 (some 121) (v := ?_) (a' := ?_) (any_of HT_.out (by kernel_rfl)) rfl rfl (fun _ _ _ h => h) (by rfl) ?_ ?_ ?_;rotate_left;intro w';go_simp;with_reducible rfl;rotate_left;simp only [Act.put, yy_];rfl
             refine pz_ 8 (some 11) (v := ?_) (a' := ?_) (any_of HT_.out (by kernel_rfl)) rfl rfl (fun _ _ _ h => h) (by rfl) ?_ ?_ ?_;rotate_left;intro w';go_simp;with_reducible rfl;rotate_left;simp only [Act.put, yy_];rfl
             refine done_ (done_of HT_.out (by kernel_rfl)) ?_
             try go_wp2
             have n0_ := Aside0.mk (Kd.R_drew HO_252001.out)
             have n1_ := Aside0.mk (Kd.R_drew HO_252002.out)
             have n2_ := Aside0.mk (Kd.R_drew HO_252003.out)
             have n3_ := Aside0.mk (blk_drew BK251.out)
             have n4_ := Aside0.mk (blk_drew BK253.out)
             have n5_ := Aside0.mk (Kept.drew HK.out)
             have n6_ := Aside0.mk (below_drew1 HB.out)
             clear HO_252001
             clear HO_252002
             clear HO_252003
             clear BK251
             clear BK253
             clear HK
             clear HB
             have HO_252001 := n0_
             have HO_252002 := n1_
             have HO_252003 := n2_
             have BK251 := n3_
             have BK253 := n4_
             have HK := n5_
             have HB := n6_
             clear n0_ n1_ n2_ n3_ n4_ n5_ n6_
             have p263 : 0 ≤ ((ji62) : Int) := dt_
             have q263 : (ji62) < (l2.length : Int) := dt_
             obtain ⟨ad263, e263, hx263_0⟩ := Kd.at_int (Kd.C_kept_now HR2.out HK.out) (ji62) p263 q263
             have hw263_0 := hx263_0
             cases e263
             replace p263 := eq_true p263
             replace q263 := eq_true q263
             have p67 : 0 ≤ (((rd_T26 l1 a0_0).f2) : Int) := dt_
             have q67 : (((rd_T26 l1 a0_0).f2) : Int) < ((l0_1.length : Int) : Int) := dt_
             obtain ⟨go67, co67, eo67, gb67, gl67, cl67, HG67⟩ := Kd.R_form HO_252001.out (by omega)
             (first | cases eo67 | (injection eo67 with ea_ en_ ec_; (first | subst ea_ | (injection ea_ with ea_; subst ea_)); subst ec_; clear en_))
             have GB67 := Aside0.mk gb67
             have GG67 := Aside0.mk HG67
             clear gb67 gl67 HG67
             have HMgo67 := Aside0.mk (show ((P0_1_ go67 ∨ P0_2_ go67 ∨ P0_3_ go67) ∨ w.heap.size ≤ go67) from (HO_252001.out.1 _ rfl).1)
             (first | simp only [add_plain] at hx262_0 | skip)
             obtain ⟨hx67_0, hf67_0⟩ := Kd.R_celln 0 HO_252001.out (((rd_T26 l1 a0_0).f2) : Int) p67 q67
             replace p67 := eq_true p67
             replace q67 := eq_true q67
             have HP71 := Kd.R_putn HO_252001.out (((rd_T26 l1 a0_0).f2) : Int) (rd l2 (ji62))
             rw [← Ny264.out] at HP71
             have HQ71 := Aside0.mk HP71
             clear HP71
             refine start_ (n := 9) (S := fun w' => w'.cell? ⟨gb253, 0, none⟩ = some (.int .i64 ((rd_T26 l1 a0_0).f0)) ∧ w'.cell? ⟨gb253, 1, none⟩ = some (.int .i64 ((rd_T26 l1 a0_0).f1)) ∧ w'.cell? ⟨gb253, 2, none⟩ = some (.int .i64 ((rd_T26 l1 a0_0).f2)) ∧ w'.cell? ⟨gb253, 3, none⟩ = some (.int .i64 ((rd_T26 l1 a0_0).f3)) ∧ w'.cell? ⟨gb253, 4, none⟩ = some (.int .i64 ((rd_T26 l1 a0_0).f4)) ∧ w'.cell? ⟨gb253, 5, none⟩ = some (.int .i64 ((rd_T26 l1 a0_0).f5)) ∧ w'.cell? (ad263.add ((ji62)).toNat) = some (.int .i64 (rd l2 (ji62)))) (ds := [8]) #[false, false, false, false, false, false, false, false, false] (by kernel_rfl) rfl rfl ⟨(blk_cell BK253.out 0).trans rfl, (blk_cell BK253.out 1).trans rfl, (blk_cell BK253.out 2).trans rfl, (blk_cell BK253.out 3).trans rfl, (blk_cell BK253.out 4).trans rfl, (blk_cell BK253.out 5).trans rfl, (Kd.foot_int (HR2.out _ (by repeat (first | exact HK.out | apply Kept.alloc | apply Kept.drewN | apply Kept.drew | refine Kept.setCell ?_ (Or.imp_left Or.inl HMgo67.out) _ | refine Kept.setCell ?_ (.inl (.inr rfl)) _))) (ji62) (of_eq_true p263) (of_eq_true q263))⟩ (fun hHeld => ?_); refine with_tabW impl_Machine_step.tab18 impl_Machine_step.bits18 (fun HT_ HW_ => ?_)
             generalize w68.drew = w70 at HO_252001 HO_252002 HO_252003 BK251 BK253 HK HB GG67 HQ71 hf67_0 hx262_0 hx263_0 hx67_0 hHeld ⊢
             refine pz_ 0 (some 124) (v := ?_) (a' := ?_) (any_of HT_.out (by kernel_rfl)) rfl rfl (fun _ _ _ h => h) (by rfl) ?_ ?_ ?_;rotate_left;intro w';go_simp;with_reducible rfl;rotate_left;simp only [Act.put, yy_];rfl
             refine pz_ 1 (some 125) (v := ?_) (a' := ?_) (any_of HT_.out (by kernel_rfl)) rfl rfl (fun _ _ _ h => h) (by rfl) ?_ ?_ ?_;rotate_left;intro w';go_simp;with_reducible rfl;rotate_left;simp only [Act.put, yy_];rfl
             refine pz_ 3 (some 127) (v := ?_) (a' := ?_) (any_of HT_.out (by kernel_rfl)) rfl rfl (fun _ _ _ h => h) (by rfl) ?_ ?_ ?_;rotate_left;intro w';go_simp;with_reducible rfl;rotate_left;simp only [Act.put, yy_];rfl
             refine pz_ 4 (some 128) (v := ?_) (a' := ?_) (any_of HT_.out (by kernel_rfl)) rfl rfl (fun _ _ _ h => h) (by rfl) ?_ ?_ ?_;rotate_left;intro w';go_simp;with_reducible rfl;rotate_left;simp only [Act.put, yy_];rfl
             refine pz_ 5 (some 129) (v := ?_) (a' := ?_) (any_of HT_.out (by kernel_rfl)) rfl rfl (fun _ _ _ h => h) (by rfl) ?_ ?_ ?_;rotate_left;intro w';go_simp;with_reducible rfl;rotate_left;simp only [Act.put, yy_];rfl
             refine tz_ 2 (some 126) (v := ?_) (a' := ?_) (take_ofW HT_.out HW_.out (by kernel_rfl)) rfl rfl (fun _ _ _ h => h) (by rfl) ?_ hHeld ?_ ?_;rotate_left;rintro w' ⟨s0, s1, s2, s3, s4, s5, s6⟩;go_simp;with_reducible rfl;rotate_left;simp only [Act.put, yy_];rfl
             refine tz_ 6 (some 130) (v := ?_) (a' := ?_) (take_ofW HT_.out HW_.out (by kernel_rfl)) rfl rfl (fun _ _ _ h => h) (by rfl) ?_ hHeld ?_ ?_;rotate_left;rintro w' ⟨s0, s1, s2, s3, s4, s5, s6⟩;go_simp;with_reducible rfl;rotate_left;simp only [Act.put, yy_];rfl
             refine pz_ 7 (some 131) (v := ?_) (a' := ?_) (any_of HT_.out (by kernel_rfl)) rfl rfl (fun _ _ _ h => h) (by rfl) ?_ ?_ ?_;rotate_left;intro w';go_simp;with_reducible rfl;rotate_left;simp only [Act.put, yy_];rfl
             refine last_ (i := 8) (N := none) #[true, true, true, true, true, true, true, true, true] rfl rfl (one_of HT_.out (by kernel_rfl)) (by decide) (fun K hK => ?_)
             refine skip_ (w1 := ?_) (by rfl) rfl ?_ ?_
             rotate_left
             ·go_simp
              rfl
             refine hK.out _ _ ?_
             clear hK K
             refine done_ (done_of HT_.out (by kernel_rfl)) ?_
             (try rw [drewN_set_])
             have n0_ : Aside0 (Kd.R (Kd.int .i64) 3 (w70.setCell ⟨go67, (((rd_T26 l1 a0_0).f2) : Int).toNat, none⟩ (.int .i64 (rd l2 (ji62)))) w0.heap.size (fun k_ => ((P0_1_ k_ ∨ P0_2_ k_ ∨ P0_3_ k_) ∨ w.heap.size ≤ k_) ∧ some k_ ≠ (u9001_ : Value).ownBlock) (.slice (some ⟨go67, 0, none⟩) l0_1.length co69) y264) := ⟨zR_ HQ71.out⟩
             have n1_ : Aside0 (Kd.R (Kd.int .i64) 3 (w70.setCell ⟨go67, (((rd_T26 l1 a0_0).f2) : Int).toNat, none⟩ (.int .i64 (rd l2 (ji62)))) w0.heap.size (fun k_ => ((P0_1_ k_ ∨ P0_2_ k_ ∨ P0_3_ k_) ∨ w.heap.size ≤ k_) ∧ some k_ ≠ (.slice (some ⟨go67, 0, none⟩) l0_1.length co69 : Value).ownBlock) u9001_ l0_2) := ⟨by (with_reducible repeat (first | apply Ra_ | apply Rn_ | apply Rd_)); exact Kd.R_mono (Kd.R_far (p := ⟨go67, (((rd_T26 l1 a0_0).f2) : Int).toNat, none⟩) (Kd.R_mono HO_252002.out (fun k_ hk => (⟨hk, fun e_ => hk.2 (by rw [e_]; rfl)⟩ : _ ∧ k_ ≠ go67))) (fun _ hk => hk.2) (.int .i64 (rd l2 (ji62)))) (fun _ hk => ⟨hk.1.1, hk.1.2⟩)⟩
             have n2_ : Aside0 (Kd.R Kd.bool 4 (w70.setCell ⟨go67, (((rd_T26 l1 a0_0).f2) : Int).toNat, none⟩ (.int .i64 (rd l2 (ji62)))) w0.heap.size (fun k_ => ((P0_1_ k_ ∨ P0_2_ k_ ∨ P0_3_ k_) ∨ w.heap.size ≤ k_)) u9002_ l0_3) := ⟨by (with_reducible repeat (first | apply Ra_ | apply Rn_ | apply Rd_)); exact Kd.R_mono (Kd.R_far (p := ⟨go67, (((rd_T26 l1 a0_0).f2) : Int).toNat, none⟩) (Kd.R_types HO_252003.out GG67.out (by decide)) (fun _ hk => hk.2) (.int .i64 (rd l2 (ji62)))) (fun _ hk => hk.1)⟩
             have n3_ : Aside0 ((w70.setCell ⟨go67, (((rd_T26 l1 a0_0).f2) : Int).toNat, none⟩ (.int .i64 (rd l2 (ji62)))).heap[g]? = some (.cells #[.int .i64 a0_0, .slice (some ⟨go67, 0, none⟩) l0_1.length co69, u9001_, u9002_] 116 (0, 0))) := ⟨by (with_reducible repeat (first | refine on_ ?_ _ | refine od_ ?_ | refine oa_ ?_ _)); refine blk_far ?_ (by have h_ := Kd.R_ne HO_252001.out BK251.out (by decide); intro e_; exact h_ (by rw [e_]; rfl)) _; (with_reducible repeat (first | refine on_ ?_ _ | refine od_ ?_ | refine oa_ ?_ _)); exact BK251.out⟩
             have n4_ : Aside0 ((w70.setCell ⟨go67, (((rd_T26 l1 a0_0).f2) : Int).toNat, none⟩ (.int .i64 (rd l2 (ji62)))).heap[gb253]? = some (.cells #[.int .i64 ((rd_T26 l1 a0_0).f0), .int .i64 ((rd_T26 l1 a0_0).f1), .int .i64 ((rd_T26 l1 a0_0).f2), .int .i64 ((rd_T26 l1 a0_0).f3), .int .i64 ((rd_T26 l1 a0_0).f4), .int .i64 ((rd_T26 l1 a0_0).f5)] 26 (0, 0))) := ⟨by (with_reducible repeat (first | refine on_ ?_ _ | refine od_ ?_ | refine oa_ ?_ _)); refine blk_far ?_ (by have h_ := Kd.R_ne HO_252001.out BK253.out (by decide); intro e_; exact h_ (by rw [e_]; rfl)) _; (with_reducible repeat (first | refine on_ ?_ _ | refine od_ ?_ | refine oa_ ?_ _)); exact BK253.out⟩
             have n5_ : Aside0 (Kept w (w70.setCell ⟨go67, (((rd_T26 l1 a0_0).f2) : Int).toNat, none⟩ (.int .i64 (rd l2 (ji62)))) (fun k_ => (P0_1_ k_ ∨ P0_2_ k_ ∨ P0_3_ k_) ∨ k_ = g)) := ⟨by repeat (first | (with_reducible first | exact HK.out | apply Kept.alloc | apply Kept.drewN | apply Kept.drew | refine Kept.setCell ?_ (Or.imp_left Or.inl HMgo67.out) _ | refine Kept.setCell ?_ (.inl (.inr rfl)) _ | refine Kept.setCell ?_ (.inr GW251.out) _ | refine Kept.setCell ?_ (.inr GW253.out) _) | exact HK.out)⟩
             have n6_ : Aside0 (Below w0.heap.size w0 (w70.setCell ⟨go67, (((rd_T26 l1 a0_0).f2) : Int).toNat, none⟩ (.int .i64 (rd l2 (ji62))))) := ⟨by repeat (first | (with_reducible first | exact HB.out | apply ba_ | apply bn_ | apply bd_ | refine bs_ ?_ GB67.out | refine bs_ ?_ GE251.out | refine bs_ ?_ GE253.out) | exact HB.out)⟩
             (try clear HO_252001)
             (try clear HO_252002)
             (try clear HO_252003)
             (try clear BK251)
             (try clear BK253)
             (try clear HK)
             (try clear HB)
             generalize (w70.setCell ⟨go67, (((rd_T26 l1 a0_0).f2) : Int).toNat, none⟩ (.int .i64 (rd l2 (ji62)))) = w72 at n0_ n1_ n2_ n3_ n4_ n5_ n6_ ⊢
             have HO_252001 := n0_
             have HO_252002 := n1_
             have HO_252003 := n2_
             have BK251 := n3_
             have BK253 := n4_
             have HK := n5_
             have HB := n6_
             clear n0_ n1_ n2_ n3_ n4_ n5_ n6_
             have hnb73 := NB251_253.out
             have hnc73 := NB253_251.out
             have hcz74_0 : w72.cell? ⟨g, 0, none⟩ = some (.int .i64 a0_0) := (blk_cell BK251.out 0).trans rfl
             have hcz74_1 : w72.cell? ⟨g, 1, none⟩ = some (.slice (some ⟨go67, 0, none⟩) l0_1.length co69) := (blk_cell BK251.out 1).trans rfl
             have hcz74_2 : w72.cell? ⟨g, 2, none⟩ = some (u9001_) := (blk_cell BK251.out 2).trans rfl
             have hcz74_3 : w72.cell? ⟨g, 3, none⟩ = some (u9002_) := (blk_cell BK251.out 3).trans rfl
             have hfz74_0 := blk_frozen BK251.out 0
             have hfz74_1 := blk_frozen BK251.out 1
             have hfz74_2 := blk_frozen BK251.out 2
             have hfz74_3 := blk_frozen BK251.out 3
             try go_wp2
             go_ret2
             exact ⟨by first | rfl | (simp [errW_none, errW_some] <;> rfl) | (simp only [← hji62]; first | rfl | (simp [errW_none, errW_some] <;> rfl)) | (simp [*, errW_none, errW_some] <;> rfl), (by (with_reducible repeat (first | refine on_ ?_ _ | refine od_ ?_ | refine oa_ ?_ _)); refine blk_put (cs := #[.int .i64 a0_0, .slice (some ⟨go67, 0, none⟩) l0_1.length co69, u9001_, u9002_]) ?_ 0 _ rfl; (with_reducible repeat (first | refine on_ ?_ _ | refine od_ ?_ | refine oa_ ?_ _)); exact BK251.out), by (with_reducible repeat (first | apply Ra_ | apply Rn_ | apply Rd_)); exact Kd.R_mono (Kd.R_far (p := ⟨g, 0, none⟩) (Kd.R_types HO_252001.out BK251.out (by decide)) (fun _ hk => hk.2) (.int .i64 (wrap64 (a0_0 + 1)))) (fun _ hk => hk.1.1), by (with_reducible repeat (first | apply Ra_ | apply Rn_ | apply Rd_)); exact Kd.R_mono (Kd.R_far (p := ⟨g, 0, none⟩) (Kd.R_types HO_252002.out BK251.out (by decide)) (fun _ hk => hk.2) (.int .i64 (wrap64 (a0_0 + 1)))) (fun _ hk => hk.1.1), by (with_reducible repeat (first | apply Ra_ | apply Rn_ | apply Rd_)); exact Kd.R_mono (Kd.R_far (p := ⟨g, 0, none⟩) (Kd.R_types HO_252003.out BK251.out (by decide)) (fun _ hk => hk.2) (.int .i64 (wrap64 (a0_0 + 1)))) (fun _ hk => hk.1), by repeat (first | (with_reducible first | exact HB.out | apply ba_ | apply bn_ | apply bd_ | refine bs_ ?_ GE251.out | refine bs_ ?_ GE253.out) | exact HB.out), by repeat (first | (with_reducible first | exact HK.out | apply Kept.alloc | apply Kept.drewN | apply Kept.drew | refine Kept.setCell ?_ (.inl (.inr rfl)) _ | refine Kept.setCell ?_ (.inr GW251.out) _ | refine Kept.setCell ?_ (.inr GW253.out) _) | exact HK.out)⟩
            rw [if_neg c66] at H
            exact absurd H (by simp)
           rw [if_neg c65] at H
           exact absurd H (by simp)
          rw [if_neg c64] at H
          exact absurd H (by simp)
         rw [if_neg c63] at H
         exact absurd H (by simp)
        rw [if_neg c58] at H
        exact absurd H (by simp)
       rw [if_neg c57] at H
       exact absurd H (by simp)
      rw [if_neg c56] at H
      have c56b0 : (((rd_T26 l1 a0_0).f0) == 5) = false := beq_eq_false_iff_ne.mpr c56
      have c56b1 : (((rd_T26 l1 a0_0).f0) != 5) = true := bne_iff_ne.mpr c56
      have HC75 := Aside0.mk H
      clear H
      go_upto_if 132 with (fail)
      go_cut [132] (fun v132 wc => ∃ (kq : Nat) (x132_74 : Bool), v132 = .bool x132_74 ∧ Aside0 (impl_Machine_step.j1 kq (wrap64 (a0_0 + 1)) ((rd_T26 l1 a0_0).f0) x132_74 a0_0 l0_1 l0_2 l0_3 ((rd_T26 l1 a0_0).f0) ((rd_T26 l1 a0_0).f1) ((rd_T26 l1 a0_0).f2) ((rd_T26 l1 a0_0).f3) ((rd_T26 l1 a0_0).f4) ((rd_T26 l1 a0_0).f5) = some (r1, r2, r3, r4, r5, r6)) ∧ Aside0 (kq ≤ kj39) ∧ Aside0 (Kd.R (Kd.int .i64) 3 wc w0.heap.size (fun k_ => ((P0_1_ k_ ∨ P0_2_ k_ ∨ P0_3_ k_) ∨ w.heap.size ≤ k_) ∧ some k_ ≠ (u9001_ : Value).ownBlock) u9000_ l0_1) ∧ Aside0 (Kd.R (Kd.int .i64) 3 wc w0.heap.size (fun k_ => ((P0_1_ k_ ∨ P0_2_ k_ ∨ P0_3_ k_) ∨ w.heap.size ≤ k_) ∧ some k_ ≠ (u9000_ : Value).ownBlock) u9001_ l0_2) ∧ Aside0 (Kd.R Kd.bool 4 wc w0.heap.size (fun k_ => ((P0_1_ k_ ∨ P0_2_ k_ ∨ P0_3_ k_) ∨ w.heap.size ≤ k_)) u9002_ l0_3) ∧ Aside0 (wc.heap[g]? = some (.cells #[.int .i64 a0_0, u9000_, u9001_, u9002_] 116 (0, 0))) ∧ Aside0 (wc.heap[gb253]? = some (.cells #[.int .i64 ((rd_T26 l1 a0_0).f0), .int .i64 ((rd_T26 l1 a0_0).f1), .int .i64 ((rd_T26 l1 a0_0).f2), .int .i64 ((rd_T26 l1 a0_0).f3), .int .i64 ((rd_T26 l1 a0_0).f4), .int .i64 ((rd_T26 l1 a0_0).f5)] 26 (0, 0))) ∧ Aside0 (Kept w wc (fun k_ => (P0_1_ k_ ∨ P0_2_ k_ ∨ P0_3_ k_) ∨ k_ = g)) ∧ Aside0 (Below w0.heap.size w0 wc))
      case first => as_aux_lemma =>
       have H := HC75.out
       clear HC75
       by_cases c76 : ((rd_T26 l1 a0_0).f0) = 7
       ·rw [if_pos c76] at H
        have c76b0 : (((rd_T26 l1 a0_0).f0) == 7) = true := beq_iff_eq.mpr c76
        have c76b1 : (((rd_T26 l1 a0_0).f0) != 7) = false := bne_eq_false_iff_eq.mpr c76
        clear c76
        (first | rw [c76b0] | (simp only [i64_w, i32_w]; rw [c76b0]) | skip)
        have H' := Aside0.mk H
        clear H
        go_wp2
        go_meet
        case rel => exact ⟨_, ((((rd_T26 l1 a0_0).f0) == 7)), (by first | rfl | (simp; done) | (simp [*]; done)), H', ⟨by have := HJ39.out; first | omega | exact Nat.le_refl _⟩, ⟨zR_ HO_252001.out⟩, ⟨zR_ HO_252002.out⟩, ⟨zR_ HO_252003.out⟩, ⟨zO_ BK251.out⟩, ⟨zO_ BK253.out⟩, ⟨by repeat (first | (with_reducible first | exact HK.out | apply Kept.alloc | apply Kept.drewN | apply Kept.drew | refine Kept.setCell ?_ (.inl (.inr rfl)) _ | refine Kept.setCell ?_ (.inr GW251.out) _ | refine Kept.setCell ?_ (.inr GW253.out) _) | exact HK.out)⟩, ⟨by repeat (first | (with_reducible first | exact HB.out | apply ba_ | apply bn_ | apply bd_ | refine bs_ ?_ GE251.out | refine bs_ ?_ GE253.out) | exact HB.out)⟩⟩
       rw [if_neg c76] at H
       have c76b0 : (((rd_T26 l1 a0_0).f0) == 7) = false := beq_eq_false_iff_ne.mpr c76
       have c76b1 : (((rd_T26 l1 a0_0).f0) != 7) = true := bne_iff_ne.mpr c76
       (first | rw [c76b0] | (simp only [i64_w, i32_w]; rw [c76b0]) | skip)
       have H' := Aside0.mk H
       clear H
       go_wp2
       go_meet
       case rel => exact ⟨_, ((((rd_T26 l1 a0_0).f0) == 6)), (by first | rfl | (simp; done) | (simp [*]; done)), H', ⟨by have := HJ39.out; first | omega | exact Nat.le_refl _⟩, ⟨zR_ HO_252001.out⟩, ⟨zR_ HO_252002.out⟩, ⟨zR_ HO_252003.out⟩, ⟨zO_ BK251.out⟩, ⟨zO_ BK253.out⟩, ⟨by repeat (first | (with_reducible first | exact HK.out | apply Kept.alloc | apply Kept.drewN | apply Kept.drew | refine Kept.setCell ?_ (.inl (.inr rfl)) _ | refine Kept.setCell ?_ (.inr GW251.out) _ | refine Kept.setCell ?_ (.inr GW253.out) _) | exact HK.out)⟩, ⟨by repeat (first | (with_reducible first | exact HB.out | apply ba_ | apply bn_ | apply bd_ | refine bs_ ?_ GE251.out | refine bs_ ?_ GE253.out) | exact HB.out)⟩⟩
      case rest => as_aux_lemma =>
       clear HC75
       obtain ⟨kq, x132_74, rfl, HA, HJ74, HO_252001, HO_252002, HO_252003, BK251, BK253, HK, HB⟩ := hcut
       cases kq with
       | zero => exact absurd HA.out (by simp [impl_Machine_step.j1])
       | succ kj74 =>
        have H := HA.out
        clear HA
        simp only [impl_Machine_step.j1] at H
        by_cases c77 : x132_74 = true
        ·subst c77
         have H1 : (if ((rd_T26 l1 a0_0).f4) ≥ 16 then (some (2, false, a0_0, l0_1, l0_2, l0_3)) else (if ((rd_T26 l1 a0_0).f0) = 7 then (if 0 ≤ ((rd_T26 l1 a0_0).f2) then (if ((rd_T26 l1 a0_0).f2) < (l0_1.length : Int) then (if 0 ≤ ((rd_T26 l1 a0_0).f4) then (if ((rd_T26 l1 a0_0).f4) < (l0_2.length : Int) then (if ((rd_T26 l1 a0_0).f4) < (l0_3.length : Int) then (some (0, false, (wrap64 (a0_0 + 1)), l0_1, (l0_2.set (((rd_T26 l1 a0_0).f4) : Int).toNat (rd l0_1 ((rd_T26 l1 a0_0).f2))), (l0_3.set (((rd_T26 l1 a0_0).f4) : Int).toNat true))) else (none)) else (none)) else (none)) else (none)) else (none)) else (if 0 ≤ ((rd_T26 l1 a0_0).f4) then (if ((rd_T26 l1 a0_0).f4) < (l0_3.length : Int) then (if rdOf false l0_3 ((rd_T26 l1 a0_0).f4) = true then (if ((rd_T26 l1 a0_0).f4) < (l0_2.length : Int) then (if 0 ≤ ((rd_T26 l1 a0_0).f2) then (if ((rd_T26 l1 a0_0).f2) < (l0_1.length : Int) then (some (0, false, (wrap64 (a0_0 + 1)), (l0_1.set (((rd_T26 l1 a0_0).f2) : Int).toNat (rd l0_2 ((rd_T26 l1 a0_0).f4))), l0_2, l0_3)) else (none)) else (none)) else (none)) else (some (3, false, a0_0, l0_1, l0_2, l0_3))) else (none)) else (none)))) = some (r1, r2, r3, r4, r5, r6) := by rw [if_pos rfl] at H; exact H
         clear H
         have H := H1
         clear H1
         by_cases c78 : ((rd_T26 l1 a0_0).f4) ≥ 16
         ·rw [if_pos c78] at H
          have c78b0 : decide (16 ≤ ((rd_T26 l1 a0_0).f4)) = true := decide_eq_true c78
          clear c78
          simp only [Option.some.injEq, Prod.mk.injEq] at H
          obtain ⟨rfl, rfl, rfl, rfl, rfl, rfl⟩ := H
          have hnb79 := NB253_251.out
          have hnc79 := NB251_253.out
          have hcz80_0 : wc.cell? ⟨gb253, 0, none⟩ = some (.int .i64 ((rd_T26 l1 a0_0).f0)) := (blk_cell BK253.out 0).trans rfl
          have hcz80_1 : wc.cell? ⟨gb253, 1, none⟩ = some (.int .i64 ((rd_T26 l1 a0_0).f1)) := (blk_cell BK253.out 1).trans rfl
          have hcz80_2 : wc.cell? ⟨gb253, 2, none⟩ = some (.int .i64 ((rd_T26 l1 a0_0).f2)) := (blk_cell BK253.out 2).trans rfl
          have hcz80_3 : wc.cell? ⟨gb253, 3, none⟩ = some (.int .i64 ((rd_T26 l1 a0_0).f3)) := (blk_cell BK253.out 3).trans rfl
          have hcz80_4 : wc.cell? ⟨gb253, 4, none⟩ = some (.int .i64 ((rd_T26 l1 a0_0).f4)) := (blk_cell BK253.out 4).trans rfl
          have hcz80_5 : wc.cell? ⟨gb253, 5, none⟩ = some (.int .i64 ((rd_T26 l1 a0_0).f5)) := (blk_cell BK253.out 5).trans rfl
          have hfz80_0 := blk_frozen BK253.out 0
          have hfz80_1 := blk_frozen BK253.out 1
          have hfz80_2 := blk_frozen BK253.out 2
          have hfz80_3 := blk_frozen BK253.out 3
          have hfz80_4 := blk_frozen BK253.out 4
          have hfz80_5 := blk_frozen BK253.out 5
          go_wp2
          go_ret2
          exact ⟨by first | rfl | (simp <;> rfl) | (simp [*] <;> rfl), (zO_ BK251.out), by (with_reducible repeat (first | apply Ra_ | apply Rn_ | apply Rd_)); exact Kd.R_mono HO_252001.out (fun _ hk => hk.1), by (with_reducible repeat (first | apply Ra_ | apply Rn_ | apply Rd_)); exact Kd.R_mono HO_252002.out (fun _ hk => hk.1), zR_ HO_252003.out, by repeat (first | (with_reducible first | exact HB.out | apply ba_ | apply bn_ | apply bd_ | refine bs_ ?_ GE251.out | refine bs_ ?_ GE253.out) | exact HB.out), by repeat (first | (with_reducible first | exact HK.out | apply Kept.alloc | apply Kept.drewN | apply Kept.drew | refine Kept.setCell ?_ (.inl (.inr rfl)) _ | refine Kept.setCell ?_ (.inr GW251.out) _ | refine Kept.setCell ?_ (.inr GW253.out) _) | exact HK.out)⟩
         rw [if_neg c78] at H
         have c78b0 : decide (16 ≤ ((rd_T26 l1 a0_0).f4)) = false := decide_eq_false c78
         clear c78
         by_cases c81 : ((rd_T26 l1 a0_0).f0) = 7
         ·rw [if_pos c81] at H
          have c81b0 : (((rd_T26 l1 a0_0).f0) == 7) = true := beq_iff_eq.mpr c81
          have c81b1 : (((rd_T26 l1 a0_0).f0) != 7) = false := bne_eq_false_iff_eq.mpr c81
          clear c81
          by_cases c82 : 0 ≤ ((rd_T26 l1 a0_0).f2)
          ·rw [if_pos c82] at H
           have c82b0 : decide (0 ≤ ((rd_T26 l1 a0_0).f2)) = true := decide_eq_true c82
           clear c82
           by_cases c83 : ((rd_T26 l1 a0_0).f2) < (l0_1.length : Int)
           ·rw [if_pos c83] at H
            have c83b0 : decide (((rd_T26 l1 a0_0).f2) < (l0_1.length : Int)) = true := decide_eq_true c83
            clear c83
            by_cases c84 : 0 ≤ ((rd_T26 l1 a0_0).f4)
            ·rw [if_pos c84] at H
             have c84b0 : decide (0 ≤ ((rd_T26 l1 a0_0).f4)) = true := decide_eq_true c84
             clear c84
             by_cases c85 : ((rd_T26 l1 a0_0).f4) < (l0_2.length : Int)
             ·rw [if_pos c85] at H
              have c85b0 : decide (((rd_T26 l1 a0_0).f4) < (l0_2.length : Int)) = true := decide_eq_true c85
              clear c85
              obtain ⟨y266, hy266⟩ : ∃ y_ : List Int, y_ = (l0_2.set (((rd_T26 l1 a0_0).f4) : Int).toNat (rd l0_1 ((rd_T26 l1 a0_0).f2))) := ⟨_, rfl⟩
              replace H : (if ((rd_T26 l1 a0_0).f4) < (l0_3.length : Int) then (some (0, false, (wrap64 (a0_0 + 1)), l0_1, y266, (l0_3.set (((rd_T26 l1 a0_0).f4) : Int).toNat true))) else (none)) = some (r1, r2, r3, r4, r5, r6) := by first | (rw [hy266]; with_reducible exact H) | (have H2_ := (Option.bind_some _ _).symm.trans H; rw [hy266]; with_reducible exact H2_) | (have H2_ := (Option.bind_some _ _).symm.trans H; with_reducible exact H2_) | with_reducible exact H | (rw [hy266]; exact H) | exact H
              have Ny266 := Aside0.mk hy266
              clear hy266
              by_cases c87 : ((rd_T26 l1 a0_0).f4) < (l0_3.length : Int)
              ·rw [if_pos c87] at H
               have c87b0 : decide (((rd_T26 l1 a0_0).f4) < (l0_3.length : Int)) = true := decide_eq_true c87
               clear c87
               obtain ⟨y267, hy267⟩ : ∃ y_ : List Bool, y_ = (l0_3.set (((rd_T26 l1 a0_0).f4) : Int).toNat true) := ⟨_, rfl⟩
               replace H : (some (0, false, (wrap64 (a0_0 + 1)), l0_1, y266, y267)) = some (r1, r2, r3, r4, r5, r6) := by first | (rw [hy267]; with_reducible exact H) | (have H2_ := (Option.bind_some _ _).symm.trans H; rw [hy267]; with_reducible exact H2_) | (have H2_ := (Option.bind_some _ _).symm.trans H; with_reducible exact H2_) | with_reducible exact H | (rw [hy267]; exact H) | exact H
               have Ny267 := Aside0.mk hy267
               clear hy267
               simp only [Option.some.injEq, Prod.mk.injEq] at H
               obtain ⟨rfl, rfl, rfl, rfl, rfl, rfl⟩ := H
               have hnb89 := NB253_251.out
               have hnc89 := NB251_253.out
               have hcz90_0 : wc.cell? ⟨gb253, 0, none⟩ = some (.int .i64 ((rd_T26 l1 a0_0).f0)) := (blk_cell BK253.out 0).trans rfl
               have hcz90_1 : wc.cell? ⟨gb253, 1, none⟩ = some (.int .i64 ((rd_T26 l1 a0_0).f1)) := (blk_cell BK253.out 1).trans rfl
               have hcz90_2 : wc.cell? ⟨gb253, 2, none⟩ = some (.int .i64 ((rd_T26 l1 a0_0).f2)) := (blk_cell BK253.out 2).trans rfl
               have hcz90_3 : wc.cell? ⟨gb253, 3, none⟩ = some (.int .i64 ((rd_T26 l1 a0_0).f3)) := (blk_cell BK253.out 3).trans rfl
               have hcz90_4 : wc.cell? ⟨gb253, 4, none⟩ = some (.int .i64 ((rd_T26 l1 a0_0).f4)) := (blk_cell BK253.out 4).trans rfl
               have hcz90_5 : wc.cell? ⟨gb253, 5, none⟩ = some (.int .i64 ((rd_T26 l1 a0_0).f5)) := (blk_cell BK253.out 5).trans rfl
               have hfz90_0 := blk_frozen BK253.out 0
               have hfz90_1 := blk_frozen BK253.out 1
               have hfz90_2 := blk_frozen BK253.out 2
               have hfz90_3 := blk_frozen BK253.out 3
               have hfz90_4 := blk_frozen BK253.out 4
               have hfz90_5 := blk_frozen BK253.out 5
               try go_wp2
               have n0_ := Aside0.mk (Kd.R_drew HO_252001.out)
               have n1_ := Aside0.mk (Kd.R_drew HO_252002.out)
               have n2_ := Aside0.mk (Kd.R_drew HO_252003.out)
               have n3_ := Aside0.mk (blk_drew BK251.out)
               have n4_ := Aside0.mk (blk_drew BK253.out)
               have n5_ := Aside0.mk (Kept.drew HK.out)
               have n6_ := Aside0.mk (below_drew1 HB.out)
               clear HO_252001
               clear HO_252002
               clear HO_252003
               clear BK251
               clear BK253
               clear HK
               clear HB
               have HO_252001 := n0_
               have HO_252002 := n1_
               have HO_252003 := n2_
               have BK251 := n3_
               have BK253 := n4_
               have HK := n5_
               have HB := n6_
               clear n0_ n1_ n2_ n3_ n4_ n5_ n6_
               obtain ⟨Ao92, co92, eo92⟩ := Kd.R_slice HO_252001.out
               (first | subst eo92 | (injection eo92 with f1_ f2_ f3_; have f4_ := f1_.symm; have f5_ := f3_.symm; clear f1_ f2_ f3_; subst f4_; subst f5_))
               have p265 : 0 ≤ (((rd_T26 l1 a0_0).f2) : Int) := dt_
               have q265 : ((rd_T26 l1 a0_0).f2) < (l0_1.length : Int) := dt_
               obtain ⟨ad265, e265, hx265_0⟩ := Kd.at_int (Kd.R_reads' HO_252001.out).2.2 ((rd_T26 l1 a0_0).f2) p265 q265
               cases e265
               replace p265 := eq_true p265
               replace q265 := eq_true q265
               have p86 : 0 ≤ (((rd_T26 l1 a0_0).f4) : Int) := dt_
               have q86 : (((rd_T26 l1 a0_0).f4) : Int) < ((l0_2.length : Int) : Int) := dt_
               obtain ⟨go86, co86, eo86, gb86, gl86, cl86, HG86⟩ := Kd.R_form HO_252002.out (by omega)
               (first | cases eo86 | (injection eo86 with ea_ en_ ec_; (first | subst ea_ | (injection ea_ with ea_; subst ea_)); subst ec_; clear en_))
               have GB86 := Aside0.mk gb86
               have GG86 := Aside0.mk HG86
               clear gb86 gl86 HG86
               have HMgo86 := Aside0.mk (show ((P0_1_ go86 ∨ P0_2_ go86 ∨ P0_3_ go86) ∨ w.heap.size ≤ go86) from (HO_252002.out.1 _ rfl).1)
               obtain ⟨hx86_0, hf86_0⟩ := Kd.R_celln 0 HO_252002.out (((rd_T26 l1 a0_0).f4) : Int) p86 q86
               replace p86 := eq_true p86
               replace q86 := eq_true q86
               have HP93 := Kd.R_putn HO_252002.out (((rd_T26 l1 a0_0).f4) : Int) (rd l0_1 ((rd_T26 l1 a0_0).f2))
               rw [← Ny266.out] at HP93
               have HQ93 := Aside0.mk HP93
               clear HP93
               have p88 : 0 ≤ (((rd_T26 l1 a0_0).f4) : Int) := dt_
               have q88 : (((rd_T26 l1 a0_0).f4) : Int) < ((l0_3.length : Int) : Int) := dt_
               obtain ⟨go88, co88, eo88, gb88, gl88, cl88, HG88⟩ := Kd.R_form HO_252003.out (by omega)
               (first | cases eo88 | (injection eo88 with ea_ en_ ec_; (first | subst ea_ | (injection ea_ with ea_; subst ea_)); subst ec_; clear en_))
               have GB88 := Aside0.mk gb88
               have GG88 := Aside0.mk HG88
               clear gb88 gl88 HG88
               have HMgo88 := Aside0.mk (show ((P0_1_ go88 ∨ P0_2_ go88 ∨ P0_3_ go88) ∨ w.heap.size ≤ go88) from (HO_252003.out.1 _ rfl))
               obtain ⟨hx88_0, hf88_0⟩ := Kd.R_celln false (Kd.R_far (p := ⟨go86, (((rd_T26 l1 a0_0).f4) : Int).toNat, none⟩) (Kd.R_types HO_252003.out GG86.out (by decide)) (fun _ hk => hk.2) (.int .i64 (rd l0_1 ((rd_T26 l1 a0_0).f2)))) (((rd_T26 l1 a0_0).f4) : Int) p88 q88
               replace p88 := eq_true p88
               replace q88 := eq_true q88
               have HP94 := Kd.R_putn (Kd.R_far (p := ⟨go86, (((rd_T26 l1 a0_0).f4) : Int).toNat, none⟩) (Kd.R_types HO_252003.out GG86.out (by decide)) (fun _ hk => hk.2) (.int .i64 (rd l0_1 ((rd_T26 l1 a0_0).f2)))) (((rd_T26 l1 a0_0).f4) : Int) true
               rw [← Ny267.out] at HP94
               have HQ94 := Aside0.mk HP94
               clear HP94
               refine start_ (n := 21) (S := fun w' => w'.cell? ⟨g, 0, none⟩ = some (.int .i64 a0_0) ∧ w'.cell? ⟨g, 1, none⟩ = some (.slice (some ad265) l0_1.length co92) ∧ w'.cell? ⟨g, 2, none⟩ = some (.slice (some ⟨go86, 0, none⟩) l0_2.length co86) ∧ w'.cell? ⟨g, 3, none⟩ = some (.slice (some ⟨go88, 0, none⟩) l0_3.length co88) ∧ w'.cell? ⟨gb253, 0, none⟩ = some (.int .i64 ((rd_T26 l1 a0_0).f0)) ∧ w'.cell? ⟨gb253, 1, none⟩ = some (.int .i64 ((rd_T26 l1 a0_0).f1)) ∧ w'.cell? ⟨gb253, 2, none⟩ = some (.int .i64 ((rd_T26 l1 a0_0).f2)) ∧ w'.cell? ⟨gb253, 3, none⟩ = some (.int .i64 ((rd_T26 l1 a0_0).f3)) ∧ w'.cell? ⟨gb253, 4, none⟩ = some (.int .i64 ((rd_T26 l1 a0_0).f4)) ∧ w'.cell? ⟨gb253, 5, none⟩ = some (.int .i64 ((rd_T26 l1 a0_0).f5)) ∧ w'.cell? (ad265.add (((rd_T26 l1 a0_0).f2)).toNat) = some (.int .i64 (rd l0_1 ((rd_T26 l1 a0_0).f2)))) (ds := [20]) #[false, false, false, false, false, false, false, false, false, false, false, false, false, false, false, false, false, false, false, false, false] (by kernel_rfl) rfl rfl ⟨(blk_cell BK251.out 0).trans rfl, (blk_cell BK251.out 1).trans rfl, (blk_cell BK251.out 2).trans rfl, (blk_cell BK251.out 3).trans rfl, (blk_cell BK253.out 0).trans rfl, (blk_cell BK253.out 1).trans rfl, (blk_cell BK253.out 2).trans rfl, (blk_cell BK253.out 3).trans rfl, (blk_cell BK253.out 4).trans rfl, (blk_cell BK253.out 5).trans rfl, hx265_0⟩ (fun hHeld => ?_); refine with_tabW impl_Machine_step.tab24 impl_Machine_step.bits24 (fun HT_ HW_ => ?_)
               generalize wc.drew = w91 at HO_252001 HO_252002 HO_252003 BK251 BK253 HK HB GG86 GG88 HQ93 HQ94 hf86_0 hf88_0 hx265_0 hx86_0 hx88_0 hHeld ⊢
               refine pz_ 0 (some 141) (v := ?_) (a' := ?_) (any_of HT_.out (by kernel_rfl)) rfl rfl (fun _ _ _ h => h) (by rfl) ?_ ?_ ?_;rotate_left;intro w';go_simp;with_reducible rfl;rotate_left;simp only [Act.put, yy_];rfl
               refine pz_ 1 (some 142) (v := ?_) (a' := ?_) (any_of HT_.out (by kernel_rfl)) rfl rfl (fun _ _ _ h => h) (by rfl) ?_ ?_ ?_;rotate_left;intro w';go_simp;with_reducible rfl;rotate_left;simp only [Act.put, yy_];rfl
               refine pz_ 2 (some 143) (v := ?_) (a' := ?_) (any_of HT_.out (by kernel_rfl)) rfl rfl (fun _ _ _ h => h) (by rfl) ?_ ?_ ?_;rotate_left;intro w';go_simp;with_reducible rfl;rotate_left;simp only [Act.put, yy_];rfl
               refine pz_ 4 (some 145) (v := ?_) (a' := ?_) (any_of HT_.out (by kernel_rfl)) rfl rfl (fun _ _ _ h => h) (by rfl) ?_ ?_ ?_;rotate_left;intro w';go_simp;with_reducible rfl;rotate_left;simp only [Act.put, yy_];rfl
               refine pz_ 6 (some 147) (v := ?_) (a' := ?_) (any_of HT_.out (by kernel_rfl)) rfl rfl (fun _ _ _ h => h) (by rfl) ?_ ?_ ?_;rotate_left;intro w';go_simp;with_reducible rfl;rotate_left;simp only [Act.put, yy_];rfl
               refine pz_ 7 (some 148) (v := ?_) (a' := ?_) (any_of HT_.out (by kernel_rfl)) rfl rfl (fun _ _ _ h => h) (by rfl) ?_ ?_ ?_;rotate_left;intro w';go_simp;with_reducible rfl;rotate_left;simp only [Act.put, yy_];rfl
               refine pz_ 8 (some 149) (v := ?_) (a' := ?_) (any_of HT_.out (by kernel_rfl)) rfl rfl (fun _ _ _ h => h) (by rfl) ?_ ?_ ?_;rotate_left;intro w';go_simp;with_reducible rfl;rotate_left;simp only [Act.put, yy_];rfl
               refine pz_ 10 (some 151) (v := ?_) (a' := ?_) (any_of HT_.out (by kernel_rfl)) rfl rfl (fun _ _ _ h => h) (by rfl) ?_ ?_ ?_;rotate_left;intro w';go_simp;with_reducible rfl;rotate_left;simp only [Act.put, yy_];rfl
               refine pz_ 12 (some 153) (v := ?_) (a' := ?_) (any_of HT_.out (by kernel_rfl)) rfl rfl (fun _ _ _ h => h) (by rfl) ?_ ?_ ?_;rotate_left;intro w';go_simp;with_reducible rfl;rotate_left;simp only [Act.put, yy_];rfl
               refine pz_ 13 (some 154) (v := ?_) (a' := ?_) (any_of HT_.out (by kernel_rfl)) rfl rfl (fun _ _ _ h => h) (by rfl) ?_ ?_ ?_;rotate_left;intro w';go_simp;with_reducible rfl;rotate_left;simp only [Act.put, yy_];rfl
               refine tz_ 3 (some 144) (v := ?_) (a' := ?_) (take_ofW HT_.out HW_.out (by kernel_rfl)) rfl rfl (fun _ _ _ h => h) (by rfl) ?_ hHeld ?_ ?_;rotate_left;rintro w' ⟨s0, s1, s2, s3, s4, s5, s6, s7, s8, s9, s10⟩;go_simp;with_reducible rfl;rotate_left;simp only [Act.put, yy_];rfl
               refine tz_ 5 (some 146) (v := ?_) (a' := ?_) (take_ofW HT_.out HW_.out (by kernel_rfl)) rfl rfl (fun _ _ _ h => h) (by rfl) ?_ hHeld ?_ ?_;rotate_left;rintro w' ⟨s0, s1, s2, s3, s4, s5, s6, s7, s8, s9, s10⟩;go_simp;with_reducible rfl;rotate_left;simp only [Act.put, yy_];rfl
               refine tz_ 9 (some 150) (v := ?_) (a' := ?_) (take_ofW HT_.out HW_.out (by kernel_rfl)) rfl rfl (fun _ _ _ h => h) (by rfl) ?_ hHeld ?_ ?_;rotate_left;rintro w' ⟨s0, s1, s2, s3, s4, s5, s6, s7, s8, s9, s10⟩;go_simp;with_reducible rfl;rotate_left;simp only [Act.put, yy_];rfl
               refine tz_ 11 (some 152) (v := ?_) (a' := ?_) (take_ofW HT_.out HW_.out (by kernel_rfl)) rfl rfl (fun _ _ _ h => h) (by rfl) ?_ hHeld ?_ ?_;rotate_left;rintro w' ⟨s0, s1, s2, s3, s4, s5, s6, s7, s8, s9, s10⟩;go_simp;with_reducible rfl;rotate_left;simp only [Act.put, yy_];rfl
               refine tz_ 14 (some 155) (v := ?_) (a' := ?_) (take_ofW HT_.out HW_.out (by kernel_rfl)) rfl rfl (fun _ _ _ h => h) (by rfl) ?_ hHeld ?_ ?_;rotate_left;rintro w' ⟨s0, s1, s2, s3, s4, s5, s6, s7, s8, s9, s10⟩;go_simp;with_reducible rfl;rotate_left;simp only [Act.put, yy_];rfl
               refine pz_ 15 (some 156) (v := ?_) (a' := ?_) (any_of HT_.out (by kernel_rfl)) rfl rfl (fun _ _ _ h => h) (by rfl) ?_ ?_ ?_;rotate_left;intro w';go_simp;with_reducible rfl;rotate_left;simp only [Act.put, yy_];rfl
               refine tz_ 16 (some 157) (v := ?_) (a' := ?_) (take_ofW HT_.out HW_.out (by kernel_rfl)) rfl rfl (fun _ _ _ h => h) (by rfl) ?_ hHeld ?_ ?_;rotate_left;rintro w' ⟨s0, s1, s2, s3, s4, s5, s6, s7, s8, s9, s10⟩;go_simp;with_reducible rfl;rotate_left;simp only [Act.put, yy_];rfl
               refine pz_ 17 (some 158) (v := ?_) (a' := ?_) (any_of HT_.out (by kernel_rfl)) rfl rfl (fun _ _ _ h => h) (by rfl) ?_ ?_ ?_;rotate_left;intro w';go_simp;with_reducible rfl;rotate_left;simp only [Act.put, yy_];rfl
               refine one_ (i := 18) (N := none) #[true, true, true, true, true, true, true, true, true, true, true, true, true, true, true, true, true, true, true, false, false] rfl rfl (one_of HT_.out (by kernel_rfl)) (by decide) (fun K hK => ?_)
               refine skip_ (w1 := ?_) (by rfl) rfl ?_ ?_
               rotate_left
               ·go_simp
                rfl
               refine hK.out _ _ ⟨((cell_far (p := ⟨_, _, none⟩) (fun e_ => (Kd.R_ne HO_252002.out BK251.out (by decide)) (congrArg some e_)) _).trans (hHeld.1)), ((cell_far (p := ⟨_, _, none⟩) (fun e_ => (Kd.R_ne HO_252002.out BK251.out (by decide)) (congrArg some e_)) _).trans (hHeld.2.1)), ((cell_far (p := ⟨_, _, none⟩) (fun e_ => (Kd.R_ne HO_252002.out BK251.out (by decide)) (congrArg some e_)) _).trans (hHeld.2.2.1)), ((cell_far (p := ⟨_, _, none⟩) (fun e_ => (Kd.R_ne HO_252002.out BK251.out (by decide)) (congrArg some e_)) _).trans (hHeld.2.2.2.1)), ((cell_far (p := ⟨_, _, none⟩) (fun e_ => (Kd.R_ne HO_252002.out BK253.out (by decide)) (congrArg some e_)) _).trans (hHeld.2.2.2.2.1)), ((cell_far (p := ⟨_, _, none⟩) (fun e_ => (Kd.R_ne HO_252002.out BK253.out (by decide)) (congrArg some e_)) _).trans (hHeld.2.2.2.2.2.1)), ((cell_far (p := ⟨_, _, none⟩) (fun e_ => (Kd.R_ne HO_252002.out BK253.out (by decide)) (congrArg some e_)) _).trans (hHeld.2.2.2.2.2.2.1)), ((cell_far (p := ⟨_, _, none⟩) (fun e_ => (Kd.R_ne HO_252002.out BK253.out (by decide)) (congrArg some e_)) _).trans (hHeld.2.2.2.2.2.2.2.1)), ((cell_far (p := ⟨_, _, none⟩) (fun e_ => (Kd.R_ne HO_252002.out BK253.out (by decide)) (congrArg some e_)) _).trans (hHeld.2.2.2.2.2.2.2.2.1)), ((cell_far (p := ⟨_, _, none⟩) (fun e_ => (Kd.R_ne HO_252002.out BK253.out (by decide)) (congrArg some e_)) _).trans (hHeld.2.2.2.2.2.2.2.2.2.1)), ((cell_far (p := ⟨_, _, none⟩) (by first | exact (fun e_ => (HO_252001.out.1 _ rfl).2 (congrArg some e_)) | (rw [add_block]; exact (fun e_ => (HO_252001.out.1 _ rfl).2 (congrArg some e_))) | (show (Addr.add _ _).block ≠ _; rw [add_block]; exact (fun e_ => (HO_252001.out.1 _ rfl).2 (congrArg some e_)))) _).trans (hHeld.2.2.2.2.2.2.2.2.2.2))⟩ (fun hHeld => ?_)
               clear hK K
               refine pz_ 19 (some 159) (v := ?_) (a' := ?_) (any_of HT_.out (by kernel_rfl)) rfl rfl (fun _ _ _ h => h) (by rfl) ?_ ?_ ?_;rotate_left;intro w';go_simp;with_reducible rfl;rotate_left;simp only [Act.put, yy_];rfl
               refine last_ (i := 20) (N := none) #[true, true, true, true, true, true, true, true, true, true, true, true, true, true, true, true, true, true, true, true, true] rfl rfl (one_of HT_.out (by kernel_rfl)) (by decide) (fun K hK => ?_)
               refine skip_ (w1 := ?_) (by rfl) rfl ?_ ?_
               rotate_left
               ·go_simp
                rfl
               refine hK.out _ _ ?_
               clear hK K
               refine done_ (done_of HT_.out (by kernel_rfl)) ?_
               (try rw [drewN_set_])
               have n0_ : Aside0 (Kd.R (Kd.int .i64) 3 ((w91.setCell ⟨go86, (((rd_T26 l1 a0_0).f4) : Int).toNat, none⟩ (.int .i64 (rd l0_1 ((rd_T26 l1 a0_0).f2)))).setCell ⟨go88, (((rd_T26 l1 a0_0).f4) : Int).toNat, none⟩ (.bool true)) w0.heap.size (fun k_ => ((P0_1_ k_ ∨ P0_2_ k_ ∨ P0_3_ k_) ∨ w.heap.size ≤ k_) ∧ some k_ ≠ (.slice (some ⟨go86, 0, none⟩) l0_2.length co86 : Value).ownBlock) (.slice (some ad265) l0_1.length co92) l0_1) := ⟨by (with_reducible repeat (first | apply Ra_ | apply Rn_ | apply Rd_)); exact Kd.R_mono (Kd.R_far (p := ⟨go88, (((rd_T26 l1 a0_0).f4) : Int).toNat, none⟩) (Kd.R_far (p := ⟨go86, (((rd_T26 l1 a0_0).f4) : Int).toNat, none⟩) (Kd.R_types (Kd.R_mono HO_252001.out (fun k_ hk => (⟨hk, fun e_ => hk.2 (by rw [e_]; rfl)⟩ : _ ∧ k_ ≠ go86))) GG88.out (by decide)) (fun _ hk => hk.1.2) (.int .i64 (rd l0_1 ((rd_T26 l1 a0_0).f2)))) (fun _ hk => hk.2) (.bool true)) (fun _ hk => ⟨hk.1.1.1, hk.1.1.2⟩)⟩
               have n1_ : Aside0 (Kd.R (Kd.int .i64) 3 ((w91.setCell ⟨go86, (((rd_T26 l1 a0_0).f4) : Int).toNat, none⟩ (.int .i64 (rd l0_1 ((rd_T26 l1 a0_0).f2)))).setCell ⟨go88, (((rd_T26 l1 a0_0).f4) : Int).toNat, none⟩ (.bool true)) w0.heap.size (fun k_ => ((P0_1_ k_ ∨ P0_2_ k_ ∨ P0_3_ k_) ∨ w.heap.size ≤ k_) ∧ some k_ ≠ (.slice (some ad265) l0_1.length co92 : Value).ownBlock) (.slice (some ⟨go86, 0, none⟩) l0_2.length co86) y266) := ⟨by (with_reducible repeat (first | apply Ra_ | apply Rn_ | apply Rd_)); exact Kd.R_mono (Kd.R_far (p := ⟨go88, (((rd_T26 l1 a0_0).f4) : Int).toNat, none⟩) (Kd.R_types HQ93.out (blk_far GG88.out (blk_ne GG88.out GG86.out (by decide)) _) (by decide)) (fun _ hk => hk.2) (.bool true)) (fun _ hk => ⟨hk.1.1, hk.1.2⟩)⟩
               have n2_ : Aside0 (Kd.R Kd.bool 4 ((w91.setCell ⟨go86, (((rd_T26 l1 a0_0).f4) : Int).toNat, none⟩ (.int .i64 (rd l0_1 ((rd_T26 l1 a0_0).f2)))).setCell ⟨go88, (((rd_T26 l1 a0_0).f4) : Int).toNat, none⟩ (.bool true)) w0.heap.size (fun k_ => ((P0_1_ k_ ∨ P0_2_ k_ ∨ P0_3_ k_) ∨ w.heap.size ≤ k_)) (.slice (some ⟨go88, 0, none⟩) l0_3.length co88) y267) := ⟨by (with_reducible repeat (first | apply Ra_ | apply Rn_ | apply Rd_)); exact Kd.R_mono HQ94.out (fun _ hk => hk.1)⟩
               have n3_ : Aside0 (((w91.setCell ⟨go86, (((rd_T26 l1 a0_0).f4) : Int).toNat, none⟩ (.int .i64 (rd l0_1 ((rd_T26 l1 a0_0).f2)))).setCell ⟨go88, (((rd_T26 l1 a0_0).f4) : Int).toNat, none⟩ (.bool true)).heap[g]? = some (.cells #[.int .i64 a0_0, .slice (some ad265) l0_1.length co92, .slice (some ⟨go86, 0, none⟩) l0_2.length co86, .slice (some ⟨go88, 0, none⟩) l0_3.length co88] 116 (0, 0))) := ⟨by (with_reducible repeat (first | refine on_ ?_ _ | refine od_ ?_ | refine oa_ ?_ _)); refine blk_far ?_ (by have h_ := Kd.R_ne HO_252003.out BK251.out (by decide); intro e_; exact h_ (by rw [e_]; rfl)) _; (with_reducible repeat (first | refine on_ ?_ _ | refine od_ ?_ | refine oa_ ?_ _)); refine blk_far ?_ (by have h_ := Kd.R_ne HO_252002.out BK251.out (by decide); intro e_; exact h_ (by rw [e_]; rfl)) _; (with_reducible repeat (first | refine on_ ?_ _ | refine od_ ?_ | refine oa_ ?_ _)); exact BK251.out⟩
               have n4_ : Aside0 (((w91.setCell ⟨go86, (((rd_T26 l1 a0_0).f4) : Int).toNat, none⟩ (.int .i64 (rd l0_1 ((rd_T26 l1 a0_0).f2)))).setCell ⟨go88, (((rd_T26 l1 a0_0).f4) : Int).toNat, none⟩ (.bool true)).heap[gb253]? = some (.cells #[.int .i64 ((rd_T26 l1 a0_0).f0), .int .i64 ((rd_T26 l1 a0_0).f1), .int .i64 ((rd_T26 l1 a0_0).f2), .int .i64 ((rd_T26 l1 a0_0).f3), .int .i64 ((rd_T26 l1 a0_0).f4), .int .i64 ((rd_T26 l1 a0_0).f5)] 26 (0, 0))) := ⟨by (with_reducible repeat (first | refine on_ ?_ _ | refine od_ ?_ | refine oa_ ?_ _)); refine blk_far ?_ (by have h_ := Kd.R_ne HO_252003.out BK253.out (by decide); intro e_; exact h_ (by rw [e_]; rfl)) _; (with_reducible repeat (first | refine on_ ?_ _ | refine od_ ?_ | refine oa_ ?_ _)); refine blk_far ?_ (by have h_ := Kd.R_ne HO_252002.out BK253.out (by decide); intro e_; exact h_ (by rw [e_]; rfl)) _; (with_reducible repeat (first | refine on_ ?_ _ | refine od_ ?_ | refine oa_ ?_ _)); exact BK253.out⟩
               have n5_ : Aside0 (Kept w ((w91.setCell ⟨go86, (((rd_T26 l1 a0_0).f4) : Int).toNat, none⟩ (.int .i64 (rd l0_1 ((rd_T26 l1 a0_0).f2)))).setCell ⟨go88, (((rd_T26 l1 a0_0).f4) : Int).toNat, none⟩ (.bool true)) (fun k_ => (P0_1_ k_ ∨ P0_2_ k_ ∨ P0_3_ k_) ∨ k_ = g)) := ⟨by repeat (first | (with_reducible first | exact HK.out | apply Kept.alloc | apply Kept.drewN | apply Kept.drew | refine Kept.setCell ?_ (Or.imp_left Or.inl HMgo86.out) _ | refine Kept.setCell ?_ (Or.imp_left Or.inl HMgo88.out) _ | refine Kept.setCell ?_ (.inl (.inr rfl)) _ | refine Kept.setCell ?_ (.inr GW251.out) _ | refine Kept.setCell ?_ (.inr GW253.out) _) | exact HK.out)⟩
               have n6_ : Aside0 (Below w0.heap.size w0 ((w91.setCell ⟨go86, (((rd_T26 l1 a0_0).f4) : Int).toNat, none⟩ (.int .i64 (rd l0_1 ((rd_T26 l1 a0_0).f2)))).setCell ⟨go88, (((rd_T26 l1 a0_0).f4) : Int).toNat, none⟩ (.bool true))) := ⟨by repeat (first | (with_reducible first | exact HB.out | apply ba_ | apply bn_ | apply bd_ | refine bs_ ?_ GB86.out | refine bs_ ?_ GB88.out | refine bs_ ?_ GE251.out | refine bs_ ?_ GE253.out) | exact HB.out)⟩
               (try clear HO_252001)
               (try clear HO_252002)
               (try clear HO_252003)
               (try clear BK251)
               (try clear BK253)
               (try clear HK)
               (try clear HB)
               generalize ((w91.setCell ⟨go86, (((rd_T26 l1 a0_0).f4) : Int).toNat, none⟩ (.int .i64 (rd l0_1 ((rd_T26 l1 a0_0).f2)))).setCell ⟨go88, (((rd_T26 l1 a0_0).f4) : Int).toNat, none⟩ (.bool true)) = w95 at n0_ n1_ n2_ n3_ n4_ n5_ n6_ ⊢
               have HO_252001 := n0_
               have HO_252002 := n1_
               have HO_252003 := n2_
               have BK251 := n3_
               have BK253 := n4_
               have HK := n5_
               have HB := n6_
               clear n0_ n1_ n2_ n3_ n4_ n5_ n6_
               have hcz96_0 : w95.cell? ⟨g, 0, none⟩ = some (.int .i64 a0_0) := (blk_cell BK251.out 0).trans rfl
               have hcz96_1 : w95.cell? ⟨g, 1, none⟩ = some (.slice (some ad265) l0_1.length co92) := (blk_cell BK251.out 1).trans rfl
               have hcz96_2 : w95.cell? ⟨g, 2, none⟩ = some (.slice (some ⟨go86, 0, none⟩) l0_2.length co86) := (blk_cell BK251.out 2).trans rfl
               have hcz96_3 : w95.cell? ⟨g, 3, none⟩ = some (.slice (some ⟨go88, 0, none⟩) l0_3.length co88) := (blk_cell BK251.out 3).trans rfl
               have hfz96_0 := blk_frozen BK251.out 0
               have hfz96_1 := blk_frozen BK251.out 1
               have hfz96_2 := blk_frozen BK251.out 2
               have hfz96_3 := blk_frozen BK251.out 3
               try go_wp2
               go_ret2
               exact ⟨by first | rfl | (simp <;> rfl) | (simp [*] <;> rfl), (by (with_reducible repeat (first | refine on_ ?_ _ | refine od_ ?_ | refine oa_ ?_ _)); refine blk_put (cs := #[.int .i64 a0_0, .slice (some ad265) l0_1.length co92, .slice (some ⟨go86, 0, none⟩) l0_2.length co86, .slice (some ⟨go88, 0, none⟩) l0_3.length co88]) ?_ 0 _ rfl; (with_reducible repeat (first | refine on_ ?_ _ | refine od_ ?_ | refine oa_ ?_ _)); exact BK251.out), by (with_reducible repeat (first | apply Ra_ | apply Rn_ | apply Rd_)); exact Kd.R_mono (Kd.R_far (p := ⟨g, 0, none⟩) (Kd.R_types HO_252001.out BK251.out (by decide)) (fun _ hk => hk.2) (.int .i64 (wrap64 (a0_0 + 1)))) (fun _ hk => hk.1.1), by (with_reducible repeat (first | apply Ra_ | apply Rn_ | apply Rd_)); exact Kd.R_mono (Kd.R_far (p := ⟨g, 0, none⟩) (Kd.R_types HO_252002.out BK251.out (by decide)) (fun _ hk => hk.2) (.int .i64 (wrap64 (a0_0 + 1)))) (fun _ hk => hk.1.1), by (with_reducible repeat (first | apply Ra_ | apply Rn_ | apply Rd_)); exact Kd.R_mono (Kd.R_far (p := ⟨g, 0, none⟩) (Kd.R_types HO_252003.out BK251.out (by decide)) (fun _ hk => hk.2) (.int .i64 (wrap64 (a0_0 + 1)))) (fun _ hk => hk.1), by repeat (first | (with_reducible first | exact HB.out | apply ba_ | apply bn_ | apply bd_ | refine bs_ ?_ GE251.out | refine bs_ ?_ GE253.out) | exact HB.out), by repeat (first | (with_reducible first | exact HK.out | apply Kept.alloc | apply Kept.drewN | apply Kept.drew | refine Kept.setCell ?_ (.inl (.inr rfl)) _ | refine Kept.setCell ?_ (.inr GW251.out) _ | refine Kept.setCell ?_ (.inr GW253.out) _) | exact HK.out)⟩
              rw [if_neg c87] at H
              exact absurd H (by simp)
             rw [if_neg c85] at H
             exact absurd H (by simp)
            rw [if_neg c84] at H
            exact absurd H (by simp)
           rw [if_neg c83] at H
           exact absurd H (by simp)
          rw [if_neg c82] at H
          exact absurd H (by simp)
         rw [if_neg c81] at H
         have c81b0 : (((rd_T26 l1 a0_0).f0) == 7) = false := beq_eq_false_iff_ne.mpr c81
         have c81b1 : (((rd_T26 l1 a0_0).f0) != 7) = true := bne_iff_ne.mpr c81
         by_cases c97 : 0 ≤ ((rd_T26 l1 a0_0).f4)
         ·rw [if_pos c97] at H
          have c97b0 : decide (0 ≤ ((rd_T26 l1 a0_0).f4)) = true := decide_eq_true c97
          clear c97
          by_cases c98 : ((rd_T26 l1 a0_0).f4) < (l0_3.length : Int)
          ·rw [if_pos c98] at H
           have c98b0 : decide (((rd_T26 l1 a0_0).f4) < (l0_3.length : Int)) = true := decide_eq_true c98
           clear c98
           obtain ⟨bq99, hbq99⟩ : ∃ b_ : Bool, b_ = (rdOf false l0_3 ((rd_T26 l1 a0_0).f4)) := ⟨_, rfl⟩
           replace H : (if bq99 = true then (if ((rd_T26 l1 a0_0).f4) < (l0_2.length : Int) then (if 0 ≤ ((rd_T26 l1 a0_0).f2) then (if ((rd_T26 l1 a0_0).f2) < (l0_1.length : Int) then (some (0, false, (wrap64 (a0_0 + 1)), (l0_1.set (((rd_T26 l1 a0_0).f2) : Int).toNat (rd l0_2 ((rd_T26 l1 a0_0).f4))), l0_2, l0_3)) else (none)) else (none)) else (none)) else (some (3, false, a0_0, l0_1, l0_2, l0_3))) = some (r1, r2, r3, r4, r5, r6) := by rw [← hbq99] at H; exact H
           have Nbq99 := Aside0.mk hbq99
           clear hbq99
           by_cases c100 : bq99 = true
           ·subst c100
            have H1 : (if ((rd_T26 l1 a0_0).f4) < (l0_2.length : Int) then (if 0 ≤ ((rd_T26 l1 a0_0).f2) then (if ((rd_T26 l1 a0_0).f2) < (l0_1.length : Int) then (some (0, false, (wrap64 (a0_0 + 1)), (l0_1.set (((rd_T26 l1 a0_0).f2) : Int).toNat (rd l0_2 ((rd_T26 l1 a0_0).f4))), l0_2, l0_3)) else (none)) else (none)) else (none)) = some (r1, r2, r3, r4, r5, r6) := by rw [if_pos rfl] at H; exact H
            clear H
            have H := H1
            clear H1
            by_cases c101 : ((rd_T26 l1 a0_0).f4) < (l0_2.length : Int)
            ·rw [if_pos c101] at H
             have c101b0 : decide (((rd_T26 l1 a0_0).f4) < (l0_2.length : Int)) = true := decide_eq_true c101
             clear c101
             by_cases c102 : 0 ≤ ((rd_T26 l1 a0_0).f2)
             ·rw [if_pos c102] at H
              have c102b0 : decide (0 ≤ ((rd_T26 l1 a0_0).f2)) = true := decide_eq_true c102
              clear c102
              by_cases c103 : ((rd_T26 l1 a0_0).f2) < (l0_1.length : Int)
              ·rw [if_pos c103] at H
               have c103b0 : decide (((rd_T26 l1 a0_0).f2) < (l0_1.length : Int)) = true := decide_eq_true c103
               clear c103
               obtain ⟨y270, hy270⟩ : ∃ y_ : List Int, y_ = (l0_1.set (((rd_T26 l1 a0_0).f2) : Int).toNat (rd l0_2 ((rd_T26 l1 a0_0).f4))) := ⟨_, rfl⟩
               replace H : (some (0, false, (wrap64 (a0_0 + 1)), y270, l0_2, l0_3)) = some (r1, r2, r3, r4, r5, r6) := by first | (rw [hy270]; with_reducible exact H) | (have H2_ := (Option.bind_some _ _).symm.trans H; rw [hy270]; with_reducible exact H2_) | (have H2_ := (Option.bind_some _ _).symm.trans H; with_reducible exact H2_) | with_reducible exact H | (rw [hy270]; exact H) | exact H
               have Ny270 := Aside0.mk hy270
               clear hy270
               simp only [Option.some.injEq, Prod.mk.injEq] at H
               obtain ⟨rfl, rfl, rfl, rfl, rfl, rfl⟩ := H
               have hnb105 := NB253_251.out
               have hnc105 := NB251_253.out
               have hcz106_0 : wc.cell? ⟨gb253, 0, none⟩ = some (.int .i64 ((rd_T26 l1 a0_0).f0)) := (blk_cell BK253.out 0).trans rfl
               have hcz106_1 : wc.cell? ⟨gb253, 1, none⟩ = some (.int .i64 ((rd_T26 l1 a0_0).f1)) := (blk_cell BK253.out 1).trans rfl
               have hcz106_2 : wc.cell? ⟨gb253, 2, none⟩ = some (.int .i64 ((rd_T26 l1 a0_0).f2)) := (blk_cell BK253.out 2).trans rfl
               have hcz106_3 : wc.cell? ⟨gb253, 3, none⟩ = some (.int .i64 ((rd_T26 l1 a0_0).f3)) := (blk_cell BK253.out 3).trans rfl
               have hcz106_4 : wc.cell? ⟨gb253, 4, none⟩ = some (.int .i64 ((rd_T26 l1 a0_0).f4)) := (blk_cell BK253.out 4).trans rfl
               have hcz106_5 : wc.cell? ⟨gb253, 5, none⟩ = some (.int .i64 ((rd_T26 l1 a0_0).f5)) := (blk_cell BK253.out 5).trans rfl
               have hfz106_0 := blk_frozen BK253.out 0
               have hfz106_1 := blk_frozen BK253.out 1
               have hfz106_2 := blk_frozen BK253.out 2
               have hfz106_3 := blk_frozen BK253.out 3
               have hfz106_4 := blk_frozen BK253.out 4
               have hfz106_5 := blk_frozen BK253.out 5
               try go_wp2
               have n0_ := Aside0.mk (Kd.R_drew HO_252001.out)
               have n1_ := Aside0.mk (Kd.R_drew HO_252002.out)
               have n2_ := Aside0.mk (Kd.R_drew HO_252003.out)
               have n3_ := Aside0.mk (blk_drew BK251.out)
               have n4_ := Aside0.mk (blk_drew BK253.out)
               have n5_ := Aside0.mk (Kept.drew HK.out)
               have n6_ := Aside0.mk (below_drew1 HB.out)
               clear HO_252001
               clear HO_252002
               clear HO_252003
               clear BK251
               clear BK253
               clear HK
               clear HB
               have HO_252001 := n0_
               have HO_252002 := n1_
               have HO_252003 := n2_
               have BK251 := n3_
               have BK253 := n4_
               have HK := n5_
               have HB := n6_
               clear n0_ n1_ n2_ n3_ n4_ n5_ n6_
               obtain ⟨Ao108, co108, eo108⟩ := Kd.R_slice HO_252003.out
               (first | subst eo108 | (injection eo108 with f1_ f2_ f3_; have f4_ := f1_.symm; have f5_ := f3_.symm; clear f1_ f2_ f3_; subst f4_; subst f5_))
               have p268 : 0 ≤ (((rd_T26 l1 a0_0).f4) : Int) := dt_
               have q268 : ((rd_T26 l1 a0_0).f4) < (l0_3.length : Int) := dt_
               obtain ⟨ad268, e268, hx268_0⟩ := Kd.at_bool (Kd.R_reads' HO_252003.out).2.2 ((rd_T26 l1 a0_0).f4) p268 q268
               (try rw [← Nbq99.out] at hx268_0)
               cases e268
               replace p268 := eq_true p268
               replace q268 := eq_true q268
               refine start_ (n := 9) (S := fun w' => w'.cell? ⟨g, 0, none⟩ = some (.int .i64 a0_0) ∧ w'.cell? ⟨g, 1, none⟩ = some (u9000_) ∧ w'.cell? ⟨g, 2, none⟩ = some (u9001_) ∧ w'.cell? ⟨g, 3, none⟩ = some (.slice (some ad268) l0_3.length co108) ∧ w'.cell? ⟨gb253, 0, none⟩ = some (.int .i64 ((rd_T26 l1 a0_0).f0)) ∧ w'.cell? ⟨gb253, 1, none⟩ = some (.int .i64 ((rd_T26 l1 a0_0).f1)) ∧ w'.cell? ⟨gb253, 2, none⟩ = some (.int .i64 ((rd_T26 l1 a0_0).f2)) ∧ w'.cell? ⟨gb253, 3, none⟩ = some (.int .i64 ((rd_T26 l1 a0_0).f3)) ∧ w'.cell? ⟨gb253, 4, none⟩ = some (.int .i64 ((rd_T26 l1 a0_0).f4)) ∧ w'.cell? ⟨gb253, 5, none⟩ = some (.int .i64 ((rd_T26 l1 a0_0).f5)) ∧ w'.cell? (ad268.add (((rd_T26 l1 a0_0).f4)).toNat) = some (.bool true)) (ds := []) #[false, false, false, false, false, false, false, false, false] (by kernel_rfl) rfl rfl ⟨(blk_cell BK251.out 0).trans rfl, (blk_cell BK251.out 1).trans rfl, (blk_cell BK251.out 2).trans rfl, (blk_cell BK251.out 3).trans rfl, (blk_cell BK253.out 0).trans rfl, (blk_cell BK253.out 1).trans rfl, (blk_cell BK253.out 2).trans rfl, (blk_cell BK253.out 3).trans rfl, (blk_cell BK253.out 4).trans rfl, (blk_cell BK253.out 5).trans rfl, hx268_0⟩ (fun hHeld => ?_); refine with_tabW impl_Machine_step.tab25 impl_Machine_step.bits25 (fun HT_ HW_ => ?_)
               generalize wc.drew = w107 at HO_252001 HO_252002 HO_252003 BK251 BK253 HK HB hx268_0 hHeld ⊢
               refine pz_ 0 (some 160) (v := ?_) (a' := ?_) (any_of HT_.out (by kernel_rfl)) rfl rfl (fun _ _ _ h => h) (by rfl) ?_ ?_ ?_;rotate_left;intro w';go_simp;with_reducible rfl;rotate_left;simp only [Act.put, yy_];rfl
               refine pz_ 1 (some 161) (v := ?_) (a' := ?_) (any_of HT_.out (by kernel_rfl)) rfl rfl (fun _ _ _ h => h) (by rfl) ?_ ?_ ?_;rotate_left;intro w';go_simp;with_reducible rfl;rotate_left;simp only [Act.put, yy_];rfl
               refine pz_ 2 (some 162) (v := ?_) (a' := ?_) (any_of HT_.out (by kernel_rfl)) rfl rfl (fun _ _ _ h => h) (by rfl) ?_ ?_ ?_;rotate_left;intro w';go_simp;with_reducible rfl;rotate_left;simp only [Act.put, yy_];rfl
               refine pz_ 4 (some 164) (v := ?_) (a' := ?_) (any_of HT_.out (by kernel_rfl)) rfl rfl (fun _ _ _ h => h) (by rfl) ?_ ?_ ?_;rotate_left;intro w';go_simp;with_reducible rfl;rotate_left;simp only [Act.put, yy_];rfl
               refine tz_ 3 (some 163) (v := ?_) (a' := ?_) (take_ofW HT_.out HW_.out (by kernel_rfl)) rfl rfl (fun _ _ _ h => h) (by rfl) ?_ hHeld ?_ ?_;rotate_left;rintro w' ⟨s0, s1, s2, s3, s4, s5, s6, s7, s8, s9, s10⟩;go_simp;with_reducible rfl;rotate_left;simp only [Act.put, yy_];rfl
               refine tz_ 5 (some 165) (v := ?_) (a' := ?_) (take_ofW HT_.out HW_.out (by kernel_rfl)) rfl rfl (fun _ _ _ h => h) (by rfl) ?_ hHeld ?_ ?_;rotate_left;rintro w' ⟨s0, s1, s2, s3, s4, s5, s6, s7, s8, s9, s10⟩;go_simp;with_reducible rfl;rotate_left;simp only [Act.put, yy_];rfl
               refine pz_ 6 (some 166) (v := ?_) (a' := ?_) (any_of HT_.out (by kernel_rfl)) rfl rfl (fun _ _ _ h => h) (by rfl) ?_ ?_ ?_;rotate_left;intro w';go_simp;with_reducible rfl;rotate_left;simp only [Act.put, yy_];rfl
               refine tz_ 7 (some 167) (v := ?_) (a' := ?_) (take_ofW HT_.out HW_.out (by kernel_rfl)) rfl rfl (fun _ _ _ h => h) (by rfl) ?_ hHeld ?_ ?_;rotate_left;rintro w' ⟨s0, s1, s2, s3, s4, s5, s6, s7, s8, s9, s10⟩;go_simp;with_reducible rfl;rotate_left;simp only [Act.put, yy_];rfl
               refine pz_ 8 (some 168) (v := ?_) (a' := ?_) (any_of HT_.out (by kernel_rfl)) rfl rfl (fun _ _ _ h => h) (by rfl) ?_ ?_ ?_;rotate_left;intro w';go_simp;with_reducible rfl;rotate_left;simp only [Act.put, yy_];rfl
               refine done_ (done_of HT_.out (by kernel_rfl)) ?_
               try go_wp2
               have n0_ := Aside0.mk (Kd.R_drew HO_252001.out)
               have n1_ := Aside0.mk (Kd.R_drew HO_252002.out)
               have n2_ := Aside0.mk (Kd.R_drew HO_252003.out)
               have n3_ := Aside0.mk (blk_drew BK251.out)
               have n4_ := Aside0.mk (blk_drew BK253.out)
               have n5_ := Aside0.mk (Kept.drew HK.out)
               have n6_ := Aside0.mk (below_drew1 HB.out)
               clear HO_252001
               clear HO_252002
               clear HO_252003
               clear BK251
               clear BK253
               clear HK
               clear HB
               have HO_252001 := n0_
               have HO_252002 := n1_
               have HO_252003 := n2_
               have BK251 := n3_
               have BK253 := n4_
               have HK := n5_
               have HB := n6_
               clear n0_ n1_ n2_ n3_ n4_ n5_ n6_
               obtain ⟨Ao110, co110, eo110⟩ := Kd.R_slice HO_252002.out
               (first | subst eo110 | (injection eo110 with f1_ f2_ f3_; have f4_ := f1_.symm; have f5_ := f3_.symm; clear f1_ f2_ f3_; subst f4_; subst f5_))
               have p269 : 0 ≤ (((rd_T26 l1 a0_0).f4) : Int) := dt_
               have q269 : ((rd_T26 l1 a0_0).f4) < (l0_2.length : Int) := dt_
               obtain ⟨ad269, e269, hx269_0⟩ := Kd.at_int (Kd.R_reads' HO_252002.out).2.2 ((rd_T26 l1 a0_0).f4) p269 q269
               cases e269
               replace p269 := eq_true p269
               replace q269 := eq_true q269
               have p104 : 0 ≤ (((rd_T26 l1 a0_0).f2) : Int) := dt_
               have q104 : (((rd_T26 l1 a0_0).f2) : Int) < ((l0_1.length : Int) : Int) := dt_
               obtain ⟨go104, co104, eo104, gb104, gl104, cl104, HG104⟩ := Kd.R_form HO_252001.out (by omega)
               (first | cases eo104 | (injection eo104 with ea_ en_ ec_; (first | subst ea_ | (injection ea_ with ea_; subst ea_)); subst ec_; clear en_))
               have GB104 := Aside0.mk gb104
               have GG104 := Aside0.mk HG104
               clear gb104 gl104 HG104
               have HMgo104 := Aside0.mk (show ((P0_1_ go104 ∨ P0_2_ go104 ∨ P0_3_ go104) ∨ w.heap.size ≤ go104) from (HO_252001.out.1 _ rfl).1)
               obtain ⟨hx104_0, hf104_0⟩ := Kd.R_celln 0 HO_252001.out (((rd_T26 l1 a0_0).f2) : Int) p104 q104
               replace p104 := eq_true p104
               replace q104 := eq_true q104
               have HP111 := Kd.R_putn HO_252001.out (((rd_T26 l1 a0_0).f2) : Int) (rd l0_2 ((rd_T26 l1 a0_0).f4))
               rw [← Ny270.out] at HP111
               have HQ111 := Aside0.mk HP111
               clear HP111
               refine start_ (n := 13) (S := fun w' => w'.cell? ⟨gb253, 0, none⟩ = some (.int .i64 ((rd_T26 l1 a0_0).f0)) ∧ w'.cell? ⟨gb253, 1, none⟩ = some (.int .i64 ((rd_T26 l1 a0_0).f1)) ∧ w'.cell? ⟨gb253, 2, none⟩ = some (.int .i64 ((rd_T26 l1 a0_0).f2)) ∧ w'.cell? ⟨gb253, 3, none⟩ = some (.int .i64 ((rd_T26 l1 a0_0).f3)) ∧ w'.cell? ⟨gb253, 4, none⟩ = some (.int .i64 ((rd_T26 l1 a0_0).f4)) ∧ w'.cell? ⟨gb253, 5, none⟩ = some (.int .i64 ((rd_T26 l1 a0_0).f5)) ∧ w'.cell? ⟨g, 0, none⟩ = some (.int .i64 a0_0) ∧ w'.cell? ⟨g, 1, none⟩ = some (.slice (some ⟨go104, 0, none⟩) l0_1.length co104) ∧ w'.cell? ⟨g, 2, none⟩ = some (.slice (some ad269) l0_2.length co110) ∧ w'.cell? ⟨g, 3, none⟩ = some (.slice (some ad268) l0_3.length co108) ∧ w'.cell? (ad269.add (((rd_T26 l1 a0_0).f4)).toNat) = some (.int .i64 (rd l0_2 ((rd_T26 l1 a0_0).f4)))) (ds := [12]) #[false, false, false, false, false, false, false, false, false, false, false, false, false] (by kernel_rfl) rfl rfl ⟨(blk_cell BK253.out 0).trans rfl, (blk_cell BK253.out 1).trans rfl, (blk_cell BK253.out 2).trans rfl, (blk_cell BK253.out 3).trans rfl, (blk_cell BK253.out 4).trans rfl, (blk_cell BK253.out 5).trans rfl, (blk_cell BK251.out 0).trans rfl, (blk_cell BK251.out 1).trans rfl, (blk_cell BK251.out 2).trans rfl, (blk_cell BK251.out 3).trans rfl, hx269_0⟩ (fun hHeld => ?_); refine with_tabW impl_Machine_step.tab27 impl_Machine_step.bits27 (fun HT_ HW_ => ?_)
               generalize w107.drew = w109 at HO_252001 HO_252002 HO_252003 BK251 BK253 HK HB GG104 HQ111 hf104_0 hx104_0 hx269_0 hHeld ⊢
               refine pz_ 0 (some 169) (v := ?_) (a' := ?_) (any_of HT_.out (by kernel_rfl)) rfl rfl (fun _ _ _ h => h) (by rfl) ?_ ?_ ?_;rotate_left;intro w';go_simp;with_reducible rfl;rotate_left;simp only [Act.put, yy_];rfl
               refine pz_ 1 (some 170) (v := ?_) (a' := ?_) (any_of HT_.out (by kernel_rfl)) rfl rfl (fun _ _ _ h => h) (by rfl) ?_ ?_ ?_;rotate_left;intro w';go_simp;with_reducible rfl;rotate_left;simp only [Act.put, yy_];rfl
               refine pz_ 3 (some 172) (v := ?_) (a' := ?_) (any_of HT_.out (by kernel_rfl)) rfl rfl (fun _ _ _ h => h) (by rfl) ?_ ?_ ?_;rotate_left;intro w';go_simp;with_reducible rfl;rotate_left;simp only [Act.put, yy_];rfl
               refine pz_ 4 (some 173) (v := ?_) (a' := ?_) (any_of HT_.out (by kernel_rfl)) rfl rfl (fun _ _ _ h => h) (by rfl) ?_ ?_ ?_;rotate_left;intro w';go_simp;with_reducible rfl;rotate_left;simp only [Act.put, yy_];rfl
               refine pz_ 5 (some 174) (v := ?_) (a' := ?_) (any_of HT_.out (by kernel_rfl)) rfl rfl (fun _ _ _ h => h) (by rfl) ?_ ?_ ?_;rotate_left;intro w';go_simp;with_reducible rfl;rotate_left;simp only [Act.put, yy_];rfl
               refine pz_ 7 (some 176) (v := ?_) (a' := ?_) (any_of HT_.out (by kernel_rfl)) rfl rfl (fun _ _ _ h => h) (by rfl) ?_ ?_ ?_;rotate_left;intro w';go_simp;with_reducible rfl;rotate_left;simp only [Act.put, yy_];rfl
               refine tz_ 2 (some 171) (v := ?_) (a' := ?_) (take_ofW HT_.out HW_.out (by kernel_rfl)) rfl rfl (fun _ _ _ h => h) (by rfl) ?_ hHeld ?_ ?_;rotate_left;rintro w' ⟨s0, s1, s2, s3, s4, s5, s6, s7, s8, s9, s10⟩;go_simp;with_reducible rfl;rotate_left;simp only [Act.put, yy_];rfl
               refine tz_ 6 (some 175) (v := ?_) (a' := ?_) (take_ofW HT_.out HW_.out (by kernel_rfl)) rfl rfl (fun _ _ _ h => h) (by rfl) ?_ hHeld ?_ ?_;rotate_left;rintro w' ⟨s0, s1, s2, s3, s4, s5, s6, s7, s8, s9, s10⟩;go_simp;with_reducible rfl;rotate_left;simp only [Act.put, yy_];rfl
               refine tz_ 8 (some 177) (v := ?_) (a' := ?_) (take_ofW HT_.out HW_.out (by kernel_rfl)) rfl rfl (fun _ _ _ h => h) (by rfl) ?_ hHeld ?_ ?_;rotate_left;rintro w' ⟨s0, s1, s2, s3, s4, s5, s6, s7, s8, s9, s10⟩;go_simp;with_reducible rfl;rotate_left;simp only [Act.put, yy_];rfl
               refine pz_ 9 (some 178) (v := ?_) (a' := ?_) (any_of HT_.out (by kernel_rfl)) rfl rfl (fun _ _ _ h => h) (by rfl) ?_ ?_ ?_;rotate_left;intro w';go_simp;with_reducible rfl;rotate_left;simp only [Act.put, yy_];rfl
               refine tz_ 10 (some 179) (v := ?_) (a' := ?_) (take_ofW HT_.out HW_.out (by kernel_rfl)) rfl rfl (fun _ _ _ h => h) (by rfl) ?_ hHeld ?_ ?_;rotate_left;rintro w' ⟨s0, s1, s2, s3, s4, s5, s6, s7, s8, s9, s10⟩;go_simp;with_reducible rfl;rotate_left;simp only [Act.put, yy_];rfl
               refine pz_ 11 (some 180) (v := ?_) (a' := ?_) (any_of HT_.out (by kernel_rfl)) rfl rfl (fun _ _ _ h => h) (by rfl) ?_ ?_ ?_;rotate_left;intro w';go_simp;with_reducible rfl;rotate_left;simp only [Act.put, yy_];rfl
               refine last_ (i := 12) (N := none) #[true, true, true, true, true, true, true, true, true, true, true, true, true] rfl rfl (one_of HT_.out (by kernel_rfl)) (by decide) (fun K hK => ?_)
               refine skip_ (w1 := ?_) (by rfl) rfl ?_ ?_
               rotate_left
               ·go_simp
                rfl
               refine hK.out _ _ ?_
               clear hK K
               refine done_ (done_of HT_.out (by kernel_rfl)) ?_
               (try rw [drewN_set_])
               have n0_ : Aside0 (Kd.R (Kd.int .i64) 3 (w109.setCell ⟨go104, (((rd_T26 l1 a0_0).f2) : Int).toNat, none⟩ (.int .i64 (rd l0_2 ((rd_T26 l1 a0_0).f4)))) w0.heap.size (fun k_ => ((P0_1_ k_ ∨ P0_2_ k_ ∨ P0_3_ k_) ∨ w.heap.size ≤ k_) ∧ some k_ ≠ (.slice (some ad269) l0_2.length co110 : Value).ownBlock) (.slice (some ⟨go104, 0, none⟩) l0_1.length co104) y270) := ⟨zR_ HQ111.out⟩
               have n1_ : Aside0 (Kd.R (Kd.int .i64) 3 (w109.setCell ⟨go104, (((rd_T26 l1 a0_0).f2) : Int).toNat, none⟩ (.int .i64 (rd l0_2 ((rd_T26 l1 a0_0).f4)))) w0.heap.size (fun k_ => ((P0_1_ k_ ∨ P0_2_ k_ ∨ P0_3_ k_) ∨ w.heap.size ≤ k_) ∧ some k_ ≠ (.slice (some ⟨go104, 0, none⟩) l0_1.length co104 : Value).ownBlock) (.slice (some ad269) l0_2.length co110) l0_2) := ⟨by (with_reducible repeat (first | apply Ra_ | apply Rn_ | apply Rd_)); exact Kd.R_mono (Kd.R_far (p := ⟨go104, (((rd_T26 l1 a0_0).f2) : Int).toNat, none⟩) (Kd.R_mono HO_252002.out (fun k_ hk => (⟨hk, fun e_ => hk.2 (by rw [e_]; rfl)⟩ : _ ∧ k_ ≠ go104))) (fun _ hk => hk.2) (.int .i64 (rd l0_2 ((rd_T26 l1 a0_0).f4)))) (fun _ hk => ⟨hk.1.1, hk.1.2⟩)⟩
               have n2_ : Aside0 (Kd.R Kd.bool 4 (w109.setCell ⟨go104, (((rd_T26 l1 a0_0).f2) : Int).toNat, none⟩ (.int .i64 (rd l0_2 ((rd_T26 l1 a0_0).f4)))) w0.heap.size (fun k_ => ((P0_1_ k_ ∨ P0_2_ k_ ∨ P0_3_ k_) ∨ w.heap.size ≤ k_)) (.slice (some ad268) l0_3.length co108) l0_3) := ⟨by (with_reducible repeat (first | apply Ra_ | apply Rn_ | apply Rd_)); exact Kd.R_mono (Kd.R_far (p := ⟨go104, (((rd_T26 l1 a0_0).f2) : Int).toNat, none⟩) (Kd.R_types HO_252003.out GG104.out (by decide)) (fun _ hk => hk.2) (.int .i64 (rd l0_2 ((rd_T26 l1 a0_0).f4)))) (fun _ hk => hk.1)⟩
               have n3_ : Aside0 ((w109.setCell ⟨go104, (((rd_T26 l1 a0_0).f2) : Int).toNat, none⟩ (.int .i64 (rd l0_2 ((rd_T26 l1 a0_0).f4)))).heap[g]? = some (.cells #[.int .i64 a0_0, .slice (some ⟨go104, 0, none⟩) l0_1.length co104, .slice (some ad269) l0_2.length co110, .slice (some ad268) l0_3.length co108] 116 (0, 0))) := ⟨by (with_reducible repeat (first | refine on_ ?_ _ | refine od_ ?_ | refine oa_ ?_ _)); refine blk_far ?_ (by have h_ := Kd.R_ne HO_252001.out BK251.out (by decide); intro e_; exact h_ (by rw [e_]; rfl)) _; (with_reducible repeat (first | refine on_ ?_ _ | refine od_ ?_ | refine oa_ ?_ _)); exact BK251.out⟩
               have n4_ : Aside0 ((w109.setCell ⟨go104, (((rd_T26 l1 a0_0).f2) : Int).toNat, none⟩ (.int .i64 (rd l0_2 ((rd_T26 l1 a0_0).f4)))).heap[gb253]? = some (.cells #[.int .i64 ((rd_T26 l1 a0_0).f0), .int .i64 ((rd_T26 l1 a0_0).f1), .int .i64 ((rd_T26 l1 a0_0).f2), .int .i64 ((rd_T26 l1 a0_0).f3), .int .i64 ((rd_T26 l1 a0_0).f4), .int .i64 ((rd_T26 l1 a0_0).f5)] 26 (0, 0))) := ⟨by (with_reducible repeat (first | refine on_ ?_ _ | refine od_ ?_ | refine oa_ ?_ _)); refine blk_far ?_ (by have h_ := Kd.R_ne HO_252001.out BK253.out (by decide); intro e_; exact h_ (by rw [e_]; rfl)) _; (with_reducible repeat (first | refine on_ ?_ _ | refine od_ ?_ | refine oa_ ?_ _)); exact BK253.out⟩
               have n5_ : Aside0 (Kept w (w109.setCell ⟨go104, (((rd_T26 l1 a0_0).f2) : Int).toNat, none⟩ (.int .i64 (rd l0_2 ((rd_T26 l1 a0_0).f4)))) (fun k_ => (P0_1_ k_ ∨ P0_2_ k_ ∨ P0_3_ k_) ∨ k_ = g)) := ⟨by repeat (first | (with_reducible first | exact HK.out | apply Kept.alloc | apply Kept.drewN | apply Kept.drew | refine Kept.setCell ?_ (Or.imp_left Or.inl HMgo104.out) _ | refine Kept.setCell ?_ (.inl (.inr rfl)) _ | refine Kept.setCell ?_ (.inr GW251.out) _ | refine Kept.setCell ?_ (.inr GW253.out) _) | exact HK.out)⟩
               have n6_ : Aside0 (Below w0.heap.size w0 (w109.setCell ⟨go104, (((rd_T26 l1 a0_0).f2) : Int).toNat, none⟩ (.int .i64 (rd l0_2 ((rd_T26 l1 a0_0).f4))))) := ⟨by repeat (first | (with_reducible first | exact HB.out | apply ba_ | apply bn_ | apply bd_ | refine bs_ ?_ GB104.out | refine bs_ ?_ GE251.out | refine bs_ ?_ GE253.out) | exact HB.out)⟩
               (try clear HO_252001)
               (try clear HO_252002)
               (try clear HO_252003)
               (try clear BK251)
               (try clear BK253)
               (try clear HK)
               (try clear HB)
               generalize (w109.setCell ⟨go104, (((rd_T26 l1 a0_0).f2) : Int).toNat, none⟩ (.int .i64 (rd l0_2 ((rd_T26 l1 a0_0).f4)))) = w112 at n0_ n1_ n2_ n3_ n4_ n5_ n6_ ⊢
               have HO_252001 := n0_
               have HO_252002 := n1_
               have HO_252003 := n2_
               have BK251 := n3_
               have BK253 := n4_
               have HK := n5_
               have HB := n6_
               clear n0_ n1_ n2_ n3_ n4_ n5_ n6_
               have hcz113_0 : w112.cell? ⟨g, 0, none⟩ = some (.int .i64 a0_0) := (blk_cell BK251.out 0).trans rfl
               have hcz113_1 : w112.cell? ⟨g, 1, none⟩ = some (.slice (some ⟨go104, 0, none⟩) l0_1.length co104) := (blk_cell BK251.out 1).trans rfl
               have hcz113_2 : w112.cell? ⟨g, 2, none⟩ = some (.slice (some ad269) l0_2.length co110) := (blk_cell BK251.out 2).trans rfl
               have hcz113_3 : w112.cell? ⟨g, 3, none⟩ = some (.slice (some ad268) l0_3.length co108) := (blk_cell BK251.out 3).trans rfl
               have hfz113_0 := blk_frozen BK251.out 0
               have hfz113_1 := blk_frozen BK251.out 1
               have hfz113_2 := blk_frozen BK251.out 2
               have hfz113_3 := blk_frozen BK251.out 3
               try go_wp2
               go_ret2
               exact ⟨by first | rfl | (simp <;> rfl) | (simp [*] <;> rfl), (by (with_reducible repeat (first | refine on_ ?_ _ | refine od_ ?_ | refine oa_ ?_ _)); refine blk_put (cs := #[.int .i64 a0_0, .slice (some ⟨go104, 0, none⟩) l0_1.length co104, .slice (some ad269) l0_2.length co110, .slice (some ad268) l0_3.length co108]) ?_ 0 _ rfl; (with_reducible repeat (first | refine on_ ?_ _ | refine od_ ?_ | refine oa_ ?_ _)); exact BK251.out), by (with_reducible repeat (first | apply Ra_ | apply Rn_ | apply Rd_)); exact Kd.R_mono (Kd.R_far (p := ⟨g, 0, none⟩) (Kd.R_types HO_252001.out BK251.out (by decide)) (fun _ hk => hk.2) (.int .i64 (wrap64 (a0_0 + 1)))) (fun _ hk => hk.1.1), by (with_reducible repeat (first | apply Ra_ | apply Rn_ | apply Rd_)); exact Kd.R_mono (Kd.R_far (p := ⟨g, 0, none⟩) (Kd.R_types HO_252002.out BK251.out (by decide)) (fun _ hk => hk.2) (.int .i64 (wrap64 (a0_0 + 1)))) (fun _ hk => hk.1.1), by (with_reducible repeat (first | apply Ra_ | apply Rn_ | apply Rd_)); exact Kd.R_mono (Kd.R_far (p := ⟨g, 0, none⟩) (Kd.R_types HO_252003.out BK251.out (by decide)) (fun _ hk => hk.2) (.int .i64 (wrap64 (a0_0 + 1)))) (fun _ hk => hk.1), by repeat (first | (with_reducible first | exact HB.out | apply ba_ | apply bn_ | apply bd_ | refine bs_ ?_ GE251.out | refine bs_ ?_ GE253.out) | exact HB.out), by repeat (first | (with_reducible first | exact HK.out | apply Kept.alloc | apply Kept.drewN | apply Kept.drew | refine Kept.setCell ?_ (.inl (.inr rfl)) _ | refine Kept.setCell ?_ (.inr GW251.out) _ | refine Kept.setCell ?_ (.inr GW253.out) _) | exact HK.out)⟩
              rw [if_neg c103] at H
              exact absurd H (by simp)
             rw [if_neg c102] at H
             exact absurd H (by simp)
            rw [if_neg c101] at H
            exact absurd H (by simp)
           ·replace c100 := Bool.eq_false_iff.mpr c100
            subst c100
            have H1 : (some (3, false, a0_0, l0_1, l0_2, l0_3)) = some (r1, r2, r3, r4, r5, r6) := by rw [if_neg (show ¬ (false = true) by decide)] at H; exact H
            clear H
            have H := H1
            clear H1
            simp only [Option.some.injEq, Prod.mk.injEq] at H
            obtain ⟨rfl, rfl, rfl, rfl, rfl, rfl⟩ := H
            have hnb114 := NB253_251.out
            have hnc114 := NB251_253.out
            have hcz115_0 : wc.cell? ⟨gb253, 0, none⟩ = some (.int .i64 ((rd_T26 l1 a0_0).f0)) := (blk_cell BK253.out 0).trans rfl
            have hcz115_1 : wc.cell? ⟨gb253, 1, none⟩ = some (.int .i64 ((rd_T26 l1 a0_0).f1)) := (blk_cell BK253.out 1).trans rfl
            have hcz115_2 : wc.cell? ⟨gb253, 2, none⟩ = some (.int .i64 ((rd_T26 l1 a0_0).f2)) := (blk_cell BK253.out 2).trans rfl
            have hcz115_3 : wc.cell? ⟨gb253, 3, none⟩ = some (.int .i64 ((rd_T26 l1 a0_0).f3)) := (blk_cell BK253.out 3).trans rfl
            have hcz115_4 : wc.cell? ⟨gb253, 4, none⟩ = some (.int .i64 ((rd_T26 l1 a0_0).f4)) := (blk_cell BK253.out 4).trans rfl
            have hcz115_5 : wc.cell? ⟨gb253, 5, none⟩ = some (.int .i64 ((rd_T26 l1 a0_0).f5)) := (blk_cell BK253.out 5).trans rfl
            have hfz115_0 := blk_frozen BK253.out 0
            have hfz115_1 := blk_frozen BK253.out 1
            have hfz115_2 := blk_frozen BK253.out 2
            have hfz115_3 := blk_frozen BK253.out 3
            have hfz115_4 := blk_frozen BK253.out 4
            have hfz115_5 := blk_frozen BK253.out 5
            try go_wp2
            have n0_ := Aside0.mk (Kd.R_drew HO_252001.out)
            have n1_ := Aside0.mk (Kd.R_drew HO_252002.out)
            have n2_ := Aside0.mk (Kd.R_drew HO_252003.out)
            have n3_ := Aside0.mk (blk_drew BK251.out)
            have n4_ := Aside0.mk (blk_drew BK253.out)
            have n5_ := Aside0.mk (Kept.drew HK.out)
            have n6_ := Aside0.mk (below_drew1 HB.out)
            clear HO_252001
            clear HO_252002
            clear HO_252003
            clear BK251
            clear BK253
            clear HK
            clear HB
            have HO_252001 := n0_
            have HO_252002 := n1_
            have HO_252003 := n2_
            have BK251 := n3_
            have BK253 := n4_
            have HK := n5_
            have HB := n6_
            clear n0_ n1_ n2_ n3_ n4_ n5_ n6_
            obtain ⟨Ao117, co117, eo117⟩ := Kd.R_slice HO_252003.out
            (first | subst eo117 | (injection eo117 with f1_ f2_ f3_; have f4_ := f1_.symm; have f5_ := f3_.symm; clear f1_ f2_ f3_; subst f4_; subst f5_))
            have p268 : 0 ≤ (((rd_T26 l1 a0_0).f4) : Int) := dt_
            have q268 : ((rd_T26 l1 a0_0).f4) < (l0_3.length : Int) := dt_
            obtain ⟨ad268, e268, hx268_0⟩ := Kd.at_bool (Kd.R_reads' HO_252003.out).2.2 ((rd_T26 l1 a0_0).f4) p268 q268
            (try rw [← Nbq99.out] at hx268_0)
            cases e268
            replace p268 := eq_true p268
            replace q268 := eq_true q268
            refine start_ (n := 9) (S := fun w' => w'.cell? ⟨g, 0, none⟩ = some (.int .i64 a0_0) ∧ w'.cell? ⟨g, 1, none⟩ = some (u9000_) ∧ w'.cell? ⟨g, 2, none⟩ = some (u9001_) ∧ w'.cell? ⟨g, 3, none⟩ = some (.slice (some ad268) l0_3.length co117) ∧ w'.cell? ⟨gb253, 0, none⟩ = some (.int .i64 ((rd_T26 l1 a0_0).f0)) ∧ w'.cell? ⟨gb253, 1, none⟩ = some (.int .i64 ((rd_T26 l1 a0_0).f1)) ∧ w'.cell? ⟨gb253, 2, none⟩ = some (.int .i64 ((rd_T26 l1 a0_0).f2)) ∧ w'.cell? ⟨gb253, 3, none⟩ = some (.int .i64 ((rd_T26 l1 a0_0).f3)) ∧ w'.cell? ⟨gb253, 4, none⟩ = some (.int .i64 ((rd_T26 l1 a0_0).f4)) ∧ w'.cell? ⟨gb253, 5, none⟩ = some (.int .i64 ((rd_T26 l1 a0_0).f5)) ∧ w'.cell? (ad268.add (((rd_T26 l1 a0_0).f4)).toNat) = some (.bool false)) (ds := []) #[false, false, false, false, false, false, false, false, false] (by kernel_rfl) rfl rfl ⟨(blk_cell BK251.out 0).trans rfl, (blk_cell BK251.out 1).trans rfl, (blk_cell BK251.out 2).trans rfl, (blk_cell BK251.out 3).trans rfl, (blk_cell BK253.out 0).trans rfl, (blk_cell BK253.out 1).trans rfl, (blk_cell BK253.out 2).trans rfl, (blk_cell BK253.out 3).trans rfl, (blk_cell BK253.out 4).trans rfl, (blk_cell BK253.out 5).trans rfl, hx268_0⟩ (fun hHeld => ?_); refine with_tabW impl_Machine_step.tab25 impl_Machine_step.bits25 (fun HT_ HW_ => ?_)
            generalize wc.drew = w116 at HO_252001 HO_252002 HO_252003 BK251 BK253 HK HB hx268_0 hHeld ⊢
            refine pz_ 0 (some 160) (v := ?_) (a' := ?_) (any_of HT_.out (by kernel_rfl)) rfl rfl (fun _ _ _ h => h) (by rfl) ?_ ?_ ?_;rotate_left;intro w';go_simp;with_reducible rfl;rotate_left;simp only [Act.put, yy_];rfl
            refine pz_ 1 (some 161) (v := ?_) (a' := ?_) (any_of HT_.out (by kernel_rfl)) rfl rfl (fun _ _ _ h => h) (by rfl) ?_ ?_ ?_;rotate_left;intro w';go_simp;with_reducible rfl;rotate_left;simp only [Act.put, yy_];rfl
            refine pz_ 2 (some 162) (v := ?_) (a' := ?_) (any_of HT_.out (by kernel_rfl)) rfl rfl (fun _ _ _ h => h) (by rfl) ?_ ?_ ?_;rotate_left;intro w';go_simp;with_reducible rfl;rotate_left;simp only [Act.put, yy_];rfl
            refine pz_ 4 (some 164) (v := ?_) (a' := ?_) (any_of HT_.out (by kernel_rfl)) rfl rfl (fun _ _ _ h => h) (by rfl) ?_ ?_ ?_;rotate_left;intro w';go_simp;with_reducible rfl;rotate_left;simp only [Act.put, yy_];rfl
            refine tz_ 3 (some 163) (v := ?_) (a' := ?_) (take_ofW HT_.out HW_.out (by kernel_rfl)) rfl rfl (fun _ _ _ h => h) (by rfl) ?_ hHeld ?_ ?_;rotate_left;rintro w' ⟨s0, s1, s2, s3, s4, s5, s6, s7, s8, s9, s10⟩;go_simp;with_reducible rfl;rotate_left;simp only [Act.put, yy_];rfl
            refine tz_ 5 (some 165) (v := ?_) (a' := ?_) (take_ofW HT_.out HW_.out (by kernel_rfl)) rfl rfl (fun _ _ _ h => h) (by rfl) ?_ hHeld ?_ ?_;rotate_left;rintro w' ⟨s0, s1, s2, s3, s4, s5, s6, s7, s8, s9, s10⟩;go_simp;with_reducible rfl;rotate_left;simp only [Act.put, yy_];rfl
            refine pz_ 6 (some 166) (v := ?_) (a' := ?_) (any_of HT_.out (by kernel_rfl)) rfl rfl (fun _ _ _ h => h) (by rfl) ?_ ?_ ?_;rotate_left;intro w';go_simp;with_reducible rfl;rotate_left;simp only [Act.put, yy_];rfl
            refine tz_ 7 (some 167) (v := ?_) (a' := ?_) (take_ofW HT_.out HW_.out (by kernel_rfl)) rfl rfl (fun _ _ _ h => h) (by rfl) ?_ hHeld ?_ ?_;rotate_left;rintro w' ⟨s0, s1, s2, s3, s4, s5, s6, s7, s8, s9, s10⟩;go_simp;with_reducible rfl;rotate_left;simp only [Act.put, yy_];rfl
            refine pz_ 8 (some 168) (v := ?_) (a' := ?_) (any_of HT_.out (by kernel_rfl)) rfl rfl (fun _ _ _ h => h) (by rfl) ?_ ?_ ?_;rotate_left;intro w';go_simp;with_reducible rfl;rotate_left;simp only [Act.put, yy_];rfl
            refine done_ (done_of HT_.out (by kernel_rfl)) ?_
            try go_wp2
            go_ret2
            exact ⟨by first | rfl | (simp <;> rfl) | (simp [*] <;> rfl), (zO_ BK251.out), by (with_reducible repeat (first | apply Ra_ | apply Rn_ | apply Rd_)); exact Kd.R_mono HO_252001.out (fun _ hk => hk.1), by (with_reducible repeat (first | apply Ra_ | apply Rn_ | apply Rd_)); exact Kd.R_mono HO_252002.out (fun _ hk => hk.1), zR_ HO_252003.out, by repeat (first | (with_reducible first | exact HB.out | apply ba_ | apply bn_ | apply bd_ | refine bs_ ?_ GE251.out | refine bs_ ?_ GE253.out) | exact HB.out), by repeat (first | (with_reducible first | exact HK.out | apply Kept.alloc | apply Kept.drewN | apply Kept.drew | refine Kept.setCell ?_ (.inl (.inr rfl)) _ | refine Kept.setCell ?_ (.inr GW251.out) _ | refine Kept.setCell ?_ (.inr GW253.out) _) | exact HK.out)⟩
          rw [if_neg c98] at H
          exact absurd H (by simp)
         rw [if_neg c97] at H
         exact absurd H (by simp)
        ·replace c77 := Bool.eq_false_iff.mpr c77
         subst c77
         have H1 : (if ((rd_T26 l1 a0_0).f0) = 11 then (some (0, true, a0_0, l0_1, l0_2, l0_3)) else (if ((rd_T26 l1 a0_0).f0) = 8 then (some (0, false, wrap64 ((wrap64 (a0_0 + 1)) + ((rd_T26 l1 a0_0).f5)), l0_1, l0_2, l0_3)) else (if ((rd_T26 l1 a0_0).f0) = 9 then (if 0 ≤ ((rd_T26 l1 a0_0).f2) then (if ((rd_T26 l1 a0_0).f2) < (l0_1.length : Int) then (if 0 ≤ ((rd_T26 l1 a0_0).f3) then (if ((rd_T26 l1 a0_0).f3) < (l0_1.length : Int) then (if (rd l0_1 ((rd_T26 l1 a0_0).f2)) = (rd l0_1 ((rd_T26 l1 a0_0).f3)) then (impl_Machine_step.j2 kj74 (wrap64 (a0_0 + 1)) true a0_0 l0_1 l0_2 l0_3 ((rd_T26 l1 a0_0).f0) ((rd_T26 l1 a0_0).f1) ((rd_T26 l1 a0_0).f2) ((rd_T26 l1 a0_0).f3) ((rd_T26 l1 a0_0).f4) ((rd_T26 l1 a0_0).f5)) else (if ((rd_T26 l1 a0_0).f0) = 10 then (impl_Machine_step.j2 kj74 (wrap64 (a0_0 + 1)) (decide ((rd l0_1 ((rd_T26 l1 a0_0).f2)) < (rd l0_1 ((rd_T26 l1 a0_0).f3)))) a0_0 l0_1 l0_2 l0_3 ((rd_T26 l1 a0_0).f0) ((rd_T26 l1 a0_0).f1) ((rd_T26 l1 a0_0).f2) ((rd_T26 l1 a0_0).f3) ((rd_T26 l1 a0_0).f4) ((rd_T26 l1 a0_0).f5)) else (impl_Machine_step.j2 kj74 (wrap64 (a0_0 + 1)) false a0_0 l0_1 l0_2 l0_3 ((rd_T26 l1 a0_0).f0) ((rd_T26 l1 a0_0).f1) ((rd_T26 l1 a0_0).f2) ((rd_T26 l1 a0_0).f3) ((rd_T26 l1 a0_0).f4) ((rd_T26 l1 a0_0).f5)))) else (none)) else (none)) else (none)) else (none)) else (if ((rd_T26 l1 a0_0).f0) = 10 then (if 0 ≤ ((rd_T26 l1 a0_0).f2) then (if ((rd_T26 l1 a0_0).f2) < (l0_1.length : Int) then (if 0 ≤ ((rd_T26 l1 a0_0).f3) then (if ((rd_T26 l1 a0_0).f3) < (l0_1.length : Int) then (impl_Machine_step.j2 kj74 (wrap64 (a0_0 + 1)) (decide ((rd l0_1 ((rd_T26 l1 a0_0).f2)) < (rd l0_1 ((rd_T26 l1 a0_0).f3)))) a0_0 l0_1 l0_2 l0_3 ((rd_T26 l1 a0_0).f0) ((rd_T26 l1 a0_0).f1) ((rd_T26 l1 a0_0).f2) ((rd_T26 l1 a0_0).f3) ((rd_T26 l1 a0_0).f4) ((rd_T26 l1 a0_0).f5)) else (none)) else (none)) else (none)) else (none)) else (impl_Machine_step.j2 kj74 (wrap64 (a0_0 + 1)) false a0_0 l0_1 l0_2 l0_3 ((rd_T26 l1 a0_0).f0) ((rd_T26 l1 a0_0).f1) ((rd_T26 l1 a0_0).f2) ((rd_T26 l1 a0_0).f3) ((rd_T26 l1 a0_0).f4) ((rd_T26 l1 a0_0).f5)))))) = some (r1, r2, r3, r4, r5, r6) := by rw [if_neg (show ¬ (false = true) by decide)] at H; exact H
         clear H
         have H := H1
         clear H1
         by_cases c118 : ((rd_T26 l1 a0_0).f0) = 11
         ·rw [if_pos c118] at H
          have c118b0 : (((rd_T26 l1 a0_0).f0) == 11) = true := beq_iff_eq.mpr c118
          have c118b1 : (((rd_T26 l1 a0_0).f0) != 11) = false := bne_eq_false_iff_eq.mpr c118
          clear c118
          simp only [Option.some.injEq, Prod.mk.injEq] at H
          obtain ⟨rfl, rfl, rfl, rfl, rfl, rfl⟩ := H
          go_wp2
          go_ret2
          exact ⟨by first | rfl | (simp <;> rfl) | (simp [*] <;> rfl), (zO_ BK251.out), by (with_reducible repeat (first | apply Ra_ | apply Rn_ | apply Rd_)); exact Kd.R_mono HO_252001.out (fun _ hk => hk.1), by (with_reducible repeat (first | apply Ra_ | apply Rn_ | apply Rd_)); exact Kd.R_mono HO_252002.out (fun _ hk => hk.1), zR_ HO_252003.out, by repeat (first | (with_reducible first | exact HB.out | apply ba_ | apply bn_ | apply bd_ | refine bs_ ?_ GE251.out | refine bs_ ?_ GE253.out) | exact HB.out), by repeat (first | (with_reducible first | exact HK.out | apply Kept.alloc | apply Kept.drewN | apply Kept.drew | refine Kept.setCell ?_ (.inl (.inr rfl)) _ | refine Kept.setCell ?_ (.inr GW251.out) _ | refine Kept.setCell ?_ (.inr GW253.out) _) | exact HK.out)⟩
         rw [if_neg c118] at H
         have c118b0 : (((rd_T26 l1 a0_0).f0) == 11) = false := beq_eq_false_iff_ne.mpr c118
         have c118b1 : (((rd_T26 l1 a0_0).f0) != 11) = true := bne_iff_ne.mpr c118
         by_cases c119 : ((rd_T26 l1 a0_0).f0) = 8
         ·rw [if_pos c119] at H
          have c119b0 : (((rd_T26 l1 a0_0).f0) == 8) = true := beq_iff_eq.mpr c119
          have c119b1 : (((rd_T26 l1 a0_0).f0) != 8) = false := bne_eq_false_iff_eq.mpr c119
          clear c119
          simp only [Option.some.injEq, Prod.mk.injEq] at H
          obtain ⟨rfl, rfl, rfl, rfl, rfl, rfl⟩ := H
          have hnb120 := NB253_251.out
          have hnc120 := NB251_253.out
          have hcz121_0 : wc.cell? ⟨gb253, 0, none⟩ = some (.int .i64 ((rd_T26 l1 a0_0).f0)) := (blk_cell BK253.out 0).trans rfl
          have hcz121_1 : wc.cell? ⟨gb253, 1, none⟩ = some (.int .i64 ((rd_T26 l1 a0_0).f1)) := (blk_cell BK253.out 1).trans rfl
          have hcz121_2 : wc.cell? ⟨gb253, 2, none⟩ = some (.int .i64 ((rd_T26 l1 a0_0).f2)) := (blk_cell BK253.out 2).trans rfl
          have hcz121_3 : wc.cell? ⟨gb253, 3, none⟩ = some (.int .i64 ((rd_T26 l1 a0_0).f3)) := (blk_cell BK253.out 3).trans rfl
          have hcz121_4 : wc.cell? ⟨gb253, 4, none⟩ = some (.int .i64 ((rd_T26 l1 a0_0).f4)) := (blk_cell BK253.out 4).trans rfl
          have hcz121_5 : wc.cell? ⟨gb253, 5, none⟩ = some (.int .i64 ((rd_T26 l1 a0_0).f5)) := (blk_cell BK253.out 5).trans rfl
          have hfz121_0 := blk_frozen BK253.out 0
          have hfz121_1 := blk_frozen BK253.out 1
          have hfz121_2 := blk_frozen BK253.out 2
          have hfz121_3 := blk_frozen BK253.out 3
          have hfz121_4 := blk_frozen BK253.out 4
          have hfz121_5 := blk_frozen BK253.out 5
          have hcz122_0 : wc.cell? ⟨g, 0, none⟩ = some (.int .i64 a0_0) := (blk_cell BK251.out 0).trans rfl
          have hcz122_1 : wc.cell? ⟨g, 1, none⟩ = some (u9000_) := (blk_cell BK251.out 1).trans rfl
          have hcz122_2 : wc.cell? ⟨g, 2, none⟩ = some (u9001_) := (blk_cell BK251.out 2).trans rfl
          have hcz122_3 : wc.cell? ⟨g, 3, none⟩ = some (u9002_) := (blk_cell BK251.out 3).trans rfl
          have hfz122_0 := blk_frozen BK251.out 0
          have hfz122_1 := blk_frozen BK251.out 1
          have hfz122_2 := blk_frozen BK251.out 2
          have hfz122_3 := blk_frozen BK251.out 3
          go_wp2
          go_ret2
          exact ⟨by first | rfl | (simp <;> rfl) | (simp [*] <;> rfl), (by (with_reducible repeat (first | refine on_ ?_ _ | refine od_ ?_ | refine oa_ ?_ _)); refine blk_put (cs := #[.int .i64 a0_0, u9000_, u9001_, u9002_]) ?_ 0 _ rfl; (with_reducible repeat (first | refine on_ ?_ _ | refine od_ ?_ | refine oa_ ?_ _)); exact BK251.out), by (with_reducible repeat (first | apply Ra_ | apply Rn_ | apply Rd_)); exact Kd.R_mono (Kd.R_far (p := ⟨g, 0, none⟩) (Kd.R_types HO_252001.out BK251.out (by decide)) (fun _ hk => hk.2) (.int .i64 (wrap64 ((wrap64 (a0_0 + 1)) + ((rd_T26 l1 a0_0).f5))))) (fun _ hk => hk.1.1), by (with_reducible repeat (first | apply Ra_ | apply Rn_ | apply Rd_)); exact Kd.R_mono (Kd.R_far (p := ⟨g, 0, none⟩) (Kd.R_types HO_252002.out BK251.out (by decide)) (fun _ hk => hk.2) (.int .i64 (wrap64 ((wrap64 (a0_0 + 1)) + ((rd_T26 l1 a0_0).f5))))) (fun _ hk => hk.1.1), by (with_reducible repeat (first | apply Ra_ | apply Rn_ | apply Rd_)); exact Kd.R_mono (Kd.R_far (p := ⟨g, 0, none⟩) (Kd.R_types HO_252003.out BK251.out (by decide)) (fun _ hk => hk.2) (.int .i64 (wrap64 ((wrap64 (a0_0 + 1)) + ((rd_T26 l1 a0_0).f5))))) (fun _ hk => hk.1), by repeat (first | (with_reducible first | exact HB.out | apply ba_ | apply bn_ | apply bd_ | refine bs_ ?_ GE251.out | refine bs_ ?_ GE253.out) | exact HB.out), by repeat (first | (with_reducible first | exact HK.out | apply Kept.alloc | apply Kept.drewN | apply Kept.drew | refine Kept.setCell ?_ (.inl (.inr rfl)) _ | refine Kept.setCell ?_ (.inr GW251.out) _ | refine Kept.setCell ?_ (.inr GW253.out) _) | exact HK.out)⟩
         rw [if_neg c119] at H
         have c119b0 : (((rd_T26 l1 a0_0).f0) == 8) = false := beq_eq_false_iff_ne.mpr c119
         have c119b1 : (((rd_T26 l1 a0_0).f0) != 8) = true := bne_iff_ne.mpr c119
         have HC123 := Aside0.mk H
         clear H
         go_upto_region 5 with (fail)
         go_cut [63] (fun v63 wc => ∃ (kq : Nat) (x63_122 : Bool), v63 = .bool x63_122 ∧ Aside0 (impl_Machine_step.j2 kq (wrap64 (a0_0 + 1)) x63_122 a0_0 l0_1 l0_2 l0_3 ((rd_T26 l1 a0_0).f0) ((rd_T26 l1 a0_0).f1) ((rd_T26 l1 a0_0).f2) ((rd_T26 l1 a0_0).f3) ((rd_T26 l1 a0_0).f4) ((rd_T26 l1 a0_0).f5) = some (r1, r2, r3, r4, r5, r6)) ∧ Aside0 (kq ≤ kj74) ∧ Aside0 (Kd.R (Kd.int .i64) 3 wc w0.heap.size (fun k_ => ((P0_1_ k_ ∨ P0_2_ k_ ∨ P0_3_ k_) ∨ w.heap.size ≤ k_) ∧ some k_ ≠ (u9001_ : Value).ownBlock) u9000_ l0_1) ∧ Aside0 (Kd.R (Kd.int .i64) 3 wc w0.heap.size (fun k_ => ((P0_1_ k_ ∨ P0_2_ k_ ∨ P0_3_ k_) ∨ w.heap.size ≤ k_) ∧ some k_ ≠ (u9000_ : Value).ownBlock) u9001_ l0_2) ∧ Aside0 (Kd.R Kd.bool 4 wc w0.heap.size (fun k_ => ((P0_1_ k_ ∨ P0_2_ k_ ∨ P0_3_ k_) ∨ w.heap.size ≤ k_)) u9002_ l0_3) ∧ Aside0 (wc.heap[g]? = some (.cells #[.int .i64 a0_0, u9000_, u9001_, u9002_] 116 (0, 0))) ∧ Aside0 (wc.heap[gb253]? = some (.cells #[.int .i64 ((rd_T26 l1 a0_0).f0), .int .i64 ((rd_T26 l1 a0_0).f1), .int .i64 ((rd_T26 l1 a0_0).f2), .int .i64 ((rd_T26 l1 a0_0).f3), .int .i64 ((rd_T26 l1 a0_0).f4), .int .i64 ((rd_T26 l1 a0_0).f5)] 26 (0, 0))) ∧ Aside0 (Kept w wc (fun k_ => (P0_1_ k_ ∨ P0_2_ k_ ∨ P0_3_ k_) ∨ k_ = g)) ∧ Aside0 (Below w0.heap.size w0 wc))
         case first => as_aux_lemma =>
          have H := HC123.out
          clear HC123
          by_cases c124 : ((rd_T26 l1 a0_0).f0) = 9
          ·rw [if_pos c124] at H
           have c124b0 : (((rd_T26 l1 a0_0).f0) == 9) = true := beq_iff_eq.mpr c124
           have c124b1 : (((rd_T26 l1 a0_0).f0) != 9) = false := bne_eq_false_iff_eq.mpr c124
           clear c124
           (first | rw [c124b0] | (simp only [i64_w, i32_w]; rw [c124b0]) | skip)
           by_cases c125 : 0 ≤ ((rd_T26 l1 a0_0).f2)
           ·rw [if_pos c125] at H
            have c125b0 : decide (0 ≤ ((rd_T26 l1 a0_0).f2)) = true := decide_eq_true c125
            clear c125
            by_cases c126 : ((rd_T26 l1 a0_0).f2) < (l0_1.length : Int)
            ·rw [if_pos c126] at H
             have c126b0 : decide (((rd_T26 l1 a0_0).f2) < (l0_1.length : Int)) = true := decide_eq_true c126
             clear c126
             by_cases c127 : 0 ≤ ((rd_T26 l1 a0_0).f3)
             ·rw [if_pos c127] at H
              have c127b0 : decide (0 ≤ ((rd_T26 l1 a0_0).f3)) = true := decide_eq_true c127
              clear c127
              by_cases c128 : ((rd_T26 l1 a0_0).f3) < (l0_1.length : Int)
              ·rw [if_pos c128] at H
               have c128b0 : decide (((rd_T26 l1 a0_0).f3) < (l0_1.length : Int)) = true := decide_eq_true c128
               clear c128
               by_cases c129 : (rd l0_1 ((rd_T26 l1 a0_0).f2)) = (rd l0_1 ((rd_T26 l1 a0_0).f3))
               ·rw [if_pos c129] at H
                have c129b0 : ((rd l0_1 ((rd_T26 l1 a0_0).f2)) == (rd l0_1 ((rd_T26 l1 a0_0).f3))) = true := beq_iff_eq.mpr c129
                have c129b1 : ((rd l0_1 ((rd_T26 l1 a0_0).f2)) != (rd l0_1 ((rd_T26 l1 a0_0).f3))) = false := bne_eq_false_iff_eq.mpr c129
                clear c129
                have H' := Aside0.mk H
                clear H
                try go_wp2
                have n0_ := Aside0.mk (Kd.R_drew HO_252001.out)
                have n1_ := Aside0.mk (Kd.R_drew HO_252002.out)
                have n2_ := Aside0.mk (Kd.R_drew HO_252003.out)
                have n3_ := Aside0.mk (blk_drew BK251.out)
                have n4_ := Aside0.mk (blk_drew BK253.out)
                have n5_ := Aside0.mk (Kept.drew HK.out)
                have n6_ := Aside0.mk (below_drew1 HB.out)
                clear HO_252001
                clear HO_252002
                clear HO_252003
                clear BK251
                clear BK253
                clear HK
                clear HB
                have HO_252001 := n0_
                have HO_252002 := n1_
                have HO_252003 := n2_
                have BK251 := n3_
                have BK253 := n4_
                have HK := n5_
                have HB := n6_
                clear n0_ n1_ n2_ n3_ n4_ n5_ n6_
                obtain ⟨Ao131, co131, eo131⟩ := Kd.R_slice HO_252001.out
                (first | subst eo131 | (injection eo131 with f1_ f2_ f3_; have f4_ := f1_.symm; have f5_ := f3_.symm; clear f1_ f2_ f3_; subst f4_; subst f5_))
                have p271 : 0 ≤ (((rd_T26 l1 a0_0).f2) : Int) := dt_
                have q271 : ((rd_T26 l1 a0_0).f2) < (l0_1.length : Int) := dt_
                obtain ⟨ad271, e271, hx271_0⟩ := Kd.at_int (Kd.R_reads' HO_252001.out).2.2 ((rd_T26 l1 a0_0).f2) p271 q271
                cases e271
                replace p271 := eq_true p271
                replace q271 := eq_true q271
                have p272 : 0 ≤ (((rd_T26 l1 a0_0).f3) : Int) := dt_
                have q272 : ((rd_T26 l1 a0_0).f3) < (l0_1.length : Int) := dt_
                obtain ⟨ad272, e272, hx272_0⟩ := Kd.at_int (Kd.R_reads' HO_252001.out).2.2 ((rd_T26 l1 a0_0).f3) p272 q272
                obtain rfl : ad271 = ad272 := (by injection e272)
                replace p272 := eq_true p272
                replace q272 := eq_true q272
                refine start_ (n := 34) (S := fun w' => w'.cell? ⟨gb253, 0, none⟩ = some (.int .i64 ((rd_T26 l1 a0_0).f0)) ∧ w'.cell? ⟨gb253, 1, none⟩ = some (.int .i64 ((rd_T26 l1 a0_0).f1)) ∧ w'.cell? ⟨gb253, 2, none⟩ = some (.int .i64 ((rd_T26 l1 a0_0).f2)) ∧ w'.cell? ⟨gb253, 3, none⟩ = some (.int .i64 ((rd_T26 l1 a0_0).f3)) ∧ w'.cell? ⟨gb253, 4, none⟩ = some (.int .i64 ((rd_T26 l1 a0_0).f4)) ∧ w'.cell? ⟨gb253, 5, none⟩ = some (.int .i64 ((rd_T26 l1 a0_0).f5)) ∧ w'.cell? (ad271.add (((rd_T26 l1 a0_0).f2)).toNat) = some (.int .i64 (rd l0_1 ((rd_T26 l1 a0_0).f2))) ∧ w'.cell? (ad271.add (((rd_T26 l1 a0_0).f3)).toNat) = some (.int .i64 (rd l0_1 ((rd_T26 l1 a0_0).f3)))) (ds := []) #[false, false, false, false, false, false, false, false, false, false, false, false, false, false, false, false, false, false, false, false, false, false, false, false, false, false, false, false, false, false, false, false, false, false] (by kernel_rfl) rfl rfl ⟨(blk_cell BK253.out 0).trans rfl, (blk_cell BK253.out 1).trans rfl, (blk_cell BK253.out 2).trans rfl, (blk_cell BK253.out 3).trans rfl, (blk_cell BK253.out 4).trans rfl, (blk_cell BK253.out 5).trans rfl, hx271_0, hx272_0⟩ (fun hHeld => ?_); refine with_tabW impl_Machine_step.tab5 impl_Machine_step.bits5 (fun HT_ HW_ => ?_)
                generalize wc.drew = w130 at HO_252001 HO_252002 HO_252003 BK251 BK253 HK HB hx271_0 hx272_0 hHeld ⊢
                refine pz_ 0 (some 30) (v := ?_) (a' := ?_) (any_of HT_.out (by kernel_rfl)) rfl rfl (fun _ _ _ h => h) (by rfl) ?_ ?_ ?_;rotate_left;intro w';go_simp;with_reducible rfl;rotate_left;simp only [Act.put, yy_];rfl
                refine tz_ 1 (some 31) (v := ?_) (a' := ?_) (take_ofW HT_.out HW_.out (by kernel_rfl)) rfl rfl (fun _ _ _ h => h) (by rfl) ?_ hHeld ?_ ?_;rotate_left;rintro w' ⟨s0, s1, s2, s3, s4, s5, s6, s7⟩;go_simp;with_reducible rfl;rotate_left;simp only [Act.put, yy_];rfl
                refine pz_ 2 (some 32) (v := ?_) (a' := ?_) (any_of HT_.out (by kernel_rfl)) rfl rfl (fun _ _ _ h => h) (by rfl) ?_ ?_ ?_;rotate_left;intro w';go_simp;with_reducible rfl;rotate_left;simp only [Act.put, yy_];rfl
                refine pz_ 3 (some 33) (v := ?_) (a' := ?_) (any_of HT_.out (by kernel_rfl)) rfl rfl (fun _ _ _ h => h) (by rfl) ?_ ?_ ?_;rotate_left;intro w';go_simp;with_reducible rfl;rotate_left;simp only [Act.put, yy_];rfl
                refine pz_ 4 (some 34) (v := ?_) (a' := ?_) (any_of HT_.out (by kernel_rfl)) rfl rfl (fun _ _ _ h => h) (by rfl) ?_ ?_ ?_;rotate_left;intro w';go_simp;with_reducible rfl;rotate_left;simp only [Act.put, yy_];rfl
                refine pz_ 5 (some 35) (v := ?_) (a' := ?_) (any_of HT_.out (by kernel_rfl)) rfl rfl (fun _ _ _ h => h) (by rfl) ?_ ?_ ?_;rotate_left;intro w';go_simp;with_reducible rfl;rotate_left;simp only [Act.put, yy_];rfl
                refine pz_ 9 (some 39) (v := ?_) (a' := ?_) (any_of HT_.out (by kernel_rfl)) rfl rfl (fun _ _ _ h => h) (by rfl) ?_ ?_ ?_;rotate_left;intro w';go_simp;with_reducible rfl;rotate_left;simp only [Act.put, yy_];rfl
                refine pz_ 10 (some 40) (v := ?_) (a' := ?_) (any_of HT_.out (by kernel_rfl)) rfl rfl (fun _ _ _ h => h) (by rfl) ?_ ?_ ?_;rotate_left;intro w';go_simp;with_reducible rfl;rotate_left;simp only [Act.put, yy_];rfl
                refine tz_ 6 (some 36) (v := ?_) (a' := ?_) (take_ofW HT_.out HW_.out (by kernel_rfl)) rfl rfl (fun _ _ _ h => h) (by rfl) ?_ hHeld ?_ ?_;rotate_left;rintro w' ⟨s0, s1, s2, s3, s4, s5, s6, s7⟩;go_simp;with_reducible rfl;rotate_left;simp only [Act.put, yy_];rfl
                refine pz_ 7 (some 37) (v := ?_) (a' := ?_) (any_of HT_.out (by kernel_rfl)) rfl rfl (fun _ _ _ h => h) (by rfl) ?_ ?_ ?_;rotate_left;intro w';go_simp;with_reducible rfl;rotate_left;simp only [Act.put, yy_];rfl
                refine tz_ 8 (some 38) (v := ?_) (a' := ?_) (take_ofW HT_.out HW_.out (by kernel_rfl)) rfl rfl (fun _ _ _ h => h) (by rfl) ?_ hHeld ?_ ?_;rotate_left;rintro w' ⟨s0, s1, s2, s3, s4, s5, s6, s7⟩;go_simp;with_reducible rfl;rotate_left;simp only [Act.put, yy_];rfl
                refine tz_ 11 (some 41) (v := ?_) (a' := ?_) (take_ofW HT_.out HW_.out (by kernel_rfl)) rfl rfl (fun _ _ _ h => h) (by rfl) ?_ hHeld ?_ ?_;rotate_left;rintro w' ⟨s0, s1, s2, s3, s4, s5, s6, s7⟩;go_simp;with_reducible rfl;rotate_left;simp only [Act.put, yy_];rfl
                refine pz_ 12 (some 42) (v := ?_) (a' := ?_) (any_of HT_.out (by kernel_rfl)) rfl rfl (fun _ _ _ h => h) (by rfl) ?_ ?_ ?_;rotate_left;intro w';go_simp;with_reducible rfl;rotate_left;simp only [Act.put, yy_];rfl
                refine tz_ 13 (some 43) (v := ?_) (a' := ?_) (take_ofW HT_.out HW_.out (by kernel_rfl)) rfl rfl (fun _ _ _ h => h) (by rfl) ?_ hHeld ?_ ?_;rotate_left;rintro w' ⟨s0, s1, s2, s3, s4, s5, s6, s7⟩;go_simp;with_reducible rfl;rotate_left;simp only [Act.put, yy_];rfl
                refine pz_ 14 (some 44) (v := ?_) (a' := ?_) (any_of HT_.out (by kernel_rfl)) rfl rfl (fun _ _ _ h => h) (by rfl) ?_ ?_ ?_;rotate_left;intro w';go_simp;with_reducible rfl;rotate_left;simp only [Act.put, yy_];rfl
                refine pz_ 15 (some 45) (v := ?_) (a' := ?_) (any_of HT_.out (by kernel_rfl)) rfl rfl (fun _ _ _ h => h) (by rfl) ?_ ?_ ?_;rotate_left;intro w';go_simp;with_reducible rfl;rotate_left;simp only [Act.put, yy_];rfl
                refine pz_ 16 (some 46) (v := ?_) (a' := ?_) (any_of HT_.out (by kernel_rfl)) rfl rfl (fun _ _ _ h => h) (by rfl) ?_ ?_ ?_;rotate_left;intro w';go_simp;with_reducible rfl;rotate_left;simp only [Act.put, yy_];rfl
                refine pzo_ 17 (some 47) (a' := ?_) (any_of HT_.out (by kernel_rfl)) rfl rfl (fun _ _ _ h => h) (by rfl) ?_ ?_;rotate_left;simp only [Act.put, yy_];rfl
                refine pzo_ 18 (some 48) (a' := ?_) (any_of HT_.out (by kernel_rfl)) rfl rfl (fun _ _ _ h => h) (by rfl) ?_ ?_;rotate_left;simp only [Act.put, yy_];rfl
                refine pzo_ 19 (some 49) (a' := ?_) (any_of HT_.out (by kernel_rfl)) rfl rfl (fun _ _ _ h => h) (by rfl) ?_ ?_;rotate_left;simp only [Act.put, yy_];rfl
                refine pzo_ 20 (some 50) (a' := ?_) (any_of HT_.out (by kernel_rfl)) rfl rfl (fun _ _ _ h => h) (by rfl) ?_ ?_;rotate_left;simp only [Act.put, yy_];rfl
                refine pzo_ 21 (some 51) (a' := ?_) (any_of HT_.out (by kernel_rfl)) rfl rfl (fun _ _ _ h => h) (by rfl) ?_ ?_;rotate_left;simp only [Act.put, yy_];rfl
                refine pzo_ 22 (some 52) (a' := ?_) (any_of HT_.out (by kernel_rfl)) rfl rfl (fun _ _ _ h => h) (by rfl) ?_ ?_;rotate_left;simp only [Act.put, yy_];rfl
                refine pzo_ 23 (some 53) (a' := ?_) (any_of HT_.out (by kernel_rfl)) rfl rfl (fun _ _ _ h => h) (by rfl) ?_ ?_;rotate_left;simp only [Act.put, yy_];rfl
                refine pzo_ 24 (some 54) (a' := ?_) (any_of HT_.out (by kernel_rfl)) rfl rfl (fun _ _ _ h => h) (by rfl) ?_ ?_;rotate_left;simp only [Act.put, yy_];rfl
                refine pzo_ 25 (some 55) (a' := ?_) (any_of HT_.out (by kernel_rfl)) rfl rfl (fun _ _ _ h => h) (by rfl) ?_ ?_;rotate_left;simp only [Act.put, yy_];rfl
                refine pzo_ 26 (some 56) (a' := ?_) (any_of HT_.out (by kernel_rfl)) rfl rfl (fun _ _ _ h => h) (by rfl) ?_ ?_;rotate_left;simp only [Act.put, yy_];rfl
                refine pzo_ 27 (some 57) (a' := ?_) (any_of HT_.out (by kernel_rfl)) rfl rfl (fun _ _ _ h => h) (by rfl) ?_ ?_;rotate_left;simp only [Act.put, yy_];rfl
                refine pzo_ 28 (some 58) (a' := ?_) (any_of HT_.out (by kernel_rfl)) rfl rfl (fun _ _ _ h => h) (by rfl) ?_ ?_;rotate_left;simp only [Act.put, yy_];rfl
                refine pzo_ 29 (some 59) (a' := ?_) (any_of HT_.out (by kernel_rfl)) rfl rfl (fun _ _ _ h => h) (by rfl) ?_ ?_;rotate_left;simp only [Act.put, yy_];rfl
                refine pzo_ 30 (some 60) (a' := ?_) (any_of HT_.out (by kernel_rfl)) rfl rfl (fun _ _ _ h => h) (by rfl) ?_ ?_;rotate_left;simp only [Act.put, yy_];rfl
                refine pzo_ 31 (some 61) (a' := ?_) (any_of HT_.out (by kernel_rfl)) rfl rfl (fun _ _ _ h => h) (by rfl) ?_ ?_;rotate_left;simp only [Act.put, yy_];rfl
                refine pzo_ 32 (some 62) (a' := ?_) (any_of HT_.out (by kernel_rfl)) rfl rfl (fun _ _ _ h => h) (by rfl) ?_ ?_;rotate_left;simp only [Act.put, yy_];rfl
                refine pz_ 33 (some 63) (v := ?_) (a' := ?_) (any_of HT_.out (by kernel_rfl)) rfl rfl (fun _ _ _ h => h) (by rfl) ?_ ?_ ?_;rotate_left;intro w';go_simp;with_reducible rfl;rotate_left;simp only [Act.put, yy_];rfl
                refine done_ (done_of HT_.out (by kernel_rfl)) ?_
                try go_wp2
                go_meet
                case rel => exact ⟨_, (true), (by first | rfl | (simp; done) | (simp [*]; done)), H', ⟨by have := HJ39.out; have := HJ74.out; first | omega | exact Nat.le_refl _⟩, ⟨zR_ HO_252001.out⟩, ⟨zR_ HO_252002.out⟩, ⟨zR_ HO_252003.out⟩, ⟨zO_ BK251.out⟩, ⟨zO_ BK253.out⟩, ⟨by repeat (first | (with_reducible first | exact HK.out | apply Kept.alloc | apply Kept.drewN | apply Kept.drew | refine Kept.setCell ?_ (.inl (.inr rfl)) _ | refine Kept.setCell ?_ (.inr GW251.out) _ | refine Kept.setCell ?_ (.inr GW253.out) _) | exact HK.out)⟩, ⟨by repeat (first | (with_reducible first | exact HB.out | apply ba_ | apply bn_ | apply bd_ | refine bs_ ?_ GE251.out | refine bs_ ?_ GE253.out) | exact HB.out)⟩⟩
               rw [if_neg c129] at H
               have c129b0 : ((rd l0_1 ((rd_T26 l1 a0_0).f2)) == (rd l0_1 ((rd_T26 l1 a0_0).f3))) = false := beq_eq_false_iff_ne.mpr c129
               have c129b1 : ((rd l0_1 ((rd_T26 l1 a0_0).f2)) != (rd l0_1 ((rd_T26 l1 a0_0).f3))) = true := bne_iff_ne.mpr c129
               by_cases c132 : ((rd_T26 l1 a0_0).f0) = 10
               ·rw [if_pos c132] at H
                have c132b0 : (((rd_T26 l1 a0_0).f0) == 10) = true := beq_iff_eq.mpr c132
                have c132b1 : (((rd_T26 l1 a0_0).f0) != 10) = false := bne_eq_false_iff_eq.mpr c132
                clear c132
                have H' := Aside0.mk H
                clear H
                try go_wp2
                have n0_ := Aside0.mk (Kd.R_drew HO_252001.out)
                have n1_ := Aside0.mk (Kd.R_drew HO_252002.out)
                have n2_ := Aside0.mk (Kd.R_drew HO_252003.out)
                have n3_ := Aside0.mk (blk_drew BK251.out)
                have n4_ := Aside0.mk (blk_drew BK253.out)
                have n5_ := Aside0.mk (Kept.drew HK.out)
                have n6_ := Aside0.mk (below_drew1 HB.out)
                clear HO_252001
                clear HO_252002
                clear HO_252003
                clear BK251
                clear BK253
                clear HK
                clear HB
                have HO_252001 := n0_
                have HO_252002 := n1_
                have HO_252003 := n2_
                have BK251 := n3_
                have BK253 := n4_
                have HK := n5_
                have HB := n6_
                clear n0_ n1_ n2_ n3_ n4_ n5_ n6_
                obtain ⟨Ao134, co134, eo134⟩ := Kd.R_slice HO_252001.out
                (first | subst eo134 | (injection eo134 with f1_ f2_ f3_; have f4_ := f1_.symm; have f5_ := f3_.symm; clear f1_ f2_ f3_; subst f4_; subst f5_))
                have p271 : 0 ≤ (((rd_T26 l1 a0_0).f2) : Int) := dt_
                have q271 : ((rd_T26 l1 a0_0).f2) < (l0_1.length : Int) := dt_
                obtain ⟨ad271, e271, hx271_0⟩ := Kd.at_int (Kd.R_reads' HO_252001.out).2.2 ((rd_T26 l1 a0_0).f2) p271 q271
                cases e271
                replace p271 := eq_true p271
                replace q271 := eq_true q271
                have p272 : 0 ≤ (((rd_T26 l1 a0_0).f3) : Int) := dt_
                have q272 : ((rd_T26 l1 a0_0).f3) < (l0_1.length : Int) := dt_
                obtain ⟨ad272, e272, hx272_0⟩ := Kd.at_int (Kd.R_reads' HO_252001.out).2.2 ((rd_T26 l1 a0_0).f3) p272 q272
                obtain rfl : ad271 = ad272 := (by injection e272)
                replace p272 := eq_true p272
                replace q272 := eq_true q272
                have p273 : 0 ≤ (((rd_T26 l1 a0_0).f2) : Int) := dt_
                have q273 : ((rd_T26 l1 a0_0).f2) < (l0_1.length : Int) := dt_
                obtain ⟨ad273, e273, hx273_0⟩ := Kd.at_int (Kd.R_reads' HO_252001.out).2.2 ((rd_T26 l1 a0_0).f2) p273 q273
                obtain rfl : ad271 = ad273 := (by injection e273)
                replace p273 := eq_true p273
                replace q273 := eq_true q273
                have p274 : 0 ≤ (((rd_T26 l1 a0_0).f3) : Int) := dt_
                have q274 : ((rd_T26 l1 a0_0).f3) < (l0_1.length : Int) := dt_
                obtain ⟨ad274, e274, hx274_0⟩ := Kd.at_int (Kd.R_reads' HO_252001.out).2.2 ((rd_T26 l1 a0_0).f3) p274 q274
                obtain rfl : ad271 = ad274 := (by injection e274)
                replace p274 := eq_true p274
                replace q274 := eq_true q274
                refine start_ (n := 34) (S := fun w' => w'.cell? ⟨gb253, 0, none⟩ = some (.int .i64 ((rd_T26 l1 a0_0).f0)) ∧ w'.cell? ⟨gb253, 1, none⟩ = some (.int .i64 ((rd_T26 l1 a0_0).f1)) ∧ w'.cell? ⟨gb253, 2, none⟩ = some (.int .i64 ((rd_T26 l1 a0_0).f2)) ∧ w'.cell? ⟨gb253, 3, none⟩ = some (.int .i64 ((rd_T26 l1 a0_0).f3)) ∧ w'.cell? ⟨gb253, 4, none⟩ = some (.int .i64 ((rd_T26 l1 a0_0).f4)) ∧ w'.cell? ⟨gb253, 5, none⟩ = some (.int .i64 ((rd_T26 l1 a0_0).f5)) ∧ w'.cell? (ad271.add (((rd_T26 l1 a0_0).f2)).toNat) = some (.int .i64 (rd l0_1 ((rd_T26 l1 a0_0).f2))) ∧ w'.cell? (ad271.add (((rd_T26 l1 a0_0).f3)).toNat) = some (.int .i64 (rd l0_1 ((rd_T26 l1 a0_0).f3))) ∧ w'.cell? (ad271.add (((rd_T26 l1 a0_0).f2)).toNat) = some (.int .i64 (rd l0_1 ((rd_T26 l1 a0_0).f2))) ∧ w'.cell? (ad271.add (((rd_T26 l1 a0_0).f3)).toNat) = some (.int .i64 (rd l0_1 ((rd_T26 l1 a0_0).f3)))) (ds := []) #[false, false, false, false, false, false, false, false, false, false, false, false, false, false, false, false, false, false, false, false, false, false, false, false, false, false, false, false, false, false, false, false, false, false] (by kernel_rfl) rfl rfl ⟨(blk_cell BK253.out 0).trans rfl, (blk_cell BK253.out 1).trans rfl, (blk_cell BK253.out 2).trans rfl, (blk_cell BK253.out 3).trans rfl, (blk_cell BK253.out 4).trans rfl, (blk_cell BK253.out 5).trans rfl, hx271_0, hx272_0, hx273_0, hx274_0⟩ (fun hHeld => ?_); refine with_tabW impl_Machine_step.tab5 impl_Machine_step.bits5 (fun HT_ HW_ => ?_)
                generalize wc.drew = w133 at HO_252001 HO_252002 HO_252003 BK251 BK253 HK HB hx271_0 hx272_0 hx273_0 hx274_0 hHeld ⊢
                refine pz_ 0 (some 30) (v := ?_) (a' := ?_) (any_of HT_.out (by kernel_rfl)) rfl rfl (fun _ _ _ h => h) (by rfl) ?_ ?_ ?_;rotate_left;intro w';go_simp;with_reducible rfl;rotate_left;simp only [Act.put, yy_];rfl
                refine tz_ 1 (some 31) (v := ?_) (a' := ?_) (take_ofW HT_.out HW_.out (by kernel_rfl)) rfl rfl (fun _ _ _ h => h) (by rfl) ?_ hHeld ?_ ?_;rotate_left;rintro w' ⟨s0, s1, s2, s3, s4, s5, s6, s7, s8, s9⟩;go_simp;with_reducible rfl;rotate_left;simp only [Act.put, yy_];rfl
                refine pz_ 2 (some 32) (v := ?_) (a' := ?_) (any_of HT_.out (by kernel_rfl)) rfl rfl (fun _ _ _ h => h) (by rfl) ?_ ?_ ?_;rotate_left;intro w';go_simp;with_reducible rfl;rotate_left;simp only [Act.put, yy_];rfl
                refine pz_ 3 (some 33) (v := ?_) (a' := ?_) (any_of HT_.out (by kernel_rfl)) rfl rfl (fun _ _ _ h => h) (by rfl) ?_ ?_ ?_;rotate_left;intro w';go_simp;with_reducible rfl;rotate_left;simp only [Act.put, yy_];rfl
                refine pz_ 4 (some 34) (v := ?_) (a' := ?_) (any_of HT_.out (by kernel_rfl)) rfl rfl (fun _ _ _ h => h) (by rfl) ?_ ?_ ?_;rotate_left;intro w';go_simp;with_reducible rfl;rotate_left;simp only [Act.put, yy_];rfl
                refine pz_ 5 (some 35) (v := ?_) (a' := ?_) (any_of HT_.out (by kernel_rfl)) rfl rfl (fun _ _ _ h => h) (by rfl) ?_ ?_ ?_;rotate_left;intro w';go_simp;with_reducible rfl;rotate_left;simp only [Act.put, yy_];rfl
                refine pz_ 9 (some 39) (v := ?_) (a' := ?_) (any_of HT_.out (by kernel_rfl)) rfl rfl (fun _ _ _ h => h) (by rfl) ?_ ?_ ?_;rotate_left;intro w';go_simp;with_reducible rfl;rotate_left;simp only [Act.put, yy_];rfl
                refine pz_ 10 (some 40) (v := ?_) (a' := ?_) (any_of HT_.out (by kernel_rfl)) rfl rfl (fun _ _ _ h => h) (by rfl) ?_ ?_ ?_;rotate_left;intro w';go_simp;with_reducible rfl;rotate_left;simp only [Act.put, yy_];rfl
                refine tz_ 6 (some 36) (v := ?_) (a' := ?_) (take_ofW HT_.out HW_.out (by kernel_rfl)) rfl rfl (fun _ _ _ h => h) (by rfl) ?_ hHeld ?_ ?_;rotate_left;rintro w' ⟨s0, s1, s2, s3, s4, s5, s6, s7, s8, s9⟩;go_simp;with_reducible rfl;rotate_left;simp only [Act.put, yy_];rfl
                refine pz_ 7 (some 37) (v := ?_) (a' := ?_) (any_of HT_.out (by kernel_rfl)) rfl rfl (fun _ _ _ h => h) (by rfl) ?_ ?_ ?_;rotate_left;intro w';go_simp;with_reducible rfl;rotate_left;simp only [Act.put, yy_];rfl
                refine tz_ 8 (some 38) (v := ?_) (a' := ?_) (take_ofW HT_.out HW_.out (by kernel_rfl)) rfl rfl (fun _ _ _ h => h) (by rfl) ?_ hHeld ?_ ?_;rotate_left;rintro w' ⟨s0, s1, s2, s3, s4, s5, s6, s7, s8, s9⟩;go_simp;with_reducible rfl;rotate_left;simp only [Act.put, yy_];rfl
                refine tz_ 11 (some 41) (v := ?_) (a' := ?_) (take_ofW HT_.out HW_.out (by kernel_rfl)) rfl rfl (fun _ _ _ h => h) (by rfl) ?_ hHeld ?_ ?_;rotate_left;rintro w' ⟨s0, s1, s2, s3, s4, s5, s6, s7, s8, s9⟩;go_simp;with_reducible rfl;rotate_left;simp only [Act.put, yy_];rfl
                refine pz_ 12 (some 42) (v := ?_) (a' := ?_) (any_of HT_.out (by kernel_rfl)) rfl rfl (fun _ _ _ h => h) (by rfl) ?_ ?_ ?_;rotate_left;intro w';go_simp;with_reducible rfl;rotate_left;simp only [Act.put, yy_];rfl
                refine tz_ 13 (some 43) (v := ?_) (a' := ?_) (take_ofW HT_.out HW_.out (by kernel_rfl)) rfl rfl (fun _ _ _ h => h) (by rfl) ?_ hHeld ?_ ?_;rotate_left;rintro w' ⟨s0, s1, s2, s3, s4, s5, s6, s7, s8, s9⟩;go_simp;with_reducible rfl;rotate_left;simp only [Act.put, yy_];rfl
                refine pz_ 14 (some 44) (v := ?_) (a' := ?_) (any_of HT_.out (by kernel_rfl)) rfl rfl (fun _ _ _ h => h) (by rfl) ?_ ?_ ?_;rotate_left;intro w';go_simp;with_reducible rfl;rotate_left;simp only [Act.put, yy_];rfl
                refine pz_ 15 (some 45) (v := ?_) (a' := ?_) (any_of HT_.out (by kernel_rfl)) rfl rfl (fun _ _ _ h => h) (by rfl) ?_ ?_ ?_;rotate_left;intro w';go_simp;with_reducible rfl;rotate_left;simp only [Act.put, yy_];rfl
                refine pz_ 16 (some 46) (v := ?_) (a' := ?_) (any_of HT_.out (by kernel_rfl)) rfl rfl (fun _ _ _ h => h) (by rfl) ?_ ?_ ?_;rotate_left;intro w';go_simp;with_reducible rfl;rotate_left;simp only [Act.put, yy_];rfl
                refine pz_ 17 (some 47) (v := ?_) (a' := ?_) (any_of HT_.out (by kernel_rfl)) rfl rfl (fun _ _ _ h => h) (by rfl) ?_ ?_ ?_;rotate_left;intro w';go_simp;with_reducible rfl;rotate_left;simp only [Act.put, yy_];rfl
                refine tz_ 18 (some 48) (v := ?_) (a' := ?_) (take_ofW HT_.out HW_.out (by kernel_rfl)) rfl rfl (fun _ _ _ h => h) (by rfl) ?_ hHeld ?_ ?_;rotate_left;rintro w' ⟨s0, s1, s2, s3, s4, s5, s6, s7, s8, s9⟩;go_simp;with_reducible rfl;rotate_left;simp only [Act.put, yy_];rfl
                refine pz_ 19 (some 49) (v := ?_) (a' := ?_) (any_of HT_.out (by kernel_rfl)) rfl rfl (fun _ _ _ h => h) (by rfl) ?_ ?_ ?_;rotate_left;intro w';go_simp;with_reducible rfl;rotate_left;simp only [Act.put, yy_];rfl
                refine pz_ 20 (some 50) (v := ?_) (a' := ?_) (any_of HT_.out (by kernel_rfl)) rfl rfl (fun _ _ _ h => h) (by rfl) ?_ ?_ ?_;rotate_left;intro w';go_simp;with_reducible rfl;rotate_left;simp only [Act.put, yy_];rfl
                refine pz_ 21 (some 51) (v := ?_) (a' := ?_) (any_of HT_.out (by kernel_rfl)) rfl rfl (fun _ _ _ h => h) (by rfl) ?_ ?_ ?_;rotate_left;intro w';go_simp;with_reducible rfl;rotate_left;simp only [Act.put, yy_];rfl
                refine pz_ 22 (some 52) (v := ?_) (a' := ?_) (any_of HT_.out (by kernel_rfl)) rfl rfl (fun _ _ _ h => h) (by rfl) ?_ ?_ ?_;rotate_left;intro w';go_simp;with_reducible rfl;rotate_left;simp only [Act.put, yy_];rfl
                refine pz_ 26 (some 56) (v := ?_) (a' := ?_) (any_of HT_.out (by kernel_rfl)) rfl rfl (fun _ _ _ h => h) (by rfl) ?_ ?_ ?_;rotate_left;intro w';go_simp;with_reducible rfl;rotate_left;simp only [Act.put, yy_];rfl
                refine pz_ 27 (some 57) (v := ?_) (a' := ?_) (any_of HT_.out (by kernel_rfl)) rfl rfl (fun _ _ _ h => h) (by rfl) ?_ ?_ ?_;rotate_left;intro w';go_simp;with_reducible rfl;rotate_left;simp only [Act.put, yy_];rfl
                refine tz_ 23 (some 53) (v := ?_) (a' := ?_) (take_ofW HT_.out HW_.out (by kernel_rfl)) rfl rfl (fun _ _ _ h => h) (by rfl) ?_ hHeld ?_ ?_;rotate_left;rintro w' ⟨s0, s1, s2, s3, s4, s5, s6, s7, s8, s9⟩;go_simp;with_reducible rfl;rotate_left;simp only [Act.put, yy_];rfl
                refine pz_ 24 (some 54) (v := ?_) (a' := ?_) (any_of HT_.out (by kernel_rfl)) rfl rfl (fun _ _ _ h => h) (by rfl) ?_ ?_ ?_;rotate_left;intro w';go_simp;with_reducible rfl;rotate_left;simp only [Act.put, yy_];rfl
                refine tz_ 25 (some 55) (v := ?_) (a' := ?_) (take_ofW HT_.out HW_.out (by kernel_rfl)) rfl rfl (fun _ _ _ h => h) (by rfl) ?_ hHeld ?_ ?_;rotate_left;rintro w' ⟨s0, s1, s2, s3, s4, s5, s6, s7, s8, s9⟩;go_simp;with_reducible rfl;rotate_left;simp only [Act.put, yy_];rfl
                refine tz_ 28 (some 58) (v := ?_) (a' := ?_) (take_ofW HT_.out HW_.out (by kernel_rfl)) rfl rfl (fun _ _ _ h => h) (by rfl) ?_ hHeld ?_ ?_;rotate_left;rintro w' ⟨s0, s1, s2, s3, s4, s5, s6, s7, s8, s9⟩;go_simp;with_reducible rfl;rotate_left;simp only [Act.put, yy_];rfl
                refine pz_ 29 (some 59) (v := ?_) (a' := ?_) (any_of HT_.out (by kernel_rfl)) rfl rfl (fun _ _ _ h => h) (by rfl) ?_ ?_ ?_;rotate_left;intro w';go_simp;with_reducible rfl;rotate_left;simp only [Act.put, yy_];rfl
                refine tz_ 30 (some 60) (v := ?_) (a' := ?_) (take_ofW HT_.out HW_.out (by kernel_rfl)) rfl rfl (fun _ _ _ h => h) (by rfl) ?_ hHeld ?_ ?_;rotate_left;rintro w' ⟨s0, s1, s2, s3, s4, s5, s6, s7, s8, s9⟩;go_simp;with_reducible rfl;rotate_left;simp only [Act.put, yy_];rfl
                refine pz_ 31 (some 61) (v := ?_) (a' := ?_) (any_of HT_.out (by kernel_rfl)) rfl rfl (fun _ _ _ h => h) (by rfl) ?_ ?_ ?_;rotate_left;intro w';go_simp;with_reducible rfl;rotate_left;simp only [Act.put, yy_];rfl
                refine pz_ 32 (some 62) (v := ?_) (a' := ?_) (any_of HT_.out (by kernel_rfl)) rfl rfl (fun _ _ _ h => h) (by rfl) ?_ ?_ ?_;rotate_left;intro w';go_simp;with_reducible rfl;rotate_left;simp only [Act.put, yy_];rfl
                refine pz_ 33 (some 63) (v := ?_) (a' := ?_) (any_of HT_.out (by kernel_rfl)) rfl rfl (fun _ _ _ h => h) (by rfl) ?_ ?_ ?_;rotate_left;intro w';go_simp;with_reducible rfl;rotate_left;simp only [Act.put, yy_];rfl
                refine done_ (done_of HT_.out (by kernel_rfl)) ?_
                try go_wp2
                go_meet
                case rel => exact ⟨_, (decide ((rd l0_1 ((rd_T26 l1 a0_0).f2)) < (rd l0_1 ((rd_T26 l1 a0_0).f3)))), (by first | rfl | (simp; done) | (simp [*]; done)), H', ⟨by have := HJ39.out; have := HJ74.out; first | omega | exact Nat.le_refl _⟩, ⟨zR_ HO_252001.out⟩, ⟨zR_ HO_252002.out⟩, ⟨zR_ HO_252003.out⟩, ⟨zO_ BK251.out⟩, ⟨zO_ BK253.out⟩, ⟨by repeat (first | (with_reducible first | exact HK.out | apply Kept.alloc | apply Kept.drewN | apply Kept.drew | refine Kept.setCell ?_ (.inl (.inr rfl)) _ | refine Kept.setCell ?_ (.inr GW251.out) _ | refine Kept.setCell ?_ (.inr GW253.out) _) | exact HK.out)⟩, ⟨by repeat (first | (with_reducible first | exact HB.out | apply ba_ | apply bn_ | apply bd_ | refine bs_ ?_ GE251.out | refine bs_ ?_ GE253.out) | exact HB.out)⟩⟩
               rw [if_neg c132] at H
               have c132b0 : (((rd_T26 l1 a0_0).f0) == 10) = false := beq_eq_false_iff_ne.mpr c132
               have c132b1 : (((rd_T26 l1 a0_0).f0) != 10) = true := bne_iff_ne.mpr c132
               have H' := Aside0.mk H
               clear H
               try go_wp2
               have n0_ := Aside0.mk (Kd.R_drew HO_252001.out)
               have n1_ := Aside0.mk (Kd.R_drew HO_252002.out)
               have n2_ := Aside0.mk (Kd.R_drew HO_252003.out)
               have n3_ := Aside0.mk (blk_drew BK251.out)
               have n4_ := Aside0.mk (blk_drew BK253.out)
               have n5_ := Aside0.mk (Kept.drew HK.out)
               have n6_ := Aside0.mk (below_drew1 HB.out)
               clear HO_252001
               clear HO_252002
               clear HO_252003
               clear BK251
               clear BK253
               clear HK
               clear HB
               have HO_252001 := n0_
               have HO_252002 := n1_
               have HO_252003 := n2_
               have BK251 := n3_
               have BK253 := n4_
               have HK := n5_
               have HB := n6_
               clear n0_ n1_ n2_ n3_ n4_ n5_ n6_
               obtain ⟨Ao136, co136, eo136⟩ := Kd.R_slice HO_252001.out
               (first | subst eo136 | (injection eo136 with f1_ f2_ f3_; have f4_ := f1_.symm; have f5_ := f3_.symm; clear f1_ f2_ f3_; subst f4_; subst f5_))
               have p271 : 0 ≤ (((rd_T26 l1 a0_0).f2) : Int) := dt_
               have q271 : ((rd_T26 l1 a0_0).f2) < (l0_1.length : Int) := dt_
               obtain ⟨ad271, e271, hx271_0⟩ := Kd.at_int (Kd.R_reads' HO_252001.out).2.2 ((rd_T26 l1 a0_0).f2) p271 q271
               cases e271
               replace p271 := eq_true p271
               replace q271 := eq_true q271
               have p272 : 0 ≤ (((rd_T26 l1 a0_0).f3) : Int) := dt_
               have q272 : ((rd_T26 l1 a0_0).f3) < (l0_1.length : Int) := dt_
               obtain ⟨ad272, e272, hx272_0⟩ := Kd.at_int (Kd.R_reads' HO_252001.out).2.2 ((rd_T26 l1 a0_0).f3) p272 q272
               obtain rfl : ad271 = ad272 := (by injection e272)
               replace p272 := eq_true p272
               replace q272 := eq_true q272
               refine start_ (n := 34) (S := fun w' => w'.cell? ⟨gb253, 0, none⟩ = some (.int .i64 ((rd_T26 l1 a0_0).f0)) ∧ w'.cell? ⟨gb253, 1, none⟩ = some (.int .i64 ((rd_T26 l1 a0_0).f1)) ∧ w'.cell? ⟨gb253, 2, none⟩ = some (.int .i64 ((rd_T26 l1 a0_0).f2)) ∧ w'.cell? ⟨gb253, 3, none⟩ = some (.int .i64 ((rd_T26 l1 a0_0).f3)) ∧ w'.cell? ⟨gb253, 4, none⟩ = some (.int .i64 ((rd_T26 l1 a0_0).f4)) ∧ w'.cell? ⟨gb253, 5, none⟩ = some (.int .i64 ((rd_T26 l1 a0_0).f5)) ∧ w'.cell? (ad271.add (((rd_T26 l1 a0_0).f2)).toNat) = some (.int .i64 (rd l0_1 ((rd_T26 l1 a0_0).f2))) ∧ w'.cell? (ad271.add (((rd_T26 l1 a0_0).f3)).toNat) = some (.int .i64 (rd l0_1 ((rd_T26 l1 a0_0).f3)))) (ds := []) #[false, false, false, false, false, false, false, false, false, false, false, false, false, false, false, false, false, false, false, false, false, false, false, false, false, false, false, false, false, false, false, false, false, false] (by kernel_rfl) rfl rfl ⟨(blk_cell BK253.out 0).trans rfl, (blk_cell BK253.out 1).trans rfl, (blk_cell BK253.out 2).trans rfl, (blk_cell BK253.out 3).trans rfl, (blk_cell BK253.out 4).trans rfl, (blk_cell BK253.out 5).trans rfl, hx271_0, hx272_0⟩ (fun hHeld => ?_); refine with_tabW impl_Machine_step.tab5 impl_Machine_step.bits5 (fun HT_ HW_ => ?_)
               generalize wc.drew = w135 at HO_252001 HO_252002 HO_252003 BK251 BK253 HK HB hx271_0 hx272_0 hHeld ⊢
               refine pz_ 0 (some 30) (v := ?_) (a' := ?_) (any_of HT_.out (by kernel_rfl)) rfl rfl (fun _ _ _ h => h) (by rfl) ?_ ?_ ?_;rotate_left;intro w';go_simp;with_reducible rfl;rotate_left;simp only [Act.put, yy_];rfl
               refine tz_ 1 (some 31) (v := ?_) (a' := ?_) (take_ofW HT_.out HW_.out (by kernel_rfl)) rfl rfl (fun _ _ _ h => h) (by rfl) ?_ hHeld ?_ ?_;rotate_left;rintro w' ⟨s0, s1, s2, s3, s4, s5, s6, s7⟩;go_simp;with_reducible rfl;rotate_left;simp only [Act.put, yy_];rfl
               refine pz_ 2 (some 32) (v := ?_) (a' := ?_) (any_of HT_.out (by kernel_rfl)) rfl rfl (fun _ _ _ h => h) (by rfl) ?_ ?_ ?_;rotate_left;intro w';go_simp;with_reducible rfl;rotate_left;simp only [Act.put, yy_];rfl
               refine pz_ 3 (some 33) (v := ?_) (a' := ?_) (any_of HT_.out (by kernel_rfl)) rfl rfl (fun _ _ _ h => h) (by rfl) ?_ ?_ ?_;rotate_left;intro w';go_simp;with_reducible rfl;rotate_left;simp only [Act.put, yy_];rfl
               refine pz_ 4 (some 34) (v := ?_) (a' := ?_) (any_of HT_.out (by kernel_rfl)) rfl rfl (fun _ _ _ h => h) (by rfl) ?_ ?_ ?_;rotate_left;intro w';go_simp;with_reducible rfl;rotate_left;simp only [Act.put, yy_];rfl
               refine pz_ 5 (some 35) (v := ?_) (a' := ?_) (any_of HT_.out (by kernel_rfl)) rfl rfl (fun _ _ _ h => h) (by rfl) ?_ ?_ ?_;rotate_left;intro w';go_simp;with_reducible rfl;rotate_left;simp only [Act.put, yy_];rfl
               refine pz_ 9 (some 39) (v := ?_) (a' := ?_) (any_of HT_.out (by kernel_rfl)) rfl rfl (fun _ _ _ h => h) (by rfl) ?_ ?_ ?_;rotate_left;intro w';go_simp;with_reducible rfl;rotate_left;simp only [Act.put, yy_];rfl
               refine pz_ 10 (some 40) (v := ?_) (a' := ?_) (any_of HT_.out (by kernel_rfl)) rfl rfl (fun _ _ _ h => h) (by rfl) ?_ ?_ ?_;rotate_left;intro w';go_simp;with_reducible rfl;rotate_left;simp only [Act.put, yy_];rfl
               refine tz_ 6 (some 36) (v := ?_) (a' := ?_) (take_ofW HT_.out HW_.out (by kernel_rfl)) rfl rfl (fun _ _ _ h => h) (by rfl) ?_ hHeld ?_ ?_;rotate_left;rintro w' ⟨s0, s1, s2, s3, s4, s5, s6, s7⟩;go_simp;with_reducible rfl;rotate_left;simp only [Act.put, yy_];rfl
               refine pz_ 7 (some 37) (v := ?_) (a' := ?_) (any_of HT_.out (by kernel_rfl)) rfl rfl (fun _ _ _ h => h) (by rfl) ?_ ?_ ?_;rotate_left;intro w';go_simp;with_reducible rfl;rotate_left;simp only [Act.put, yy_];rfl
               refine tz_ 8 (some 38) (v := ?_) (a' := ?_) (take_ofW HT_.out HW_.out (by kernel_rfl)) rfl rfl (fun _ _ _ h => h) (by rfl) ?_ hHeld ?_ ?_;rotate_left;rintro w' ⟨s0, s1, s2, s3, s4, s5, s6, s7⟩;go_simp;with_reducible rfl;rotate_left;simp only [Act.put, yy_];rfl
               refine tz_ 11 (some 41) (v := ?_) (a' := ?_) (take_ofW HT_.out HW_.out (by kernel_rfl)) rfl rfl (fun _ _ _ h => h) (by rfl) ?_ hHeld ?_ ?_;rotate_left;rintro w' ⟨s0, s1, s2, s3, s4, s5, s6, s7⟩;go_simp;with_reducible rfl;rotate_left;simp only [Act.put, yy_];rfl
               refine pz_ 12 (some 42) (v := ?_) (a' := ?_) (any_of HT_.out (by kernel_rfl)) rfl rfl (fun _ _ _ h => h) (by rfl) ?_ ?_ ?_;rotate_left;intro w';go_simp;with_reducible rfl;rotate_left;simp only [Act.put, yy_];rfl
               refine tz_ 13 (some 43) (v := ?_) (a' := ?_) (take_ofW HT_.out HW_.out (by kernel_rfl)) rfl rfl (fun _ _ _ h => h) (by rfl) ?_ hHeld ?_ ?_;rotate_left;rintro w' ⟨s0, s1, s2, s3, s4, s5, s6, s7⟩;go_simp;with_reducible rfl;rotate_left;simp only [Act.put, yy_];rfl
               refine pz_ 14 (some 44) (v := ?_) (a' := ?_) (any_of HT_.out (by kernel_rfl)) rfl rfl (fun _ _ _ h => h) (by rfl) ?_ ?_ ?_;rotate_left;intro w';go_simp;with_reducible rfl;rotate_left;simp only [Act.put, yy_];rfl
               refine pz_ 15 (some 45) (v := ?_) (a' := ?_) (any_of HT_.out (by kernel_rfl)) rfl rfl (fun _ _ _ h => h) (by rfl) ?_ ?_ ?_;rotate_left;intro w';go_simp;with_reducible rfl;rotate_left;simp only [Act.put, yy_];rfl
               refine pz_ 16 (some 46) (v := ?_) (a' := ?_) (any_of HT_.out (by kernel_rfl)) rfl rfl (fun _ _ _ h => h) (by rfl) ?_ ?_ ?_;rotate_left;intro w';go_simp;with_reducible rfl;rotate_left;simp only [Act.put, yy_];rfl
               refine pz_ 17 (some 47) (v := ?_) (a' := ?_) (any_of HT_.out (by kernel_rfl)) rfl rfl (fun _ _ _ h => h) (by rfl) ?_ ?_ ?_;rotate_left;intro w';go_simp;with_reducible rfl;rotate_left;simp only [Act.put, yy_];rfl
               refine tz_ 18 (some 48) (v := ?_) (a' := ?_) (take_ofW HT_.out HW_.out (by kernel_rfl)) rfl rfl (fun _ _ _ h => h) (by rfl) ?_ hHeld ?_ ?_;rotate_left;rintro w' ⟨s0, s1, s2, s3, s4, s5, s6, s7⟩;go_simp;with_reducible rfl;rotate_left;simp only [Act.put, yy_];rfl
               refine pz_ 19 (some 49) (v := ?_) (a' := ?_) (any_of HT_.out (by kernel_rfl)) rfl rfl (fun _ _ _ h => h) (by rfl) ?_ ?_ ?_;rotate_left;intro w';go_simp;with_reducible rfl;rotate_left;simp only [Act.put, yy_];rfl
               refine pz_ 20 (some 50) (v := ?_) (a' := ?_) (any_of HT_.out (by kernel_rfl)) rfl rfl (fun _ _ _ h => h) (by rfl) ?_ ?_ ?_;rotate_left;intro w';go_simp;with_reducible rfl;rotate_left;simp only [Act.put, yy_];rfl
               refine pzo_ 21 (some 51) (a' := ?_) (any_of HT_.out (by kernel_rfl)) rfl rfl (fun _ _ _ h => h) (by rfl) ?_ ?_;rotate_left;simp only [Act.put, yy_];rfl
               refine pzo_ 22 (some 52) (a' := ?_) (any_of HT_.out (by kernel_rfl)) rfl rfl (fun _ _ _ h => h) (by rfl) ?_ ?_;rotate_left;simp only [Act.put, yy_];rfl
               refine pzo_ 23 (some 53) (a' := ?_) (any_of HT_.out (by kernel_rfl)) rfl rfl (fun _ _ _ h => h) (by rfl) ?_ ?_;rotate_left;simp only [Act.put, yy_];rfl
               refine pzo_ 24 (some 54) (a' := ?_) (any_of HT_.out (by kernel_rfl)) rfl rfl (fun _ _ _ h => h) (by rfl) ?_ ?_;rotate_left;simp only [Act.put, yy_];rfl
               refine pzo_ 25 (some 55) (a' := ?_) (any_of HT_.out (by kernel_rfl)) rfl rfl (fun _ _ _ h => h) (by rfl) ?_ ?_;rotate_left;simp only [Act.put, yy_];rfl
               refine pzo_ 26 (some 56) (a' := ?_) (any_of HT_.out (by kernel_rfl)) rfl rfl (fun _ _ _ h => h) (by rfl) ?_ ?_;rotate_left;simp only [Act.put, yy_];rfl
               refine pzo_ 27 (some 57) (a' := ?_) (any_of HT_.out (by kernel_rfl)) rfl rfl (fun _ _ _ h => h) (by rfl) ?_ ?_;rotate_left;simp only [Act.put, yy_];rfl
               refine pzo_ 28 (some 58) (a' := ?_) (any_of HT_.out (by kernel_rfl)) rfl rfl (fun _ _ _ h => h) (by rfl) ?_ ?_;rotate_left;simp only [Act.put, yy_];rfl
               refine pzo_ 29 (some 59) (a' := ?_) (any_of HT_.out (by kernel_rfl)) rfl rfl (fun _ _ _ h => h) (by rfl) ?_ ?_;rotate_left;simp only [Act.put, yy_];rfl
               refine pzo_ 30 (some 60) (a' := ?_) (any_of HT_.out (by kernel_rfl)) rfl rfl (fun _ _ _ h => h) (by rfl) ?_ ?_;rotate_left;simp only [Act.put, yy_];rfl
               refine pzo_ 31 (some 61) (a' := ?_) (any_of HT_.out (by kernel_rfl)) rfl rfl (fun _ _ _ h => h) (by rfl) ?_ ?_;rotate_left;simp only [Act.put, yy_];rfl
               refine pz_ 32 (some 62) (v := ?_) (a' := ?_) (any_of HT_.out (by kernel_rfl)) rfl rfl (fun _ _ _ h => h) (by rfl) ?_ ?_ ?_;rotate_left;intro w';go_simp;with_reducible rfl;rotate_left;simp only [Act.put, yy_];rfl
               refine pz_ 33 (some 63) (v := ?_) (a' := ?_) (any_of HT_.out (by kernel_rfl)) rfl rfl (fun _ _ _ h => h) (by rfl) ?_ ?_ ?_;rotate_left;intro w';go_simp;with_reducible rfl;rotate_left;simp only [Act.put, yy_];rfl
               refine done_ (done_of HT_.out (by kernel_rfl)) ?_
               try go_wp2
               go_meet
               case rel => exact ⟨_, (false), (by first | rfl | (simp; done) | (simp [*]; done)), H', ⟨by have := HJ39.out; have := HJ74.out; first | omega | exact Nat.le_refl _⟩, ⟨zR_ HO_252001.out⟩, ⟨zR_ HO_252002.out⟩, ⟨zR_ HO_252003.out⟩, ⟨zO_ BK251.out⟩, ⟨zO_ BK253.out⟩, ⟨by repeat (first | (with_reducible first | exact HK.out | apply Kept.alloc | apply Kept.drewN | apply Kept.drew | refine Kept.setCell ?_ (.inl (.inr rfl)) _ | refine Kept.setCell ?_ (.inr GW251.out) _ | refine Kept.setCell ?_ (.inr GW253.out) _) | exact HK.out)⟩, ⟨by repeat (first | (with_reducible first | exact HB.out | apply ba_ | apply bn_ | apply bd_ | refine bs_ ?_ GE251.out | refine bs_ ?_ GE253.out) | exact HB.out)⟩⟩
              rw [if_neg c128] at H
              exact absurd H (by simp)
             rw [if_neg c127] at H
             exact absurd H (by simp)
            rw [if_neg c126] at H
            exact absurd H (by simp)
           rw [if_neg c125] at H
           exact absurd H (by simp)
          rw [if_neg c124] at H
          have c124b0 : (((rd_T26 l1 a0_0).f0) == 9) = false := beq_eq_false_iff_ne.mpr c124
          have c124b1 : (((rd_T26 l1 a0_0).f0) != 9) = true := bne_iff_ne.mpr c124
          (first | rw [c124b0] | (simp only [i64_w, i32_w]; rw [c124b0]) | skip)
          by_cases c137 : ((rd_T26 l1 a0_0).f0) = 10
          ·rw [if_pos c137] at H
           have c137b0 : (((rd_T26 l1 a0_0).f0) == 10) = true := beq_iff_eq.mpr c137
           have c137b1 : (((rd_T26 l1 a0_0).f0) != 10) = false := bne_eq_false_iff_eq.mpr c137
           clear c137
           by_cases c138 : 0 ≤ ((rd_T26 l1 a0_0).f2)
           ·rw [if_pos c138] at H
            have c138b0 : decide (0 ≤ ((rd_T26 l1 a0_0).f2)) = true := decide_eq_true c138
            clear c138
            by_cases c139 : ((rd_T26 l1 a0_0).f2) < (l0_1.length : Int)
            ·rw [if_pos c139] at H
             have c139b0 : decide (((rd_T26 l1 a0_0).f2) < (l0_1.length : Int)) = true := decide_eq_true c139
             clear c139
             by_cases c140 : 0 ≤ ((rd_T26 l1 a0_0).f3)
             ·rw [if_pos c140] at H
              have c140b0 : decide (0 ≤ ((rd_T26 l1 a0_0).f3)) = true := decide_eq_true c140
              clear c140
              by_cases c141 : ((rd_T26 l1 a0_0).f3) < (l0_1.length : Int)
              ·rw [if_pos c141] at H
               have c141b0 : decide (((rd_T26 l1 a0_0).f3) < (l0_1.length : Int)) = true := decide_eq_true c141
               clear c141
               have H' := Aside0.mk H
               clear H
               try go_wp2
               have n0_ := Aside0.mk (Kd.R_drew HO_252001.out)
               have n1_ := Aside0.mk (Kd.R_drew HO_252002.out)
               have n2_ := Aside0.mk (Kd.R_drew HO_252003.out)
               have n3_ := Aside0.mk (blk_drew BK251.out)
               have n4_ := Aside0.mk (blk_drew BK253.out)
               have n5_ := Aside0.mk (Kept.drew HK.out)
               have n6_ := Aside0.mk (below_drew1 HB.out)
               clear HO_252001
               clear HO_252002
               clear HO_252003
               clear BK251
               clear BK253
               clear HK
               clear HB
               have HO_252001 := n0_
               have HO_252002 := n1_
               have HO_252003 := n2_
               have BK251 := n3_
               have BK253 := n4_
               have HK := n5_
               have HB := n6_
               clear n0_ n1_ n2_ n3_ n4_ n5_ n6_
               obtain ⟨Ao143, co143, eo143⟩ := Kd.R_slice HO_252001.out
               (first | subst eo143 | (injection eo143 with f1_ f2_ f3_; have f4_ := f1_.symm; have f5_ := f3_.symm; clear f1_ f2_ f3_; subst f4_; subst f5_))
               have p275 : 0 ≤ (((rd_T26 l1 a0_0).f2) : Int) := dt_
               have q275 : ((rd_T26 l1 a0_0).f2) < (l0_1.length : Int) := dt_
               obtain ⟨ad275, e275, hx275_0⟩ := Kd.at_int (Kd.R_reads' HO_252001.out).2.2 ((rd_T26 l1 a0_0).f2) p275 q275
               cases e275
               replace p275 := eq_true p275
               replace q275 := eq_true q275
               have p276 : 0 ≤ (((rd_T26 l1 a0_0).f3) : Int) := dt_
               have q276 : ((rd_T26 l1 a0_0).f3) < (l0_1.length : Int) := dt_
               obtain ⟨ad276, e276, hx276_0⟩ := Kd.at_int (Kd.R_reads' HO_252001.out).2.2 ((rd_T26 l1 a0_0).f3) p276 q276
               obtain rfl : ad275 = ad276 := (by injection e276)
               replace p276 := eq_true p276
               replace q276 := eq_true q276
               refine start_ (n := 34) (S := fun w' => w'.cell? ⟨gb253, 0, none⟩ = some (.int .i64 ((rd_T26 l1 a0_0).f0)) ∧ w'.cell? ⟨gb253, 1, none⟩ = some (.int .i64 ((rd_T26 l1 a0_0).f1)) ∧ w'.cell? ⟨gb253, 2, none⟩ = some (.int .i64 ((rd_T26 l1 a0_0).f2)) ∧ w'.cell? ⟨gb253, 3, none⟩ = some (.int .i64 ((rd_T26 l1 a0_0).f3)) ∧ w'.cell? ⟨gb253, 4, none⟩ = some (.int .i64 ((rd_T26 l1 a0_0).f4)) ∧ w'.cell? ⟨gb253, 5, none⟩ = some (.int .i64 ((rd_T26 l1 a0_0).f5)) ∧ w'.cell? (ad275.add (((rd_T26 l1 a0_0).f2)).toNat) = some (.int .i64 (rd l0_1 ((rd_T26 l1 a0_0).f2))) ∧ w'.cell? (ad275.add (((rd_T26 l1 a0_0).f3)).toNat) = some (.int .i64 (rd l0_1 ((rd_T26 l1 a0_0).f3)))) (ds := []) #[false, false, false, false, false, false, false, false, false, false, false, false, false, false, false, false, false, false, false, false, false, false, false, false, false, false, false, false, false, false, false, false, false, false] (by kernel_rfl) rfl rfl ⟨(blk_cell BK253.out 0).trans rfl, (blk_cell BK253.out 1).trans rfl, (blk_cell BK253.out 2).trans rfl, (blk_cell BK253.out 3).trans rfl, (blk_cell BK253.out 4).trans rfl, (blk_cell BK253.out 5).trans rfl, hx275_0, hx276_0⟩ (fun hHeld => ?_); refine with_tabW impl_Machine_step.tab5 impl_Machine_step.bits5 (fun HT_ HW_ => ?_)
               generalize wc.drew = w142 at HO_252001 HO_252002 HO_252003 BK251 BK253 HK HB hx275_0 hx276_0 hHeld ⊢
               refine pz_ 0 (some 30) (v := ?_) (a' := ?_) (any_of HT_.out (by kernel_rfl)) rfl rfl (fun _ _ _ h => h) (by rfl) ?_ ?_ ?_;rotate_left;intro w';go_simp;with_reducible rfl;rotate_left;simp only [Act.put, yy_];rfl
               refine tz_ 1 (some 31) (v := ?_) (a' := ?_) (take_ofW HT_.out HW_.out (by kernel_rfl)) rfl rfl (fun _ _ _ h => h) (by rfl) ?_ hHeld ?_ ?_;rotate_left;rintro w' ⟨s0, s1, s2, s3, s4, s5, s6, s7⟩;go_simp;with_reducible rfl;rotate_left;simp only [Act.put, yy_];rfl
               refine pz_ 2 (some 32) (v := ?_) (a' := ?_) (any_of HT_.out (by kernel_rfl)) rfl rfl (fun _ _ _ h => h) (by rfl) ?_ ?_ ?_;rotate_left;intro w';go_simp;with_reducible rfl;rotate_left;simp only [Act.put, yy_];rfl
               refine pz_ 3 (some 33) (v := ?_) (a' := ?_) (any_of HT_.out (by kernel_rfl)) rfl rfl (fun _ _ _ h => h) (by rfl) ?_ ?_ ?_;rotate_left;intro w';go_simp;with_reducible rfl;rotate_left;simp only [Act.put, yy_];rfl
               refine pzo_ 4 (some 34) (a' := ?_) (any_of HT_.out (by kernel_rfl)) rfl rfl (fun _ _ _ h => h) (by rfl) ?_ ?_;rotate_left;simp only [Act.put, yy_];rfl
               refine pzo_ 5 (some 35) (a' := ?_) (any_of HT_.out (by kernel_rfl)) rfl rfl (fun _ _ _ h => h) (by rfl) ?_ ?_;rotate_left;simp only [Act.put, yy_];rfl
               refine pzo_ 6 (some 36) (a' := ?_) (any_of HT_.out (by kernel_rfl)) rfl rfl (fun _ _ _ h => h) (by rfl) ?_ ?_;rotate_left;simp only [Act.put, yy_];rfl
               refine pzo_ 7 (some 37) (a' := ?_) (any_of HT_.out (by kernel_rfl)) rfl rfl (fun _ _ _ h => h) (by rfl) ?_ ?_;rotate_left;simp only [Act.put, yy_];rfl
               refine pzo_ 8 (some 38) (a' := ?_) (any_of HT_.out (by kernel_rfl)) rfl rfl (fun _ _ _ h => h) (by rfl) ?_ ?_;rotate_left;simp only [Act.put, yy_];rfl
               refine pzo_ 9 (some 39) (a' := ?_) (any_of HT_.out (by kernel_rfl)) rfl rfl (fun _ _ _ h => h) (by rfl) ?_ ?_;rotate_left;simp only [Act.put, yy_];rfl
               refine pzo_ 10 (some 40) (a' := ?_) (any_of HT_.out (by kernel_rfl)) rfl rfl (fun _ _ _ h => h) (by rfl) ?_ ?_;rotate_left;simp only [Act.put, yy_];rfl
               refine pzo_ 11 (some 41) (a' := ?_) (any_of HT_.out (by kernel_rfl)) rfl rfl (fun _ _ _ h => h) (by rfl) ?_ ?_;rotate_left;simp only [Act.put, yy_];rfl
               refine pzo_ 12 (some 42) (a' := ?_) (any_of HT_.out (by kernel_rfl)) rfl rfl (fun _ _ _ h => h) (by rfl) ?_ ?_;rotate_left;simp only [Act.put, yy_];rfl
               refine pzo_ 13 (some 43) (a' := ?_) (any_of HT_.out (by kernel_rfl)) rfl rfl (fun _ _ _ h => h) (by rfl) ?_ ?_;rotate_left;simp only [Act.put, yy_];rfl
               refine pzo_ 14 (some 44) (a' := ?_) (any_of HT_.out (by kernel_rfl)) rfl rfl (fun _ _ _ h => h) (by rfl) ?_ ?_;rotate_left;simp only [Act.put, yy_];rfl
               refine pz_ 15 (some 45) (v := ?_) (a' := ?_) (any_of HT_.out (by kernel_rfl)) rfl rfl (fun _ _ _ h => h) (by rfl) ?_ ?_ ?_;rotate_left;intro w';go_simp;with_reducible rfl;rotate_left;simp only [Act.put, yy_];rfl
               refine pz_ 16 (some 46) (v := ?_) (a' := ?_) (any_of HT_.out (by kernel_rfl)) rfl rfl (fun _ _ _ h => h) (by rfl) ?_ ?_ ?_;rotate_left;intro w';go_simp;with_reducible rfl;rotate_left;simp only [Act.put, yy_];rfl
               refine pz_ 17 (some 47) (v := ?_) (a' := ?_) (any_of HT_.out (by kernel_rfl)) rfl rfl (fun _ _ _ h => h) (by rfl) ?_ ?_ ?_;rotate_left;intro w';go_simp;with_reducible rfl;rotate_left;simp only [Act.put, yy_];rfl
               refine tz_ 18 (some 48) (v := ?_) (a' := ?_) (take_ofW HT_.out HW_.out (by kernel_rfl)) rfl rfl (fun _ _ _ h => h) (by rfl) ?_ hHeld ?_ ?_;rotate_left;rintro w' ⟨s0, s1, s2, s3, s4, s5, s6, s7⟩;go_simp;with_reducible rfl;rotate_left;simp only [Act.put, yy_];rfl
               refine pz_ 19 (some 49) (v := ?_) (a' := ?_) (any_of HT_.out (by kernel_rfl)) rfl rfl (fun _ _ _ h => h) (by rfl) ?_ ?_ ?_;rotate_left;intro w';go_simp;with_reducible rfl;rotate_left;simp only [Act.put, yy_];rfl
               refine pz_ 20 (some 50) (v := ?_) (a' := ?_) (any_of HT_.out (by kernel_rfl)) rfl rfl (fun _ _ _ h => h) (by rfl) ?_ ?_ ?_;rotate_left;intro w';go_simp;with_reducible rfl;rotate_left;simp only [Act.put, yy_];rfl
               refine pz_ 21 (some 51) (v := ?_) (a' := ?_) (any_of HT_.out (by kernel_rfl)) rfl rfl (fun _ _ _ h => h) (by rfl) ?_ ?_ ?_;rotate_left;intro w';go_simp;with_reducible rfl;rotate_left;simp only [Act.put, yy_];rfl
               refine pz_ 22 (some 52) (v := ?_) (a' := ?_) (any_of HT_.out (by kernel_rfl)) rfl rfl (fun _ _ _ h => h) (by rfl) ?_ ?_ ?_;rotate_left;intro w';go_simp;with_reducible rfl;rotate_left;simp only [Act.put, yy_];rfl
               refine pz_ 26 (some 56) (v := ?_) (a' := ?_) (any_of HT_.out (by kernel_rfl)) rfl rfl (fun _ _ _ h => h) (by rfl) ?_ ?_ ?_;rotate_left;intro w';go_simp;with_reducible rfl;rotate_left;simp only [Act.put, yy_];rfl
               refine pz_ 27 (some 57) (v := ?_) (a' := ?_) (any_of HT_.out (by kernel_rfl)) rfl rfl (fun _ _ _ h => h) (by rfl) ?_ ?_ ?_;rotate_left;intro w';go_simp;with_reducible rfl;rotate_left;simp only [Act.put, yy_];rfl
               refine tz_ 23 (some 53) (v := ?_) (a' := ?_) (take_ofW HT_.out HW_.out (by kernel_rfl)) rfl rfl (fun _ _ _ h => h) (by rfl) ?_ hHeld ?_ ?_;rotate_left;rintro w' ⟨s0, s1, s2, s3, s4, s5, s6, s7⟩;go_simp;with_reducible rfl;rotate_left;simp only [Act.put, yy_];rfl
               refine pz_ 24 (some 54) (v := ?_) (a' := ?_) (any_of HT_.out (by kernel_rfl)) rfl rfl (fun _ _ _ h => h) (by rfl) ?_ ?_ ?_;rotate_left;intro w';go_simp;with_reducible rfl;rotate_left;simp only [Act.put, yy_];rfl
               refine tz_ 25 (some 55) (v := ?_) (a' := ?_) (take_ofW HT_.out HW_.out (by kernel_rfl)) rfl rfl (fun _ _ _ h => h) (by rfl) ?_ hHeld ?_ ?_;rotate_left;rintro w' ⟨s0, s1, s2, s3, s4, s5, s6, s7⟩;go_simp;with_reducible rfl;rotate_left;simp only [Act.put, yy_];rfl
               refine tz_ 28 (some 58) (v := ?_) (a' := ?_) (take_ofW HT_.out HW_.out (by kernel_rfl)) rfl rfl (fun _ _ _ h => h) (by rfl) ?_ hHeld ?_ ?_;rotate_left;rintro w' ⟨s0, s1, s2, s3, s4, s5, s6, s7⟩;go_simp;with_reducible rfl;rotate_left;simp only [Act.put, yy_];rfl
               refine pz_ 29 (some 59) (v := ?_) (a' := ?_) (any_of HT_.out (by kernel_rfl)) rfl rfl (fun _ _ _ h => h) (by rfl) ?_ ?_ ?_;rotate_left;intro w';go_simp;with_reducible rfl;rotate_left;simp only [Act.put, yy_];rfl
               refine tz_ 30 (some 60) (v := ?_) (a' := ?_) (take_ofW HT_.out HW_.out (by kernel_rfl)) rfl rfl (fun _ _ _ h => h) (by rfl) ?_ hHeld ?_ ?_;rotate_left;rintro w' ⟨s0, s1, s2, s3, s4, s5, s6, s7⟩;go_simp;with_reducible rfl;rotate_left;simp only [Act.put, yy_];rfl
               refine pz_ 31 (some 61) (v := ?_) (a' := ?_) (any_of HT_.out (by kernel_rfl)) rfl rfl (fun _ _ _ h => h) (by rfl) ?_ ?_ ?_;rotate_left;intro w';go_simp;with_reducible rfl;rotate_left;simp only [Act.put, yy_];rfl
               refine pz_ 32 (some 62) (v := ?_) (a' := ?_) (any_of HT_.out (by kernel_rfl)) rfl rfl (fun _ _ _ h => h) (by rfl) ?_ ?_ ?_;rotate_left;intro w';go_simp;with_reducible rfl;rotate_left;simp only [Act.put, yy_];rfl
               refine pz_ 33 (some 63) (v := ?_) (a' := ?_) (any_of HT_.out (by kernel_rfl)) rfl rfl (fun _ _ _ h => h) (by rfl) ?_ ?_ ?_;rotate_left;intro w';go_simp;with_reducible rfl;rotate_left;simp only [Act.put, yy_];rfl
               refine done_ (done_of HT_.out (by kernel_rfl)) ?_
               try go_wp2
               go_meet
               case rel => exact ⟨_, (decide ((rd l0_1 ((rd_T26 l1 a0_0).f2)) < (rd l0_1 ((rd_T26 l1 a0_0).f3)))), (by first | rfl | (simp; done) | (simp [*]; done)), H', ⟨by have := HJ39.out; have := HJ74.out; first | omega | exact Nat.le_refl _⟩, ⟨zR_ HO_252001.out⟩, ⟨zR_ HO_252002.out⟩, ⟨zR_ HO_252003.out⟩, ⟨zO_ BK251.out⟩, ⟨zO_ BK253.out⟩, ⟨by repeat (first | (with_reducible first | exact HK.out | apply Kept.alloc | apply Kept.drewN | apply Kept.drew | refine Kept.setCell ?_ (.inl (.inr rfl)) _ | refine Kept.setCell ?_ (.inr GW251.out) _ | refine Kept.setCell ?_ (.inr GW253.out) _) | exact HK.out)⟩, ⟨by repeat (first | (with_reducible first | exact HB.out | apply ba_ | apply bn_ | apply bd_ | refine bs_ ?_ GE251.out | refine bs_ ?_ GE253.out) | exact HB.out)⟩⟩
              rw [if_neg c141] at H
              exact absurd H (by simp)
             rw [if_neg c140] at H
             exact absurd H (by simp)
            rw [if_neg c139] at H
            exact absurd H (by simp)
           rw [if_neg c138] at H
           exact absurd H (by simp)
          rw [if_neg c137] at H
          have c137b0 : (((rd_T26 l1 a0_0).f0) == 10) = false := beq_eq_false_iff_ne.mpr c137
          have c137b1 : (((rd_T26 l1 a0_0).f0) != 10) = true := bne_iff_ne.mpr c137
          have H' := Aside0.mk H
          clear H
          try go_wp2
          have n0_ := Aside0.mk (Kd.R_drew HO_252001.out)
          have n1_ := Aside0.mk (Kd.R_drew HO_252002.out)
          have n2_ := Aside0.mk (Kd.R_drew HO_252003.out)
          have n3_ := Aside0.mk (blk_drew BK251.out)
          have n4_ := Aside0.mk (blk_drew BK253.out)
          have n5_ := Aside0.mk (Kept.drew HK.out)
          have n6_ := Aside0.mk (below_drew1 HB.out)
          clear HO_252001
          clear HO_252002
          clear HO_252003
          clear BK251
          clear BK253
          clear HK
          clear HB
          have HO_252001 := n0_
          have HO_252002 := n1_
          have HO_252003 := n2_
          have BK251 := n3_
          have BK253 := n4_
          have HK := n5_
          have HB := n6_
          clear n0_ n1_ n2_ n3_ n4_ n5_ n6_
          refine start_ (n := 34) (S := fun w' => w'.cell? ⟨gb253, 0, none⟩ = some (.int .i64 ((rd_T26 l1 a0_0).f0)) ∧ w'.cell? ⟨gb253, 1, none⟩ = some (.int .i64 ((rd_T26 l1 a0_0).f1)) ∧ w'.cell? ⟨gb253, 2, none⟩ = some (.int .i64 ((rd_T26 l1 a0_0).f2)) ∧ w'.cell? ⟨gb253, 3, none⟩ = some (.int .i64 ((rd_T26 l1 a0_0).f3)) ∧ w'.cell? ⟨gb253, 4, none⟩ = some (.int .i64 ((rd_T26 l1 a0_0).f4)) ∧ w'.cell? ⟨gb253, 5, none⟩ = some (.int .i64 ((rd_T26 l1 a0_0).f5))) (ds := []) #[false, false, false, false, false, false, false, false, false, false, false, false, false, false, false, false, false, false, false, false, false, false, false, false, false, false, false, false, false, false, false, false, false, false] (by kernel_rfl) rfl rfl ⟨(blk_cell BK253.out 0).trans rfl, (blk_cell BK253.out 1).trans rfl, (blk_cell BK253.out 2).trans rfl, (blk_cell BK253.out 3).trans rfl, (blk_cell BK253.out 4).trans rfl, (blk_cell BK253.out 5).trans rfl⟩ (fun hHeld => ?_); refine with_tabW impl_Machine_step.tab5 impl_Machine_step.bits5 (fun HT_ HW_ => ?_)
          generalize wc.drew = w144 at HO_252001 HO_252002 HO_252003 BK251 BK253 HK HB hHeld ⊢
          refine pz_ 0 (some 30) (v := ?_) (a' := ?_) (any_of HT_.out (by kernel_rfl)) rfl rfl (fun _ _ _ h => h) (by rfl) ?_ ?_ ?_;rotate_left;intro w';go_simp;with_reducible rfl;rotate_left;simp only [Act.put, yy_];rfl
          refine tz_ 1 (some 31) (v := ?_) (a' := ?_) (take_ofW HT_.out HW_.out (by kernel_rfl)) rfl rfl (fun _ _ _ h => h) (by rfl) ?_ hHeld ?_ ?_;rotate_left;rintro w' ⟨s0, s1, s2, s3, s4, s5⟩;go_simp;with_reducible rfl;rotate_left;simp only [Act.put, yy_];rfl
          refine pz_ 2 (some 32) (v := ?_) (a' := ?_) (any_of HT_.out (by kernel_rfl)) rfl rfl (fun _ _ _ h => h) (by rfl) ?_ ?_ ?_;rotate_left;intro w';go_simp;with_reducible rfl;rotate_left;simp only [Act.put, yy_];rfl
          refine pz_ 3 (some 33) (v := ?_) (a' := ?_) (any_of HT_.out (by kernel_rfl)) rfl rfl (fun _ _ _ h => h) (by rfl) ?_ ?_ ?_;rotate_left;intro w';go_simp;with_reducible rfl;rotate_left;simp only [Act.put, yy_];rfl
          refine pzo_ 4 (some 34) (a' := ?_) (any_of HT_.out (by kernel_rfl)) rfl rfl (fun _ _ _ h => h) (by rfl) ?_ ?_;rotate_left;simp only [Act.put, yy_];rfl
          refine pzo_ 5 (some 35) (a' := ?_) (any_of HT_.out (by kernel_rfl)) rfl rfl (fun _ _ _ h => h) (by rfl) ?_ ?_;rotate_left;simp only [Act.put, yy_];rfl
          refine pzo_ 6 (some 36) (a' := ?_) (any_of HT_.out (by kernel_rfl)) rfl rfl (fun _ _ _ h => h) (by rfl) ?_ ?_;rotate_left;simp only [Act.put, yy_];rfl
          refine pzo_ 7 (some 37) (a' := ?_) (any_of HT_.out (by kernel_rfl)) rfl rfl (fun _ _ _ h => h) (by rfl) ?_ ?_;rotate_left;simp only [Act.put, yy_];rfl
          refine pzo_ 8 (some 38) (a' := ?_) (any_of HT_.out (by kernel_rfl)) rfl rfl (fun _ _ _ h => h) (by rfl) ?_ ?_;rotate_left;simp only [Act.put, yy_];rfl
          refine pzo_ 9 (some 39) (a' := ?_) (any_of HT_.out (by kernel_rfl)) rfl rfl (fun _ _ _ h => h) (by rfl) ?_ ?_;rotate_left;simp only [Act.put, yy_];rfl
          refine pzo_ 10 (some 40) (a' := ?_) (any_of HT_.out (by kernel_rfl)) rfl rfl (fun _ _ _ h => h) (by rfl) ?_ ?_;rotate_left;simp only [Act.put, yy_];rfl
          refine pzo_ 11 (some 41) (a' := ?_) (any_of HT_.out (by kernel_rfl)) rfl rfl (fun _ _ _ h => h) (by rfl) ?_ ?_;rotate_left;simp only [Act.put, yy_];rfl
          refine pzo_ 12 (some 42) (a' := ?_) (any_of HT_.out (by kernel_rfl)) rfl rfl (fun _ _ _ h => h) (by rfl) ?_ ?_;rotate_left;simp only [Act.put, yy_];rfl
          refine pzo_ 13 (some 43) (a' := ?_) (any_of HT_.out (by kernel_rfl)) rfl rfl (fun _ _ _ h => h) (by rfl) ?_ ?_;rotate_left;simp only [Act.put, yy_];rfl
          refine pzo_ 14 (some 44) (a' := ?_) (any_of HT_.out (by kernel_rfl)) rfl rfl (fun _ _ _ h => h) (by rfl) ?_ ?_;rotate_left;simp only [Act.put, yy_];rfl
          refine pz_ 15 (some 45) (v := ?_) (a' := ?_) (any_of HT_.out (by kernel_rfl)) rfl rfl (fun _ _ _ h => h) (by rfl) ?_ ?_ ?_;rotate_left;intro w';go_simp;with_reducible rfl;rotate_left;simp only [Act.put, yy_];rfl
          refine pz_ 16 (some 46) (v := ?_) (a' := ?_) (any_of HT_.out (by kernel_rfl)) rfl rfl (fun _ _ _ h => h) (by rfl) ?_ ?_ ?_;rotate_left;intro w';go_simp;with_reducible rfl;rotate_left;simp only [Act.put, yy_];rfl
          refine pz_ 17 (some 47) (v := ?_) (a' := ?_) (any_of HT_.out (by kernel_rfl)) rfl rfl (fun _ _ _ h => h) (by rfl) ?_ ?_ ?_;rotate_left;intro w';go_simp;with_reducible rfl;rotate_left;simp only [Act.put, yy_];rfl
          refine tz_ 18 (some 48) (v := ?_) (a' := ?_) (take_ofW HT_.out HW_.out (by kernel_rfl)) rfl rfl (fun _ _ _ h => h) (by rfl) ?_ hHeld ?_ ?_;rotate_left;rintro w' ⟨s0, s1, s2, s3, s4, s5⟩;go_simp;with_reducible rfl;rotate_left;simp only [Act.put, yy_];rfl
          refine pz_ 19 (some 49) (v := ?_) (a' := ?_) (any_of HT_.out (by kernel_rfl)) rfl rfl (fun _ _ _ h => h) (by rfl) ?_ ?_ ?_;rotate_left;intro w';go_simp;with_reducible rfl;rotate_left;simp only [Act.put, yy_];rfl
          refine pz_ 20 (some 50) (v := ?_) (a' := ?_) (any_of HT_.out (by kernel_rfl)) rfl rfl (fun _ _ _ h => h) (by rfl) ?_ ?_ ?_;rotate_left;intro w';go_simp;with_reducible rfl;rotate_left;simp only [Act.put, yy_];rfl
          refine pzo_ 21 (some 51) (a' := ?_) (any_of HT_.out (by kernel_rfl)) rfl rfl (fun _ _ _ h => h) (by rfl) ?_ ?_;rotate_left;simp only [Act.put, yy_];rfl
          refine pzo_ 22 (some 52) (a' := ?_) (any_of HT_.out (by kernel_rfl)) rfl rfl (fun _ _ _ h => h) (by rfl) ?_ ?_;rotate_left;simp only [Act.put, yy_];rfl
          refine pzo_ 23 (some 53) (a' := ?_) (any_of HT_.out (by kernel_rfl)) rfl rfl (fun _ _ _ h => h) (by rfl) ?_ ?_;rotate_left;simp only [Act.put, yy_];rfl
          refine pzo_ 24 (some 54) (a' := ?_) (any_of HT_.out (by kernel_rfl)) rfl rfl (fun _ _ _ h => h) (by rfl) ?_ ?_;rotate_left;simp only [Act.put, yy_];rfl
          refine pzo_ 25 (some 55) (a' := ?_) (any_of HT_.out (by kernel_rfl)) rfl rfl (fun _ _ _ h => h) (by rfl) ?_ ?_;rotate_left;simp only [Act.put, yy_];rfl
          refine pzo_ 26 (some 56) (a' := ?_) (any_of HT_.out (by kernel_rfl)) rfl rfl (fun _ _ _ h => h) (by rfl) ?_ ?_;rotate_left;simp only [Act.put, yy_];rfl
          refine pzo_ 27 (some 57) (a' := ?_) (any_of HT_.out (by kernel_rfl)) rfl rfl (fun _ _ _ h => h) (by rfl) ?_ ?_;rotate_left;simp only [Act.put, yy_];rfl
          refine pzo_ 28 (some 58) (a' := ?_) (any_of HT_.out (by kernel_rfl)) rfl rfl (fun _ _ _ h => h) (by rfl) ?_ ?_;rotate_left;simp only [Act.put, yy_];rfl
          refine pzo_ 29 (some 59) (a' := ?_) (any_of HT_.out (by kernel_rfl)) rfl rfl (fun _ _ _ h => h) (by rfl) ?_ ?_;rotate_left;simp only [Act.put, yy_];rfl
          refine pzo_ 30 (some 60) (a' := ?_) (any_of HT_.out (by kernel_rfl)) rfl rfl (fun _ _ _ h => h) (by rfl) ?_ ?_;rotate_left;simp only [Act.put, yy_];rfl
          refine pzo_ 31 (some 61) (a' := ?_) (any_of HT_.out (by kernel_rfl)) rfl rfl (fun _ _ _ h => h) (by rfl) ?_ ?_;rotate_left;simp only [Act.put, yy_];rfl
          refine pz_ 32 (some 62) (v := ?_) (a' := ?_) (any_of HT_.out (by kernel_rfl)) rfl rfl (fun _ _ _ h => h) (by rfl) ?_ ?_ ?_;rotate_left;intro w';go_simp;with_reducible rfl;rotate_left;simp only [Act.put, yy_];rfl
          refine pz_ 33 (some 63) (v := ?_) (a' := ?_) (any_of HT_.out (by kernel_rfl)) rfl rfl (fun _ _ _ h => h) (by rfl) ?_ ?_ ?_;rotate_left;intro w';go_simp;with_reducible rfl;rotate_left;simp only [Act.put, yy_];rfl
          refine done_ (done_of HT_.out (by kernel_rfl)) ?_
          try go_wp2
          go_meet
          case rel => exact ⟨_, (false), (by first | rfl | (simp; done) | (simp [*]; done)), H', ⟨by have := HJ39.out; have := HJ74.out; first | omega | exact Nat.le_refl _⟩, ⟨zR_ HO_252001.out⟩, ⟨zR_ HO_252002.out⟩, ⟨zR_ HO_252003.out⟩, ⟨zO_ BK251.out⟩, ⟨zO_ BK253.out⟩, ⟨by repeat (first | (with_reducible first | exact HK.out | apply Kept.alloc | apply Kept.drewN | apply Kept.drew | refine Kept.setCell ?_ (.inl (.inr rfl)) _ | refine Kept.setCell ?_ (.inr GW251.out) _ | refine Kept.setCell ?_ (.inr GW253.out) _) | exact HK.out)⟩, ⟨by repeat (first | (with_reducible first | exact HB.out | apply ba_ | apply bn_ | apply bd_ | refine bs_ ?_ GE251.out | refine bs_ ?_ GE253.out) | exact HB.out)⟩⟩
         case rest => as_aux_lemma =>
          clear HC123
          obtain ⟨kq, x63_122, rfl, HA, HJ122, HO_252001, HO_252002, HO_252003, BK251, BK253, HK, HB⟩ := hcut
          cases kq with
          | zero => exact absurd HA.out (by simp [impl_Machine_step.j2])
          | succ kj122 =>
           have H := HA.out
           clear HA
           simp only [impl_Machine_step.j2] at H
           by_cases c145 : x63_122 = true
           ·subst c145
            have H1 : (some (0, false, wrap64 ((wrap64 (a0_0 + 1)) + ((rd_T26 l1 a0_0).f5)), l0_1, l0_2, l0_3)) = some (r1, r2, r3, r4, r5, r6) := by rw [if_pos rfl] at H; exact H
            clear H
            have H := H1
            clear H1
            simp only [Option.some.injEq, Prod.mk.injEq] at H
            obtain ⟨rfl, rfl, rfl, rfl, rfl, rfl⟩ := H
            have hnb146 := NB253_251.out
            have hnc146 := NB251_253.out
            have hcz147_0 : wc.cell? ⟨gb253, 0, none⟩ = some (.int .i64 ((rd_T26 l1 a0_0).f0)) := (blk_cell BK253.out 0).trans rfl
            have hcz147_1 : wc.cell? ⟨gb253, 1, none⟩ = some (.int .i64 ((rd_T26 l1 a0_0).f1)) := (blk_cell BK253.out 1).trans rfl
            have hcz147_2 : wc.cell? ⟨gb253, 2, none⟩ = some (.int .i64 ((rd_T26 l1 a0_0).f2)) := (blk_cell BK253.out 2).trans rfl
            have hcz147_3 : wc.cell? ⟨gb253, 3, none⟩ = some (.int .i64 ((rd_T26 l1 a0_0).f3)) := (blk_cell BK253.out 3).trans rfl
            have hcz147_4 : wc.cell? ⟨gb253, 4, none⟩ = some (.int .i64 ((rd_T26 l1 a0_0).f4)) := (blk_cell BK253.out 4).trans rfl
            have hcz147_5 : wc.cell? ⟨gb253, 5, none⟩ = some (.int .i64 ((rd_T26 l1 a0_0).f5)) := (blk_cell BK253.out 5).trans rfl
            have hfz147_0 := blk_frozen BK253.out 0
            have hfz147_1 := blk_frozen BK253.out 1
            have hfz147_2 := blk_frozen BK253.out 2
            have hfz147_3 := blk_frozen BK253.out 3
            have hfz147_4 := blk_frozen BK253.out 4
            have hfz147_5 := blk_frozen BK253.out 5
            have hcz148_0 : wc.cell? ⟨g, 0, none⟩ = some (.int .i64 a0_0) := (blk_cell BK251.out 0).trans rfl
            have hcz148_1 : wc.cell? ⟨g, 1, none⟩ = some (u9000_) := (blk_cell BK251.out 1).trans rfl
            have hcz148_2 : wc.cell? ⟨g, 2, none⟩ = some (u9001_) := (blk_cell BK251.out 2).trans rfl
            have hcz148_3 : wc.cell? ⟨g, 3, none⟩ = some (u9002_) := (blk_cell BK251.out 3).trans rfl
            have hfz148_0 := blk_frozen BK251.out 0
            have hfz148_1 := blk_frozen BK251.out 1
            have hfz148_2 := blk_frozen BK251.out 2
            have hfz148_3 := blk_frozen BK251.out 3
            go_wp2
            go_ret2
            exact ⟨by first | rfl | (simp <;> rfl) | (simp [*] <;> rfl), (by (with_reducible repeat (first | refine on_ ?_ _ | refine od_ ?_ | refine oa_ ?_ _)); refine blk_put (cs := #[.int .i64 a0_0, u9000_, u9001_, u9002_]) ?_ 0 _ rfl; (with_reducible repeat (first | refine on_ ?_ _ | refine od_ ?_ | refine oa_ ?_ _)); exact BK251.out), by (with_reducible repeat (first | apply Ra_ | apply Rn_ | apply Rd_)); exact Kd.R_mono (Kd.R_far (p := ⟨g, 0, none⟩) (Kd.R_types HO_252001.out BK251.out (by decide)) (fun _ hk => hk.2) (.int .i64 (wrap64 ((wrap64 (a0_0 + 1)) + ((rd_T26 l1 a0_0).f5))))) (fun _ hk => hk.1.1), by (with_reducible repeat (first | apply Ra_ | apply Rn_ | apply Rd_)); exact Kd.R_mono (Kd.R_far (p := ⟨g, 0, none⟩) (Kd.R_types HO_252002.out BK251.out (by decide)) (fun _ hk => hk.2) (.int .i64 (wrap64 ((wrap64 (a0_0 + 1)) + ((rd_T26 l1 a0_0).f5))))) (fun _ hk => hk.1.1), by (with_reducible repeat (first | apply Ra_ | apply Rn_ | apply Rd_)); exact Kd.R_mono (Kd.R_far (p := ⟨g, 0, none⟩) (Kd.R_types HO_252003.out BK251.out (by decide)) (fun _ hk => hk.2) (.int .i64 (wrap64 ((wrap64 (a0_0 + 1)) + ((rd_T26 l1 a0_0).f5))))) (fun _ hk => hk.1), by repeat (first | (with_reducible first | exact HB.out | apply ba_ | apply bn_ | apply bd_ | refine bs_ ?_ GE251.out | refine bs_ ?_ GE253.out) | exact HB.out), by repeat (first | (with_reducible first | exact HK.out | apply Kept.alloc | apply Kept.drewN | apply Kept.drew | refine Kept.setCell ?_ (.inl (.inr rfl)) _ | refine Kept.setCell ?_ (.inr GW251.out) _ | refine Kept.setCell ?_ (.inr GW253.out) _) | exact HK.out)⟩
           ·replace c145 := Bool.eq_false_iff.mpr c145
            subst c145
            have H1 : (some (0, false, (wrap64 (a0_0 + 1)), l0_1, l0_2, l0_3)) = some (r1, r2, r3, r4, r5, r6) := by rw [if_neg (show ¬ (false = true) by decide)] at H; exact H
            clear H
            have H := H1
            clear H1
            simp only [Option.some.injEq, Prod.mk.injEq] at H
            obtain ⟨rfl, rfl, rfl, rfl, rfl, rfl⟩ := H
            have hnb149 := NB251_253.out
            have hnc149 := NB253_251.out
            have hcz150_0 : wc.cell? ⟨g, 0, none⟩ = some (.int .i64 a0_0) := (blk_cell BK251.out 0).trans rfl
            have hcz150_1 : wc.cell? ⟨g, 1, none⟩ = some (u9000_) := (blk_cell BK251.out 1).trans rfl
            have hcz150_2 : wc.cell? ⟨g, 2, none⟩ = some (u9001_) := (blk_cell BK251.out 2).trans rfl
            have hcz150_3 : wc.cell? ⟨g, 3, none⟩ = some (u9002_) := (blk_cell BK251.out 3).trans rfl
            have hfz150_0 := blk_frozen BK251.out 0
            have hfz150_1 := blk_frozen BK251.out 1
            have hfz150_2 := blk_frozen BK251.out 2
            have hfz150_3 := blk_frozen BK251.out 3
            go_wp2
            go_ret2
            exact ⟨by first | rfl | (simp <;> rfl) | (simp [*] <;> rfl), (by (with_reducible repeat (first | refine on_ ?_ _ | refine od_ ?_ | refine oa_ ?_ _)); refine blk_put (cs := #[.int .i64 a0_0, u9000_, u9001_, u9002_]) ?_ 0 _ rfl; (with_reducible repeat (first | refine on_ ?_ _ | refine od_ ?_ | refine oa_ ?_ _)); exact BK251.out), by (with_reducible repeat (first | apply Ra_ | apply Rn_ | apply Rd_)); exact Kd.R_mono (Kd.R_far (p := ⟨g, 0, none⟩) (Kd.R_types HO_252001.out BK251.out (by decide)) (fun _ hk => hk.2) (.int .i64 (wrap64 (a0_0 + 1)))) (fun _ hk => hk.1.1), by (with_reducible repeat (first | apply Ra_ | apply Rn_ | apply Rd_)); exact Kd.R_mono (Kd.R_far (p := ⟨g, 0, none⟩) (Kd.R_types HO_252002.out BK251.out (by decide)) (fun _ hk => hk.2) (.int .i64 (wrap64 (a0_0 + 1)))) (fun _ hk => hk.1.1), by (with_reducible repeat (first | apply Ra_ | apply Rn_ | apply Rd_)); exact Kd.R_mono (Kd.R_far (p := ⟨g, 0, none⟩) (Kd.R_types HO_252003.out BK251.out (by decide)) (fun _ hk => hk.2) (.int .i64 (wrap64 (a0_0 + 1)))) (fun _ hk => hk.1), by repeat (first | (with_reducible first | exact HB.out | apply ba_ | apply bn_ | apply bd_ | refine bs_ ?_ GE251.out | refine bs_ ?_ GE253.out) | exact HB.out), by repeat (first | (with_reducible first | exact HK.out | apply Kept.alloc | apply Kept.drewN | apply Kept.drew | refine Kept.setCell ?_ (.inl (.inr rfl)) _ | refine Kept.setCell ?_ (.inr GW251.out) _ | refine Kept.setCell ?_ (.inr GW253.out) _) | exact HK.out)⟩
  rw [if_neg c5] at H
  exact absurd H (by simp)
 rw [if_neg c4] at H
 exact absurd H (by simp)
end Go.Proofs.Ytjopmdogdmdanaa.PFnExactTraceOf
-- squeezed
