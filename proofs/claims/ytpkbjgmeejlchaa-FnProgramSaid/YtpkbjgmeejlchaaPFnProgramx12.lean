-- Made by a program of this session (wip/tools), which leans on the kit's print: checked by Lean alone.
import Derived.Test.YtpkbjgmeejlchaaPFnProgramx0
import Derived.Test.YtpkbjgmeejlchaaPFnProgramx4
import Derived.Test.YtpkbjgmeejlchaaPFnProgramx5
import Derived.Test.YtpkbjgmeejlchaaPFnProgramx8
import Derived.Test.YtpkbjgmeejlchaaPFnProgramx9
import Derived.Test.YtpkbjgmeejlchaaPFnProgramx10
import Derived.Test.YtpkbjgmeejlchaaPFnProgramx11
namespace Go.Proofs.Ytpkbjgmeejlchaa.PFnProgram
open Go.RowKit Go.Proofs.YtpkbjgmeejlchaaW.PrintWords Go.Proofs.YtpkbjgmeejlchaaW.PrintLast Go.Proofs.YtpkbjgmeejlchaaW.PrintMore
attribute [local go_sem] max2_int min2_int max_two min_two max_three min_three max_four min_four   -- for this text's walks alone
set_option linter.unusedVariables false
set_option linter.unusedSimpArgs false
mutual
def laws_FnProgram.j0 : Nat → List Int → List (S48) → ByteArray → Bool → Bool → Option (Bool)
 | 0, _, _, _, _, _ => none
 | k + 1, x1, x5, x6, x7, x59 => if x59 = true then (none) else (if x7 = true then ((impl_ReadProgram.f k x6).bind fun bt365 => ((impl_SlotsOf.f k x5).bind fun bt370 => (if bt365.2.2 = true then (if bt365.2.1 = 0 then ((laws_sameSteps.f k bt365.1 x5).bind fun t374 => (if t374 = true then (laws_FnProgram.j1 k x1 x5 x6 bt370.1 (!bt370.2)) else (laws_FnProgram.j1 k x1 x5 x6 bt370.1 true))) else (laws_FnProgram.j1 k x1 x5 x6 bt370.1 true)) else (laws_FnProgram.j1 k x1 x5 x6 bt370.1 true)))) else (laws_FnProgram.j3 k x1))
def laws_FnProgram.j3 : Nat → List Int → Option (Bool)
 | 0, _ => none
 | k + 1, x1 => (spec_DrawReadProgram.f k x1).bind fun t379 => ((impl_ReadProgram.f k t379).bind fun bt380 => ((spec_ReadProgram.f k t379).bind fun bt385 => (if (bt380.2.2 != bt385.2.2) = true then (laws_FnProgram.j4 k t379 bt380.1 bt380.2.2 true) else (if bt380.2.1 = bt385.2.1 then ((laws_sameSteps.f k bt380.1 bt385.1).bind fun t390 => (laws_FnProgram.j4 k t379 bt380.1 bt380.2.2 (!t390))) else (laws_FnProgram.j4 k t379 bt380.1 bt380.2.2 true)))))
def laws_FnProgram.j4 : Nat → ByteArray → List (S48) → Bool → Bool → Option (Bool)
 | 0, _, _, _, _ => none
 | k + 1, x19, x20, x22, x165 => if x165 = true then (none) else (if x22 = true then ((impl_ProgramBytes.f k x20).bind fun bt391 => (if bt391.2 = true then (some (bt391.1.toList == x19.toList)) else (none))) else (some true))
def laws_FnProgram.j1 : Nat → List Int → List (S48) → ByteArray → List Int → Bool → Option (Bool)
 | 0, _, _, _, _, _ => none
 | k + 1, x1, x5, x6, x13, x87 => if x87 = true then (none) else (if (x13.length : Int) > (x5.length : Int) then (none) else (laws_FnProgram.l0 k x1 x5 x6 x13 (x13.length : Int) 0))
def laws_FnProgram.l0 : Nat → List Int → List (S48) → ByteArray → List Int → Int → Int → Option (Bool)
 | 0, _, _, _, _, _, _ => none
 | k + 1, x1, x5, x6, x93, x94, x95 => if x95 < x94 then (if 0 ≤ x95 then (if x95 < (x93.length : Int) then (if x95 < (x5.length : Int) then ((impl_StepBytes.f k ((rd_T48 x5 x95).f0) ((rd_T48 x5 x95).f1) ((rd_T48 x5 x95).f2) ((rd_T48 x5 x95).f3) ((rd_T48 x5 x95).f4) ((rd_T48 x5 x95).f5)).bind fun bt377 => (if bt377.2 = true then (if (rd x93 x95) < 0 then (none) else (if (wrap64 ((wrap64 (4 * (rd x93 x95))) + (bt377.1.size : Int))) > (x6.size : Int) then (none) else (if 0 ≤ (wrap64 (4 * (rd x93 x95))) then (if (wrap64 (4 * (rd x93 x95))) ≤ (wrap64 ((wrap64 (4 * (rd x93 x95))) + (bt377.1.size : Int))) then (if (wrap64 ((wrap64 (4 * (rd x93 x95))) + (bt377.1.size : Int))) ≤ (x6.size : Int) then (if (x6.extract ((wrap64 (4 * (rd x93 x95))) : Int).toNat ((wrap64 ((wrap64 (4 * (rd x93 x95))) + (bt377.1.size : Int))) : Int).toNat).toList = bt377.1.toList then (laws_FnProgram.l0 k x1 x5 x6 x93 x94 (wrap64 (x95 + 1))) else (none)) else (none)) else (none)) else (none)))) else (none))) else (none)) else (none)) else (none)) else (laws_FnProgram.j3 k x1)
end
def laws_FnProgram.f (k : Nat) (l0 : List Int) (l1 : List Int) : Option (Bool) := if (wrap64 ((l0.length : Int) + (l1.length : Int))) > 1048576 then (some true) else ((spec_DrawProgramBytes.f k l0).bind fun t357 => ((impl_ProgramBytes.f k t357).bind fun bt360 => ((spec_ProgramBytes.f k t357).bind fun bt362 => (if (bt360.2 != bt362.2) = true then (laws_FnProgram.j0 k l1 t357 bt360.1 bt360.2 true) else (if bt360.1.toList = bt362.1.toList then ((impl_GoodProgram.f k t357).bind fun t364 => (laws_FnProgram.j0 k l1 t357 bt360.1 bt360.2 (t364 != bt360.2))) else (laws_FnProgram.j0 k l1 t357 bt360.1 bt360.2 true))))))
theorem laws_FnProgram.mono_l : ∀ k, (∀ y0 y1 y2 y3 y4, LeO (laws_FnProgram.j0 k y0 y1 y2 y3 y4) (laws_FnProgram.j0 (k + 1) y0 y1 y2 y3 y4)) ∧ (∀ y0, LeO (laws_FnProgram.j3 k y0) (laws_FnProgram.j3 (k + 1) y0)) ∧ (∀ y0 y1 y2 y3, LeO (laws_FnProgram.j4 k y0 y1 y2 y3) (laws_FnProgram.j4 (k + 1) y0 y1 y2 y3)) ∧ (∀ y0 y1 y2 y3 y4, LeO (laws_FnProgram.j1 k y0 y1 y2 y3 y4) (laws_FnProgram.j1 (k + 1) y0 y1 y2 y3 y4)) ∧ (∀ y0 y1 y2 y3 y4 y5, LeO (laws_FnProgram.l0 k y0 y1 y2 y3 y4 y5) (laws_FnProgram.l0 (k + 1) y0 y1 y2 y3 y4 y5))
 | 0 => ⟨fun _ _ _ _ _ r h => by simp [laws_FnProgram.j0] at h, fun _ r h => by simp [laws_FnProgram.j3] at h, fun _ _ _ _ r h => by simp [laws_FnProgram.j4] at h, fun _ _ _ _ _ r h => by simp [laws_FnProgram.j1] at h, fun _ _ _ _ _ _ r h => by simp [laws_FnProgram.l0] at h⟩
 | k + 1 => by
  obtain ⟨ih0, ih1, ih2, ih3, ih4⟩ := laws_FnProgram.mono_l k
  refine ⟨?_, ?_, ?_, ?_, ?_⟩
  ·intro y0 y1 y2 y3 y4
   unfold laws_FnProgram.j0
   repeat' first
   | (with_reducible exact ih0 _ _ _ _ _)
   | (with_reducible exact ih1 _)
   | (with_reducible exact ih2 _ _ _ _)
   | (with_reducible exact ih3 _ _ _ _ _)
   | (with_reducible exact ih4 _ _ _ _ _ _)
   | (with_reducible exact impl_GoodProgram.mono _ _)
   | (with_reducible exact impl_ProgramBytes.mono _ _)
   | (with_reducible exact impl_ReadProgram.mono _ _)
   | (with_reducible exact impl_SlotsOf.mono _ _)
   | (with_reducible exact impl_StepBytes.mono _ _ _ _ _ _ _)
   | (with_reducible exact laws_sameSteps.mono _ _ _)
   | (with_reducible exact spec_DrawProgramBytes.mono _ _)
   | (with_reducible exact spec_DrawReadProgram.mono _ _)
   | (with_reducible exact spec_ProgramBytes.mono _ _)
   | (with_reducible exact spec_ReadProgram.mono _ _)
   | (with_reducible exact LeO.refl _)
   | (with_reducible exact LeO.none _)
   | (with_reducible refine LeO.ite ?_ ?_)
   | (with_reducible refine LeO.bind ?_ (fun _ => ?_))
   | exact ih0 _ _ _ _ _
   | exact ih1 _
   | exact ih2 _ _ _ _
   | exact ih3 _ _ _ _ _
   | exact ih4 _ _ _ _ _ _
   | exact impl_GoodProgram.mono _ _
   | exact impl_ProgramBytes.mono _ _
   | exact impl_ReadProgram.mono _ _
   | exact impl_SlotsOf.mono _ _
   | exact impl_StepBytes.mono _ _ _ _ _ _ _
   | exact laws_sameSteps.mono _ _ _
   | exact spec_DrawProgramBytes.mono _ _
   | exact spec_DrawReadProgram.mono _ _
   | exact spec_ProgramBytes.mono _ _
   | exact spec_ReadProgram.mono _ _
   | exact LeO.none _
   | refine LeO.ite ?_ ?_
   | refine LeO.bind ?_ (fun _ => ?_)
  ·intro y0
   unfold laws_FnProgram.j3
   repeat' first
   | (with_reducible exact ih0 _ _ _ _ _)
   | (with_reducible exact ih1 _)
   | (with_reducible exact ih2 _ _ _ _)
   | (with_reducible exact ih3 _ _ _ _ _)
   | (with_reducible exact ih4 _ _ _ _ _ _)
   | (with_reducible exact impl_GoodProgram.mono _ _)
   | (with_reducible exact impl_ProgramBytes.mono _ _)
   | (with_reducible exact impl_ReadProgram.mono _ _)
   | (with_reducible exact impl_SlotsOf.mono _ _)
   | (with_reducible exact impl_StepBytes.mono _ _ _ _ _ _ _)
   | (with_reducible exact laws_sameSteps.mono _ _ _)
   | (with_reducible exact spec_DrawProgramBytes.mono _ _)
   | (with_reducible exact spec_DrawReadProgram.mono _ _)
   | (with_reducible exact spec_ProgramBytes.mono _ _)
   | (with_reducible exact spec_ReadProgram.mono _ _)
   | (with_reducible exact LeO.refl _)
   | (with_reducible exact LeO.none _)
   | (with_reducible refine LeO.ite ?_ ?_)
   | (with_reducible refine LeO.bind ?_ (fun _ => ?_))
   | exact ih0 _ _ _ _ _
   | exact ih1 _
   | exact ih2 _ _ _ _
   | exact ih3 _ _ _ _ _
   | exact ih4 _ _ _ _ _ _
   | exact impl_GoodProgram.mono _ _
   | exact impl_ProgramBytes.mono _ _
   | exact impl_ReadProgram.mono _ _
   | exact impl_SlotsOf.mono _ _
   | exact impl_StepBytes.mono _ _ _ _ _ _ _
   | exact laws_sameSteps.mono _ _ _
   | exact spec_DrawProgramBytes.mono _ _
   | exact spec_DrawReadProgram.mono _ _
   | exact spec_ProgramBytes.mono _ _
   | exact spec_ReadProgram.mono _ _
   | exact LeO.none _
   | refine LeO.ite ?_ ?_
   | refine LeO.bind ?_ (fun _ => ?_)
  ·intro y0 y1 y2 y3
   unfold laws_FnProgram.j4
   repeat' first
   | (with_reducible exact ih0 _ _ _ _ _)
   | (with_reducible exact ih1 _)
   | (with_reducible exact ih2 _ _ _ _)
   | (with_reducible exact ih3 _ _ _ _ _)
   | (with_reducible exact ih4 _ _ _ _ _ _)
   | (with_reducible exact impl_GoodProgram.mono _ _)
   | (with_reducible exact impl_ProgramBytes.mono _ _)
   | (with_reducible exact impl_ReadProgram.mono _ _)
   | (with_reducible exact impl_SlotsOf.mono _ _)
   | (with_reducible exact impl_StepBytes.mono _ _ _ _ _ _ _)
   | (with_reducible exact laws_sameSteps.mono _ _ _)
   | (with_reducible exact spec_DrawProgramBytes.mono _ _)
   | (with_reducible exact spec_DrawReadProgram.mono _ _)
   | (with_reducible exact spec_ProgramBytes.mono _ _)
   | (with_reducible exact spec_ReadProgram.mono _ _)
   | (with_reducible exact LeO.refl _)
   | (with_reducible exact LeO.none _)
   | (with_reducible refine LeO.ite ?_ ?_)
   | (with_reducible refine LeO.bind ?_ (fun _ => ?_))
   | exact ih0 _ _ _ _ _
   | exact ih1 _
   | exact ih2 _ _ _ _
   | exact ih3 _ _ _ _ _
   | exact ih4 _ _ _ _ _ _
   | exact impl_GoodProgram.mono _ _
   | exact impl_ProgramBytes.mono _ _
   | exact impl_ReadProgram.mono _ _
   | exact impl_SlotsOf.mono _ _
   | exact impl_StepBytes.mono _ _ _ _ _ _ _
   | exact laws_sameSteps.mono _ _ _
   | exact spec_DrawProgramBytes.mono _ _
   | exact spec_DrawReadProgram.mono _ _
   | exact spec_ProgramBytes.mono _ _
   | exact spec_ReadProgram.mono _ _
   | exact LeO.none _
   | refine LeO.ite ?_ ?_
   | refine LeO.bind ?_ (fun _ => ?_)
  ·intro y0 y1 y2 y3 y4
   unfold laws_FnProgram.j1
   repeat' first
   | (with_reducible exact ih0 _ _ _ _ _)
   | (with_reducible exact ih1 _)
   | (with_reducible exact ih2 _ _ _ _)
   | (with_reducible exact ih3 _ _ _ _ _)
   | (with_reducible exact ih4 _ _ _ _ _ _)
   | (with_reducible exact impl_GoodProgram.mono _ _)
   | (with_reducible exact impl_ProgramBytes.mono _ _)
   | (with_reducible exact impl_ReadProgram.mono _ _)
   | (with_reducible exact impl_SlotsOf.mono _ _)
   | (with_reducible exact impl_StepBytes.mono _ _ _ _ _ _ _)
   | (with_reducible exact laws_sameSteps.mono _ _ _)
   | (with_reducible exact spec_DrawProgramBytes.mono _ _)
   | (with_reducible exact spec_DrawReadProgram.mono _ _)
   | (with_reducible exact spec_ProgramBytes.mono _ _)
   | (with_reducible exact spec_ReadProgram.mono _ _)
   | (with_reducible exact LeO.refl _)
   | (with_reducible exact LeO.none _)
   | (with_reducible refine LeO.ite ?_ ?_)
   | (with_reducible refine LeO.bind ?_ (fun _ => ?_))
   | exact ih0 _ _ _ _ _
   | exact ih1 _
   | exact ih2 _ _ _ _
   | exact ih3 _ _ _ _ _
   | exact ih4 _ _ _ _ _ _
   | exact impl_GoodProgram.mono _ _
   | exact impl_ProgramBytes.mono _ _
   | exact impl_ReadProgram.mono _ _
   | exact impl_SlotsOf.mono _ _
   | exact impl_StepBytes.mono _ _ _ _ _ _ _
   | exact laws_sameSteps.mono _ _ _
   | exact spec_DrawProgramBytes.mono _ _
   | exact spec_DrawReadProgram.mono _ _
   | exact spec_ProgramBytes.mono _ _
   | exact spec_ReadProgram.mono _ _
   | exact LeO.none _
   | refine LeO.ite ?_ ?_
   | refine LeO.bind ?_ (fun _ => ?_)
  ·intro y0 y1 y2 y3 y4 y5
   unfold laws_FnProgram.l0
   repeat' first
   | (with_reducible exact ih0 _ _ _ _ _)
   | (with_reducible exact ih1 _)
   | (with_reducible exact ih2 _ _ _ _)
   | (with_reducible exact ih3 _ _ _ _ _)
   | (with_reducible exact ih4 _ _ _ _ _ _)
   | (with_reducible exact impl_GoodProgram.mono _ _)
   | (with_reducible exact impl_ProgramBytes.mono _ _)
   | (with_reducible exact impl_ReadProgram.mono _ _)
   | (with_reducible exact impl_SlotsOf.mono _ _)
   | (with_reducible exact impl_StepBytes.mono _ _ _ _ _ _ _)
   | (with_reducible exact laws_sameSteps.mono _ _ _)
   | (with_reducible exact spec_DrawProgramBytes.mono _ _)
   | (with_reducible exact spec_DrawReadProgram.mono _ _)
   | (with_reducible exact spec_ProgramBytes.mono _ _)
   | (with_reducible exact spec_ReadProgram.mono _ _)
   | (with_reducible exact LeO.refl _)
   | (with_reducible exact LeO.none _)
   | (with_reducible refine LeO.ite ?_ ?_)
   | (with_reducible refine LeO.bind ?_ (fun _ => ?_))
   | exact ih0 _ _ _ _ _
   | exact ih1 _
   | exact ih2 _ _ _ _
   | exact ih3 _ _ _ _ _
   | exact ih4 _ _ _ _ _ _
   | exact impl_GoodProgram.mono _ _
   | exact impl_ProgramBytes.mono _ _
   | exact impl_ReadProgram.mono _ _
   | exact impl_SlotsOf.mono _ _
   | exact impl_StepBytes.mono _ _ _ _ _ _ _
   | exact laws_sameSteps.mono _ _ _
   | exact spec_DrawProgramBytes.mono _ _
   | exact spec_DrawReadProgram.mono _ _
   | exact spec_ProgramBytes.mono _ _
   | exact spec_ReadProgram.mono _ _
   | exact LeO.none _
   | refine LeO.ite ?_ ?_
   | refine LeO.bind ?_ (fun _ => ?_)
theorem laws_FnProgram.mono : ∀ a0 a1 k, LeO (laws_FnProgram.f k a0 a1) (laws_FnProgram.f (k + 1) a0 a1) := by
 intro a0 a1 k
 obtain ⟨ih0, ih1, ih2, ih3, ih4⟩ := laws_FnProgram.mono_l k
 unfold laws_FnProgram.f
 repeat' first
   | (with_reducible exact ih0 _ _ _ _ _)
   | (with_reducible exact ih1 _)
   | (with_reducible exact ih2 _ _ _ _)
   | (with_reducible exact ih3 _ _ _ _ _)
   | (with_reducible exact ih4 _ _ _ _ _ _)
   | (with_reducible exact impl_GoodProgram.mono _ _)
   | (with_reducible exact impl_ProgramBytes.mono _ _)
   | (with_reducible exact impl_ReadProgram.mono _ _)
   | (with_reducible exact impl_SlotsOf.mono _ _)
   | (with_reducible exact impl_StepBytes.mono _ _ _ _ _ _ _)
   | (with_reducible exact laws_sameSteps.mono _ _ _)
   | (with_reducible exact spec_DrawProgramBytes.mono _ _)
   | (with_reducible exact spec_DrawReadProgram.mono _ _)
   | (with_reducible exact spec_ProgramBytes.mono _ _)
   | (with_reducible exact spec_ReadProgram.mono _ _)
   | (with_reducible exact LeO.refl _)
   | (with_reducible exact LeO.none _)
   | (with_reducible refine LeO.ite ?_ ?_)
   | (with_reducible refine LeO.bind ?_ (fun _ => ?_))
   | exact ih0 _ _ _ _ _
   | exact ih1 _
   | exact ih2 _ _ _ _
   | exact ih3 _ _ _ _ _
   | exact ih4 _ _ _ _ _ _
   | exact impl_GoodProgram.mono _ _
   | exact impl_ProgramBytes.mono _ _
   | exact impl_ReadProgram.mono _ _
   | exact impl_SlotsOf.mono _ _
   | exact impl_StepBytes.mono _ _ _ _ _ _ _
   | exact laws_sameSteps.mono _ _ _
   | exact spec_DrawProgramBytes.mono _ _
   | exact spec_DrawReadProgram.mono _ _
   | exact spec_ProgramBytes.mono _ _
   | exact spec_ReadProgram.mono _ _
   | exact LeO.none _
   | refine LeO.ite ?_ ?_
   | refine LeO.bind ?_ (fun _ => ?_)
set_option maxHeartbeats 8000000 in
set_option maxRecDepth 100000 in
theorem laws_FnProgram.calls (k : Nat) (A0 : Option Addr) (c0 : Nat) (l0 : List Int) (A1 : Option Addr) (c1 : Nat) (l1 : List Int) (r : Bool) (w : World) (hr0 : Kd.C (Kd.int .u8) w A0 l0.length l0) (hc0 : l0.length ≤ c0) (hr1 : Kd.C (Kd.int .u8) w A1 l1.length l1) (hc1 : l1.length ≤ c1) (h : laws_FnProgram.f k l0 l1 = some r) :
  Calls Try.prog 5 #[.slice A0 l0.length c0, .slice A1 l1.length c1] w fun e w' => e = .returned (.bool r) ∧ Below w.heap.size w w' := by
 have hu48 := Try.underlying48
 have HR0 := Aside0.mk hr0
 have HC0 := Aside0.mk hc0
 clear hr0 hc0
 have HR1 := Aside0.mk hr1
 have HC1 := Aside0.mk hc1
 clear hr1 hc1
 have HB := Aside0.mk (Below.refl w.heap.size w)
 have HTop := Aside0.mk (Nat.zero_le w.heap.size)
 have H : (if (wrap64 ((l0.length : Int) + (l1.length : Int))) > 1048576 then (some true) else ((spec_DrawProgramBytes.f k l0).bind fun t357 => ((impl_ProgramBytes.f k t357).bind fun bt360 => ((spec_ProgramBytes.f k t357).bind fun bt362 => (if (bt360.2 != bt362.2) = true then (laws_FnProgram.j0 k l1 t357 bt360.1 bt360.2 true) else (if bt360.1.toList = bt362.1.toList then ((impl_GoodProgram.f k t357).bind fun t364 => (laws_FnProgram.j0 k l1 t357 bt360.1 bt360.2 (t364 != bt360.2))) else (laws_FnProgram.j0 k l1 t357 bt360.1 bt360.2 true))))))) = some r := h
 clear h
 by_cases c3 : (wrap64 ((l0.length : Int) + (l1.length : Int))) > 1048576
 ·rw [if_pos c3] at H
  have c3b0 : decide (1048576 < (wrap64 ((l0.length : Int) + (l1.length : Int)))) = true := decide_eq_true c3
  clear c3
  obtain rfl := Option.some.inj H
  go_enter Try.func5, Try.ntmps5
  go_wp2
  go_ret
  exact ⟨by first | rfl | (simp [errW_none, errW_some] <;> rfl) | (simp [*, errW_none, errW_some] <;> rfl), zb_ HB.out⟩
 ·rw [if_neg c3] at H
  have c3b0 : decide (1048576 < (wrap64 ((l0.length : Int) + (l1.length : Int)))) = false := decide_eq_false c3
  clear c3
  replace H := Option.bind_eq_some_iff.mp H
  obtain ⟨t357, A40, H⟩ := H
  replace H : ((impl_ProgramBytes.f k t357).bind fun bt360 => ((spec_ProgramBytes.f k t357).bind fun bt362 => (if (bt360.2 != bt362.2) = true then (laws_FnProgram.j0 k l1 t357 bt360.1 bt360.2 true) else (if bt360.1.toList = bt362.1.toList then ((impl_GoodProgram.f k t357).bind fun t364 => (laws_FnProgram.j0 k l1 t357 bt360.1 bt360.2 (t364 != bt360.2))) else (laws_FnProgram.j0 k l1 t357 bt360.1 bt360.2 true))))) = some r := H
  have A4 := Aside0.mk A40
  clear A40
  replace H := Option.bind_eq_some_iff.mp H
  obtain ⟨⟨t360, t361⟩, A50, H⟩ := H
  replace H : ((spec_ProgramBytes.f k t357).bind fun bt362 => (if (t361 != bt362.2) = true then (laws_FnProgram.j0 k l1 t357 t360 t361 true) else (if t360.toList = bt362.1.toList then ((impl_GoodProgram.f k t357).bind fun t364 => (laws_FnProgram.j0 k l1 t357 t360 t361 (t364 != t361))) else (laws_FnProgram.j0 k l1 t357 t360 t361 true)))) = some r := H
  have A5 := Aside0.mk A50
  clear A50
  replace H := Option.bind_eq_some_iff.mp H
  obtain ⟨⟨t362, t363⟩, A60, H⟩ := H
  replace H : (if (t361 != t363) = true then (laws_FnProgram.j0 k l1 t357 t360 t361 true) else (if t360.toList = t362.toList then ((impl_GoodProgram.f k t357).bind fun t364 => (laws_FnProgram.j0 k l1 t357 t360 t361 (t364 != t361))) else (laws_FnProgram.j0 k l1 t357 t360 t361 true))) = some r := H
  have A6 := Aside0.mk A60
  clear A60
  have HC7 := Aside0.mk H
  clear H
  go_enter Try.func5, Try.ntmps5
  go_upto_region 6 with (first | ((with_reducible refine gate_callee (f := 29) rfl ?_); refine goesL_ (some 35) rfl rfl Try.func29 (by kernel_rfl) rfl #[.slice A0 l0.length c0] rfl (by simp only [zA_, zB_, zD_] <;> rfl) ?_; (with_reducible refine (spec_DrawProgramBytes.calls k _ _ l0 t357 _ ?side1 ?side2 A4.out).mono ?_); (case side1 => exact zC_ HR0.out); (case side2 => exact HC0.out); rintro e w8 ⟨v358, rfl, ho0, hb⟩; refine ⟨_, rfl, ?_⟩; have n0_ := Aside0.mk (Kd.R_mono (ok' := fun _ => True) (Kd.R_lower ho0 (below_size (zb_ HB.out))) (fun _ _ => trivial)); have n1_ := Aside0.mk (below_step (zb_ HB.out) hb); clear HB; have HO359 := n0_; have HB := n1_; clear n0_ n1_; (try clear hb); (try clear hb2); (try clear hk); (try clear hi); (try clear ho0); obtain ⟨Ao9, co9, eo9⟩ := Kd.R_slice HO359.out; subst eo9) | ((with_reducible refine gate_callee (f := 30) rfl ?_); refine goesL_ (some 38) rfl rfl Try.func30 (by kernel_rfl) rfl #[.slice Ao9 t357.length co9] rfl (by simp only [zA_, zB_, zD_] <;> rfl) ?_; (with_reducible refine (impl_ProgramBytes.calls k _ _ t357 t360 t361 _ ?side1 ?side2 A5.out).mono ?_); (case side1 => exact zC_ (Kd.R_reads' HO359.out).2.2); (case side2 => exact (Kd.R_reads' HO359.out).2.1); rintro e w10 ⟨rfl, hb⟩; refine ⟨_, rfl, ?_⟩; have n0_ := Aside0.mk (Kd.R_below (zR_ HO359.out) hb); have n1_ := Aside0.mk (below_step (zb_ HB.out) hb); clear HO359; clear HB; have HO359 := n0_; have HB := n1_; clear n0_ n1_; (try clear hb); (try clear hb2); (try clear hk); (try clear hi)) | ((with_reducible refine gate_callee (f := 31) rfl ?_); refine goesL_ (some 43) rfl rfl Try.func31 (by kernel_rfl) rfl #[.slice Ao9 t357.length co9] rfl (by simp only [zA_, zB_, zD_] <;> rfl) ?_; (with_reducible refine (spec_ProgramBytes.calls k _ _ t357 t362 t363 _ ?side1 ?side2 A6.out).mono ?_); (case side1 => exact zC_ (Kd.R_reads' HO359.out).2.2); (case side2 => exact (Kd.R_reads' HO359.out).2.1); rintro e w11 ⟨rfl, hb⟩; refine ⟨_, rfl, ?_⟩; have n0_ := Aside0.mk (Kd.R_below (zR_ HO359.out) hb); have n1_ := Aside0.mk (below_step (zb_ HB.out) hb); clear HO359; clear HB; have HO359 := n0_; have HB := n1_; clear n0_ n1_; (try clear hb); (try clear hb2); (try clear hk); (try clear hi)))
  (try simp only [Act.put, List.setIfInBounds_toArray, List.set_cons_zero, List.set_cons_succ])
  go_cut [59] (fun v59 wc => ∃ (kq : Nat) (x59_6 : Bool), v59 = .bool x59_6 ∧ Aside0 (laws_FnProgram.j0 kq l1 t357 t360 t361 x59_6 = some r) ∧ Aside0 (kq ≤ k) ∧ Aside0 (Kd.R k48 48 wc w.heap.size (fun _ => True) (.slice Ao9 t357.length co9) t357) ∧ Aside0 (Below w.heap.size w wc))
  case first => as_aux_lemma =>
   have H := HC7.out
   clear HC7
   by_cases c12 : (t361 != t363) = true
   ·rw [if_pos c12] at H
    have c12b0 : (t361 != t363) = true := c12
    (try (have c12b1 : decide (t361 = t363) = false := by simpa using c12))
    (try (have c12b2 : (t361 == t363) = false := by simpa using c12))
    (try (have c12b3 : ¬ (t361 = t363) := by simpa using c12))
    clear c12
    (first | rw [c12b0] | (simp only [i64_w, i32_w]; rw [c12b0]) | skip)
    have H' := Aside0.mk H
    clear H
    go_wp2
    go_meet
    case rel => exact ⟨_, (true), (by first | rfl | (simp; done) | (simp [*]; done)), H', ⟨by first | omega | exact Nat.le_refl _⟩, ⟨Kd.R_mono (zR_ HO359.out) (fun _ _ => trivial)⟩, ⟨zb_ HB.out⟩⟩
   ·rw [if_neg c12] at H
    have c12b0 : (t361 != t363) = false := by simpa using c12
    (try (have c12b1 : decide (t361 = t363) = true := by simpa using c12))
    (try (have c12b2 : (t361 == t363) = true := by simpa using c12))
    clear c12
    (first | rw [c12b0] | (simp only [i64_w, i32_w]; rw [c12b0]) | skip)
    by_cases c13 : t360.toList = t362.toList
    ·rw [if_pos c13] at H
     have c13b0 : (t360.toList == t362.toList) = true := beq_iff_eq.mpr c13
     have c13b1 : (t360.toList != t362.toList) = false := bne_eq_false_iff_eq.mpr c13
     clear c13
     replace H := Option.bind_eq_some_iff.mp H
     obtain ⟨t364, A140, H⟩ := H
     replace H : (laws_FnProgram.j0 k l1 t357 t360 t361 (t364 != t361)) = some r := H
     have A14 := Aside0.mk A140
     clear A140
     have H' := Aside0.mk H
     clear H
     go_wp2_with (first | (go_at_call 32; (with_reducible refine (impl_GoodProgram.calls k _ _ t357 t364 _ ?side1 ?side2 A14.out).mono ?_); (case side1 => exact zC_ (Kd.R_reads' HO359.out).2.2); (case side2 => exact (Kd.R_reads' HO359.out).2.1); rintro e w15 ⟨rfl, hb⟩; have n0_ := Aside0.mk (Kd.R_below (zR_ HO359.out) hb); have n1_ := Aside0.mk (below_step (zb_ HB.out) hb); clear HO359; clear HB; have HO359 := n0_; have HB := n1_; clear n0_ n1_; (try clear hb); (try clear hb2); (try clear hk); (try clear hi)))
     go_meet
     case rel => exact ⟨_, ((t364 != t361)), (by first | rfl | (simp; done) | (simp [*]; done)), H', ⟨by first | omega | exact Nat.le_refl _⟩, ⟨Kd.R_mono (zR_ HO359.out) (fun _ _ => trivial)⟩, ⟨zb_ HB.out⟩⟩
    ·rw [if_neg c13] at H
     have c13b0 : (t360.toList == t362.toList) = false := beq_eq_false_iff_ne.mpr c13
     have c13b1 : (t360.toList != t362.toList) = true := bne_iff_ne.mpr c13
     have H' := Aside0.mk H
     clear H
     go_wp2
     go_meet
     case rel => exact ⟨_, (true), (by first | rfl | (simp; done) | (simp [*]; done)), H', ⟨by first | omega | exact Nat.le_refl _⟩, ⟨Kd.R_mono (zR_ HO359.out) (fun _ _ => trivial)⟩, ⟨zb_ HB.out⟩⟩
  case rest => as_aux_lemma =>
   clear HC7
   try clear c1
   try clear c2
   try clear p2
   try clear c3
   try clear c3b0
   try clear c5
   try clear p6
   try clear c12
   try clear c12b0
   try clear c12b1
   try clear c12b2
   try clear c13
   try clear c13b0
   try clear c13b1
   obtain ⟨kq, x59_6, rfl, HA, HJ6, HO_5, HB⟩ := hcut
   cases kq with
   | zero => exact absurd HA.out (by simp [laws_FnProgram.j0])
   | succ kj6 =>
    have H := HA.out
    clear HA
    simp only [laws_FnProgram.j0] at H
    by_cases c16 : x59_6 = true
    ·subst c16
     have H1 : (none) = some r := by rw [if_pos rfl] at H; exact H
     clear H
     have H := H1
     clear H1
     exact absurd H (by simp)
    ·replace c16 := Bool.eq_false_iff.mpr c16
     subst c16
     have H1 : (if t361 = true then ((impl_ReadProgram.f kj6 t360).bind fun bt365 => ((impl_SlotsOf.f kj6 t357).bind fun bt370 => (if bt365.2.2 = true then (if bt365.2.1 = 0 then ((laws_sameSteps.f kj6 bt365.1 t357).bind fun t374 => (if t374 = true then (laws_FnProgram.j1 kj6 l1 t357 t360 bt370.1 (!bt370.2)) else (laws_FnProgram.j1 kj6 l1 t357 t360 bt370.1 true))) else (laws_FnProgram.j1 kj6 l1 t357 t360 bt370.1 true)) else (laws_FnProgram.j1 kj6 l1 t357 t360 bt370.1 true)))) else (laws_FnProgram.j3 kj6 l1)) = some r := by rw [if_neg (show ¬ (false = true) by decide)] at H; exact H
     clear H
     have H := H1
     clear H1
     have HC17 := Aside0.mk H
     clear H
     go_upto_if 60 with (fail)
     go_cut [] (fun wc => ∃ (kq : Nat), Aside0 (laws_FnProgram.j3 kq l1 = some r) ∧ Aside0 (kq ≤ kj6) ∧ Aside0 (Below w.heap.size w wc))
     case first => as_aux_lemma =>
      have H := HC17.out
      clear HC17
      by_cases c18 : t361 = true
      ·subst c18
       have H1 : ((impl_ReadProgram.f kj6 t360).bind fun bt365 => ((impl_SlotsOf.f kj6 t357).bind fun bt370 => (if bt365.2.2 = true then (if bt365.2.1 = 0 then ((laws_sameSteps.f kj6 bt365.1 t357).bind fun t374 => (if t374 = true then (laws_FnProgram.j1 kj6 l1 t357 t360 bt370.1 (!bt370.2)) else (laws_FnProgram.j1 kj6 l1 t357 t360 bt370.1 true))) else (laws_FnProgram.j1 kj6 l1 t357 t360 bt370.1 true)) else (laws_FnProgram.j1 kj6 l1 t357 t360 bt370.1 true)))) = some r := by rw [if_pos rfl] at H; exact H
       clear H
       have H := H1
       clear H1
       replace H := Option.bind_eq_some_iff.mp H
       obtain ⟨⟨t365, t366, t367⟩, A190, H⟩ := H
       replace H : ((impl_SlotsOf.f kj6 t357).bind fun bt370 => (if t367 = true then (if t366 = 0 then ((laws_sameSteps.f kj6 t365 t357).bind fun t374 => (if t374 = true then (laws_FnProgram.j1 kj6 l1 t357 t360 bt370.1 (!bt370.2)) else (laws_FnProgram.j1 kj6 l1 t357 t360 bt370.1 true))) else (laws_FnProgram.j1 kj6 l1 t357 t360 bt370.1 true)) else (laws_FnProgram.j1 kj6 l1 t357 t360 bt370.1 true))) = some r := H
       have A19 := Aside0.mk A190
       clear A190
       replace H := Option.bind_eq_some_iff.mp H
       obtain ⟨⟨t370, t371⟩, A200, H⟩ := H
       replace H : (if t367 = true then (if t366 = 0 then ((laws_sameSteps.f kj6 t365 t357).bind fun t374 => (if t374 = true then (laws_FnProgram.j1 kj6 l1 t357 t360 t370 (!t371)) else (laws_FnProgram.j1 kj6 l1 t357 t360 t370 true))) else (laws_FnProgram.j1 kj6 l1 t357 t360 t370 true)) else (laws_FnProgram.j1 kj6 l1 t357 t360 t370 true)) = some r := H
       have A20 := Aside0.mk A200
       clear A200
       have HC21 := Aside0.mk H
       clear H
       go_upto_region 11 with (first | ((with_reducible refine gate_callee (f := 33) rfl ?_); refine goesL_ (some 63) rfl rfl Try.func33 (by kernel_rfl) rfl #[.string t360] rfl (by simp only [zA_, zB_, zD_] <;> rfl) ?_; (with_reducible refine (impl_ReadProgram.calls kj6 t360 t365 t366 t367 _ A19.out).mono ?_); rintro e w22 ⟨v368, rfl, ho0, hb⟩; refine ⟨_, rfl, ?_⟩; have n0_ := Aside0.mk (Kd.R_below (zR_ HO_5.out) hb); have n1_ := Aside0.mk (Kd.R_mono (ok' := fun _ => True) (Kd.R_lower ho0 (below_size (zb_ HB.out))) (fun _ _ => trivial)); have n2_ := Aside0.mk (below_step (zb_ HB.out) hb); clear HO_5; clear HB; have HO_5 := n0_; have HO369 := n1_; have HB := n2_; clear n0_ n1_ n2_; (try clear hb); (try clear hb2); (try clear hk); (try clear hi); (try clear ho0)) | ((with_reducible refine gate_callee (f := 34) rfl ?_); refine goesL_ (some 69) rfl rfl Try.func34 (by kernel_rfl) rfl #[.slice Ao9 t357.length co9] rfl (by simp only [zA_, zB_, zD_] <;> rfl) ?_; (with_reducible refine (impl_SlotsOf.calls kj6 _ _ t357 t370 t371 _ ?side1 ?side2 A20.out).mono ?_); (case side1 => exact zC_ (Kd.R_reads' HO_5.out).2.2); (case side2 => exact (Kd.R_reads' HO_5.out).2.1); rintro e w23 ⟨v372, rfl, ho0, hb⟩; refine ⟨_, rfl, ?_⟩; have n0_ := Aside0.mk (Kd.R_below (zR_ HO_5.out) hb); have n1_ := Aside0.mk (Kd.R_below (zR_ HO369.out) hb); have n2_ := Aside0.mk (Kd.R_mono (ok' := fun _ => True) (Kd.R_lower ho0 (below_size (zb_ HB.out))) (fun _ _ => trivial)); have n3_ := Aside0.mk (below_step (zb_ HB.out) hb); clear HO_5; clear HO369; clear HB; have HO_5 := n0_; have HO369 := n1_; have HO373 := n2_; have HB := n3_; clear n0_ n1_ n2_ n3_; (try clear hb); (try clear hb2); (try clear hk); (try clear hi); (try clear ho0)))
       (try simp only [Act.put, List.setIfInBounds_toArray, List.set_cons_zero, List.set_cons_succ])
       go_cut [87] (fun v87 wc => ∃ (kq : Nat) (x87_20 : Bool), v87 = .bool x87_20 ∧ Aside0 (laws_FnProgram.j1 kq l1 t357 t360 t370 x87_20 = some r) ∧ Aside0 (kq ≤ kj6) ∧ Aside0 (Kd.R k48 48 wc w.heap.size (fun _ => True) (.slice Ao9 t357.length co9) t357) ∧ Aside0 (Kd.R (Kd.int .i64) 3 wc w.heap.size (fun _ => True) v372 t370) ∧ Aside0 (Below w.heap.size w wc))
       case first => as_aux_lemma =>
        have H := HC21.out
        clear HC21
        by_cases c24 : t367 = true
        ·subst c24
         have H1 : (if t366 = 0 then ((laws_sameSteps.f kj6 t365 t357).bind fun t374 => (if t374 = true then (laws_FnProgram.j1 kj6 l1 t357 t360 t370 (!t371)) else (laws_FnProgram.j1 kj6 l1 t357 t360 t370 true))) else (laws_FnProgram.j1 kj6 l1 t357 t360 t370 true)) = some r := by rw [if_pos rfl] at H; exact H
         clear H
         have H := H1
         clear H1
         by_cases c25 : t366 = 0
         ·rw [if_pos c25] at H
          have c25b0 : (t366 == 0) = true := beq_iff_eq.mpr c25
          have c25b1 : (t366 != 0) = false := bne_eq_false_iff_eq.mpr c25
          clear c25
          (first | rw [c25b0] | (simp only [i64_w, i32_w]; rw [c25b0]) | skip)
          replace H := Option.bind_eq_some_iff.mp H
          obtain ⟨t374, A260, H⟩ := H
          replace H : (if t374 = true then (laws_FnProgram.j1 kj6 l1 t357 t360 t370 (!t371)) else (laws_FnProgram.j1 kj6 l1 t357 t360 t370 true)) = some r := H
          have A26 := Aside0.mk A260
          clear A260
          by_cases c27 : t374 = true
          ·subst c27
           have H1 : (laws_FnProgram.j1 kj6 l1 t357 t360 t370 (!t371)) = some r := by rw [if_pos rfl] at H; exact H
           clear H
           have H := H1
           clear H1
           have H' := Aside0.mk H
           clear H
           obtain ⟨Ao28, co28, eo28⟩ := Kd.R_slice HO369.out
           subst eo28
           go_wp2_with (first | (go_at_call 35; (with_reducible refine (laws_sameSteps.calls kj6 _ _ t365 _ _ t357 true _ ?side1 ?side2 ?side3 ?side4 A26.out).mono ?_); (case side1 => exact zC_ (Kd.R_reads' HO369.out).2.2); (case side2 => exact (Kd.R_reads' HO369.out).2.1); (case side3 => exact zC_ (Kd.R_reads' HO_5.out).2.2); (case side4 => exact (Kd.R_reads' HO_5.out).2.1); rintro e w' ⟨rfl, ⟨nd, rfl⟩⟩))
           go_meet
           case rel => exact ⟨_, (!t371), (by first | rfl | (simp; done) | (simp [*]; done)), H', ⟨by have := HJ6.out; first | omega | exact Nat.le_refl _⟩, ⟨Kd.R_mono (zR_ HO_5.out) (fun _ _ => trivial)⟩, ⟨Kd.R_mono (zR_ HO373.out) (fun _ _ => trivial)⟩, ⟨zb_ HB.out⟩⟩
          ·replace c27 := Bool.eq_false_iff.mpr c27
           subst c27
           have H1 : (laws_FnProgram.j1 kj6 l1 t357 t360 t370 true) = some r := by rw [if_neg (show ¬ (false = true) by decide)] at H; exact H
           clear H
           have H := H1
           clear H1
           have H' := Aside0.mk H
           clear H
           obtain ⟨Ao29, co29, eo29⟩ := Kd.R_slice HO369.out
           subst eo29
           go_wp2_with (first | (go_at_call 35; (with_reducible refine (laws_sameSteps.calls kj6 _ _ t365 _ _ t357 false _ ?side1 ?side2 ?side3 ?side4 A26.out).mono ?_); (case side1 => exact zC_ (Kd.R_reads' HO369.out).2.2); (case side2 => exact (Kd.R_reads' HO369.out).2.1); (case side3 => exact zC_ (Kd.R_reads' HO_5.out).2.2); (case side4 => exact (Kd.R_reads' HO_5.out).2.1); rintro e w' ⟨rfl, ⟨nd, rfl⟩⟩))
           go_meet
           case rel => exact ⟨_, (true), (by first | rfl | (simp; done) | (simp [*]; done)), H', ⟨by have := HJ6.out; first | omega | exact Nat.le_refl _⟩, ⟨Kd.R_mono (zR_ HO_5.out) (fun _ _ => trivial)⟩, ⟨Kd.R_mono (zR_ HO373.out) (fun _ _ => trivial)⟩, ⟨zb_ HB.out⟩⟩
         ·rw [if_neg c25] at H
          have c25b0 : (t366 == 0) = false := beq_eq_false_iff_ne.mpr c25
          have c25b1 : (t366 != 0) = true := bne_iff_ne.mpr c25
          (first | rw [c25b0] | (simp only [i64_w, i32_w]; rw [c25b0]) | skip)
          have H' := Aside0.mk H
          clear H
          go_wp2
          go_meet
          case rel => exact ⟨_, (true), (by first | rfl | (simp; done) | (simp [*]; done)), H', ⟨by have := HJ6.out; first | omega | exact Nat.le_refl _⟩, ⟨Kd.R_mono (zR_ HO_5.out) (fun _ _ => trivial)⟩, ⟨Kd.R_mono (zR_ HO373.out) (fun _ _ => trivial)⟩, ⟨zb_ HB.out⟩⟩
        ·replace c24 := Bool.eq_false_iff.mpr c24
         subst c24
         have H1 : (laws_FnProgram.j1 kj6 l1 t357 t360 t370 true) = some r := by rw [if_neg (show ¬ (false = true) by decide)] at H; exact H
         clear H
         have H := H1
         clear H1
         have H' := Aside0.mk H
         clear H
         go_wp2
         go_meet
         case rel => exact ⟨_, (true), (by first | rfl | (simp; done) | (simp [*]; done)), H', ⟨by have := HJ6.out; first | omega | exact Nat.le_refl _⟩, ⟨Kd.R_mono (zR_ HO_5.out) (fun _ _ => trivial)⟩, ⟨Kd.R_mono (zR_ HO373.out) (fun _ _ => trivial)⟩, ⟨zb_ HB.out⟩⟩
       case rest => as_aux_lemma =>
        clear HC21
        try clear c1
        try clear c2
        try clear p2
        try clear c3
        try clear c3b0
        try clear c5
        try clear p6
        try clear c12
        try clear c12b0
        try clear c12b1
        try clear c12b2
        try clear c13
        try clear c13b0
        try clear c13b1
        try clear c16
        try clear c18
        try clear c24
        try clear c25
        try clear c25b0
        try clear c25b1
        try clear c27
        try clear c29
        try clear p2
        try clear p6
        obtain ⟨kq, x87_20, rfl, HA, HJ20, HO_5, HO_13, HB⟩ := hcut
        cases kq with
        | zero => exact absurd HA.out (by simp [laws_FnProgram.j1])
        | succ kj20 =>
         have H := HA.out
         clear HA
         simp only [laws_FnProgram.j1] at H
         by_cases c30 : x87_20 = true
         ·subst c30
          have H1 : (none) = some r := by rw [if_pos rfl] at H; exact H
          clear H
          have H := H1
          clear H1
          exact absurd H (by simp)
         ·replace c30 := Bool.eq_false_iff.mpr c30
          subst c30
          have H1 : (if (t370.length : Int) > (t357.length : Int) then (none) else (laws_FnProgram.l0 kj20 l1 t357 t360 t370 (t370.length : Int) 0)) = some r := by rw [if_neg (show ¬ (false = true) by decide)] at H; exact H
          clear H
          have H := H1
          clear H1
          by_cases c31 : (t370.length : Int) > (t357.length : Int)
          ·rw [if_pos c31] at H
           exact absurd H (by simp)
          ·rw [if_neg c31] at H
           have c31b0 : decide ((t357.length : Int) < (t370.length : Int)) = false := decide_eq_false c31
           have c31b1 : decide (t357.length < t370.length) = false := decide_eq_false (fun h => c31 (Int.ofNat_lt.mpr h))
           clear c31
           have H' := Aside0.mk H
           clear H
           obtain ⟨Ao32, co32, eo32⟩ := Kd.R_slice HO_13.out
           subst eo32
           go_wp2
           go_loopg [95] kj20 (fun kq v95 w' => ∃ (x95_3 : Int), v95 = .int .i64 x95_3 ∧ Aside0 (laws_FnProgram.l0 kq l1 t357 t360 t370 (t370.length : Int) x95_3 = some r) ∧ Aside0 (kq ≤ kj20) ∧ Aside0 (Kd.R k48 48 w' w.heap.size (fun _ => True) (.slice Ao9 t357.length co9) t357) ∧ Aside0 (Kd.R (Kd.int .i64) 3 w' w.heap.size (fun _ => True) (.slice Ao32 t370.length co32) t370) ∧ Aside0 (Below w.heap.size w w'))
           case atStart => exact ⟨(0), (by first | rfl | (simp; done) | (simp [*]; done)), H', ⟨Nat.le_refl _⟩, ⟨Kd.R_mono (zR_ HO_5.out) (fun _ _ => trivial)⟩, ⟨Kd.R_mono (zR_ HO_13.out) (fun _ _ => trivial)⟩, ⟨zb_ HB.out⟩⟩
           case round =>
            clear H'
            try clear c1
            try clear c2
            try clear p2
            try clear c3
            try clear c3b0
            try clear c5
            try clear p6
            try clear c12
            try clear c12b0
            try clear c12b1
            try clear c12b2
            try clear c13
            try clear c13b0
            try clear c13b1
            try clear c16
            try clear c18
            try clear c24
            try clear c25
            try clear c25b0
            try clear c25b1
            try clear c27
            try clear c29
            try clear c30
            try clear c31
            try clear c31b0
            try clear c31b1
            try clear p2
            try clear p6
            obtain ⟨x95_3, rfl, HA, HK3, HO_5, HO_93, HB⟩ := hrel
            cases gk with
            | zero => exact absurd HA.out (by simp [laws_FnProgram.l0])
            | succ k3 =>
             have H := HA.out
             clear HA
             simp only [laws_FnProgram.l0] at H
             by_cases c33 : x95_3 < (t370.length : Int)
             ·rw [if_pos c33] at H
              have c33b0 : decide (x95_3 < (t370.length : Int)) = true := decide_eq_true c33
              clear c33
              by_cases c34 : 0 ≤ x95_3
              ·rw [if_pos c34] at H
               have c34b0 : decide (0 ≤ x95_3) = true := decide_eq_true c34
               clear c34
               by_cases c35 : x95_3 < (t370.length : Int)
               ·rw [if_pos c35] at H
                have c35b0 : decide (x95_3 < (t370.length : Int)) = true := decide_eq_true c35
                clear c35
                by_cases c36 : x95_3 < (t357.length : Int)
                ·rw [if_pos c36] at H
                 have c36b0 : decide (x95_3 < (t357.length : Int)) = true := decide_eq_true c36
                 clear c36
                 replace H := Option.bind_eq_some_iff.mp H
                 obtain ⟨⟨t377, t378⟩, A370, H⟩ := H
                 replace H : (if t378 = true then (if (rd t370 x95_3) < 0 then (none) else (if (wrap64 ((wrap64 (4 * (rd t370 x95_3))) + (t377.size : Int))) > (t360.size : Int) then (none) else (if 0 ≤ (wrap64 (4 * (rd t370 x95_3))) then (if (wrap64 (4 * (rd t370 x95_3))) ≤ (wrap64 ((wrap64 (4 * (rd t370 x95_3))) + (t377.size : Int))) then (if (wrap64 ((wrap64 (4 * (rd t370 x95_3))) + (t377.size : Int))) ≤ (t360.size : Int) then (if (t360.extract ((wrap64 (4 * (rd t370 x95_3))) : Int).toNat ((wrap64 ((wrap64 (4 * (rd t370 x95_3))) + (t377.size : Int))) : Int).toNat).toList = t377.toList then (laws_FnProgram.l0 k3 l1 t357 t360 t370 (t370.length : Int) (wrap64 (x95_3 + 1))) else (none)) else (none)) else (none)) else (none)))) else (none)) = some r := H
                 have A37 := Aside0.mk A370
                 clear A370
                 by_cases c38 : t378 = true
                 ·subst c38
                  have H1 : (if (rd t370 x95_3) < 0 then (none) else (if (wrap64 ((wrap64 (4 * (rd t370 x95_3))) + (t377.size : Int))) > (t360.size : Int) then (none) else (if 0 ≤ (wrap64 (4 * (rd t370 x95_3))) then (if (wrap64 (4 * (rd t370 x95_3))) ≤ (wrap64 ((wrap64 (4 * (rd t370 x95_3))) + (t377.size : Int))) then (if (wrap64 ((wrap64 (4 * (rd t370 x95_3))) + (t377.size : Int))) ≤ (t360.size : Int) then (if (t360.extract ((wrap64 (4 * (rd t370 x95_3))) : Int).toNat ((wrap64 ((wrap64 (4 * (rd t370 x95_3))) + (t377.size : Int))) : Int).toNat).toList = t377.toList then (laws_FnProgram.l0 k3 l1 t357 t360 t370 (t370.length : Int) (wrap64 (x95_3 + 1))) else (none)) else (none)) else (none)) else (none)))) = some r := by rw [if_pos rfl] at H; exact H
                  clear H
                  have H := H1
                  clear H1
                  by_cases c39 : (rd t370 x95_3) < 0
                  ·rw [if_pos c39] at H
                   exact absurd H (by simp)
                  ·rw [if_neg c39] at H
                   have c39b0 : decide ((rd t370 x95_3) < 0) = false := decide_eq_false c39
                   clear c39
                   by_cases c40 : (wrap64 ((wrap64 (4 * (rd t370 x95_3))) + (t377.size : Int))) > (t360.size : Int)
                   ·rw [if_pos c40] at H
                    exact absurd H (by simp)
                   ·rw [if_neg c40] at H
                    have c40b0 : decide ((t360.size : Int) < (wrap64 ((wrap64 (4 * (rd t370 x95_3))) + (t377.size : Int)))) = false := decide_eq_false c40
                    clear c40
                    obtain ⟨ji41, hji41⟩ : ∃ j_ : Int, (wrap64 (4 * (rd t370 x95_3))) = j_ := ⟨_, rfl⟩
                    replace H : (if 0 ≤ (ji41) then (if (ji41) ≤ (wrap64 ((ji41) + (t377.size : Int))) then (if (wrap64 ((ji41) + (t377.size : Int))) ≤ (t360.size : Int) then (if (t360.extract ((ji41) : Int).toNat ((wrap64 ((ji41) + (t377.size : Int))) : Int).toNat).toList = t377.toList then (laws_FnProgram.l0 k3 l1 t357 t360 t370 (t370.length : Int) (wrap64 (x95_3 + 1))) else (none)) else (none)) else (none)) else (none)) = some r := by first | (rw [hji41] at H; exact H) | (simp only [hji41] at H ⊢; exact H)
                    (try rw [hji41] at c40b0)
                    (try rw [hji41] at A37)
                    have hji41w : (IntKind.i64.wrap (4 * (rd t370 x95_3))) = ji41 := (i64_w _).trans hji41
                    by_cases c42 : 0 ≤ (ji41)
                    ·rw [if_pos c42] at H
                     have c42b0 := eq_true c42
                     have c42b1 : decide (0 ≤ (ji41)) = true := decide_eq_true c42
                     clear c42
                     by_cases c43 : (ji41) ≤ (wrap64 ((ji41) + (t377.size : Int)))
                     ·rw [if_pos c43] at H
                      have c43b0 := eq_true c43
                      have c43b1 : decide ((ji41) ≤ (wrap64 ((ji41) + (t377.size : Int)))) = true := decide_eq_true c43
                      by_cases c44 : (wrap64 ((ji41) + (t377.size : Int))) ≤ (t360.size : Int)
                      ·rw [if_pos c44] at H
                       have c44b0 := eq_true c44
                       have c44b1 : decide ((wrap64 ((ji41) + (t377.size : Int))) ≤ (t360.size : Int)) = true := decide_eq_true c44
                       by_cases c45 : (t360.extract ((ji41) : Int).toNat ((wrap64 ((ji41) + (t377.size : Int))) : Int).toNat).toList = t377.toList
                       ·rw [if_pos c45] at H
                        have c45b0 : ((t360.extract ((ji41) : Int).toNat ((wrap64 ((ji41) + (t377.size : Int))) : Int).toNat).toList == t377.toList) = true := beq_iff_eq.mpr c45
                        have c45b1 : ((t360.extract ((ji41) : Int).toNat ((wrap64 ((ji41) + (t377.size : Int))) : Int).toNat).toList != t377.toList) = false := bne_eq_false_iff_eq.mpr c45
                        clear c45
                        have H' := Aside0.mk H
                        clear H
                        have p375 : 0 ≤ (x95_3 : Int) := of_decide_eq_true (by assumption)
                        have q375 : x95_3 < (t370.length : Int) := of_decide_eq_true (by assumption)
                        obtain ⟨ad375, e375, hx375_0⟩ := Kd.at_int (Kd.R_reads' HO_93.out).2.2 x95_3 p375 q375
                        cases e375
                        replace p375 := eq_true p375
                        replace q375 := eq_true q375
                        have p376 : 0 ≤ (x95_3 : Int) := of_decide_eq_true (by assumption)
                        have q376 : x95_3 < (t357.length : Int) := of_decide_eq_true (by assumption)
                        obtain ⟨ad376, e376, hx376_0, hx376_1, hx376_2, hx376_3, hx376_4, hx376_5⟩ := at_T48 (Kd.R_reads' HO_5.out).2.2 x95_3 p376 q376
                        cases e376
                        replace p376 := eq_true p376
                        replace q376 := eq_true q376
                        go_wp2_with (first | ((with_reducible refine gate_callee (f := 36) rfl ?_); refine goesL_ (some 105) rfl rfl Try.func36 (by kernel_rfl) rfl #[.agg #[.int .i64 ((rd_T48 t357 x95_3).f0), .int .i64 ((rd_T48 t357 x95_3).f1), .int .i64 ((rd_T48 t357 x95_3).f2), .int .i64 ((rd_T48 t357 x95_3).f3), .int .i64 ((rd_T48 t357 x95_3).f4), .int .i64 ((rd_T48 t357 x95_3).f5)]] rfl (by simp only [zA_, zB_, zD_] <;> rfl) ?_; (with_reducible refine (impl_StepBytes.calls k3 ((rd_T48 t357 x95_3).f0) ((rd_T48 t357 x95_3).f1) ((rd_T48 t357 x95_3).f2) ((rd_T48 t357 x95_3).f3) ((rd_T48 t357 x95_3).f4) ((rd_T48 t357 x95_3).f5) t377 true _ A37.out).mono ?_); rintro e w46 ⟨rfl, hb⟩; refine ⟨_, rfl, ?_⟩; have n0_ := Aside0.mk (Kd.R_below (zR_ HO_5.out) hb); have n1_ := Aside0.mk (Kd.R_below (zR_ HO_93.out) hb); have n2_ := Aside0.mk (below_step (zb_ HB.out) hb); clear HO_5; clear HO_93; clear HB; have HO_5 := n0_; have HO_93 := n1_; have HB := n2_; clear n0_ n1_ n2_; (try clear hb); (try clear hb2); (try clear hk); (try clear hi)))
                        go_roundg k3
                        case measure => have := HJ6.out; have := HJ20.out; have := HK3.out; omega
                        case rel => exact ⟨(wrap64 (x95_3 + 1)), (by first | rfl | (simp; done) | (simp [*]; done)), H', ⟨by have := HJ6.out; have := HJ20.out; have := HK3.out; omega⟩, ⟨Kd.R_mono (zR_ HO_5.out) (fun _ _ => trivial)⟩, ⟨Kd.R_mono (zR_ HO_93.out) (fun _ _ => trivial)⟩, ⟨zb_ HB.out⟩⟩
                       ·rw [if_neg c45] at H
                        exact absurd H (by simp)
                      ·rw [if_neg c44] at H
                       exact absurd H (by simp)
                     ·rw [if_neg c43] at H
                      exact absurd H (by simp)
                    ·rw [if_neg c42] at H
                     exact absurd H (by simp)
                 ·replace c38 := Bool.eq_false_iff.mpr c38
                  subst c38
                  have H1 : (none) = some r := by rw [if_neg (show ¬ (false = true) by decide)] at H; exact H
                  clear H
                  have H := H1
                  clear H1
                  exact absurd H (by simp)
                ·rw [if_neg c36] at H
                 exact absurd H (by simp)
               ·rw [if_neg c35] at H
                exact absurd H (by simp)
              ·rw [if_neg c34] at H
               exact absurd H (by simp)
             ·rw [if_neg c33] at H
              have c33b0 : decide (x95_3 < (t370.length : Int)) = false := decide_eq_false c33
              clear c33
              have H' := Aside0.mk H
              clear H
              go_wp2
              go_meet
              case rel => exact ⟨_, H', ⟨by have := HJ6.out; have := HJ20.out; have := HK3.out; first | omega | exact Nat.le_refl _⟩, ⟨zb_ HB.out⟩⟩
      ·replace c18 := Bool.eq_false_iff.mpr c18
       subst c18
       have H1 : (laws_FnProgram.j3 kj6 l1) = some r := by rw [if_neg (show ¬ (false = true) by decide)] at H; exact H
       clear H
       have H := H1
       clear H1
       have H' := Aside0.mk H
       clear H
       go_wp2
       go_meet
       case rel => exact ⟨_, H', ⟨by have := HJ6.out; first | omega | exact Nat.le_refl _⟩, ⟨zb_ HB.out⟩⟩
     case rest => as_aux_lemma =>
      clear HC17
      try clear c1
      try clear c2
      try clear p2
      try clear c3
      try clear c3b0
      try clear p3
      try clear q3
      try clear hx3
      try clear c4
      try clear c5
      try clear p6
      try clear c12
      try clear c12b0
      try clear c12b1
      try clear c12b2
      try clear c13
      try clear c13b0
      try clear c13b1
      try clear c16
      try clear c18
      try clear c24
      try clear c25
      try clear c25b0
      try clear c25b1
      try clear c27
      try clear c29
      try clear c30
      try clear c31
      try clear c31b0
      try clear c31b1
      try clear c33
      try clear c33b0
      try clear c34
      try clear c34b0
      try clear c35
      try clear c35b0
      try clear c36
      try clear c36b0
      try clear p37
      try clear q37
      try clear hx37
      try clear c38
      try clear c39
      try clear c39b0
      try clear c40
      try clear c40b0
      try clear c42
      try clear c42b0
      try clear c42b1
      try clear c43
      try clear c43b0
      try clear c43b1
      try clear c44
      try clear c44b0
      try clear c44b1
      try clear c45
      try clear c45b0
      try clear c45b1
      try clear hx375_0
      try clear hx376_0
      try clear hx376_1
      try clear hx376_2
      try clear hx376_3
      try clear hx376_4
      try clear hx376_5
      try clear p2
      try clear p375
      try clear p376
      try clear p6
      try clear q375
      try clear q376
      obtain ⟨kq, HA, HJ16, HB⟩ := hcut
      cases kq with
      | zero => exact absurd HA.out (by simp [laws_FnProgram.j3])
      | succ kj16 =>
       have H := HA.out
       clear HA
       simp only [laws_FnProgram.j3] at H
       replace H := Option.bind_eq_some_iff.mp H
       obtain ⟨t379, A470, H⟩ := H
       replace H : ((impl_ReadProgram.f kj16 t379).bind fun bt380 => ((spec_ReadProgram.f kj16 t379).bind fun bt385 => (if (bt380.2.2 != bt385.2.2) = true then (laws_FnProgram.j4 kj16 t379 bt380.1 bt380.2.2 true) else (if bt380.2.1 = bt385.2.1 then ((laws_sameSteps.f kj16 bt380.1 bt385.1).bind fun t390 => (laws_FnProgram.j4 kj16 t379 bt380.1 bt380.2.2 (!t390))) else (laws_FnProgram.j4 kj16 t379 bt380.1 bt380.2.2 true))))) = some r := H
       have A47 := Aside0.mk A470
       clear A470
       replace H := Option.bind_eq_some_iff.mp H
       obtain ⟨⟨t380, t381, t382⟩, A480, H⟩ := H
       replace H : ((spec_ReadProgram.f kj16 t379).bind fun bt385 => (if (t382 != bt385.2.2) = true then (laws_FnProgram.j4 kj16 t379 t380 t382 true) else (if t381 = bt385.2.1 then ((laws_sameSteps.f kj16 t380 bt385.1).bind fun t390 => (laws_FnProgram.j4 kj16 t379 t380 t382 (!t390))) else (laws_FnProgram.j4 kj16 t379 t380 t382 true)))) = some r := H
       have A48 := Aside0.mk A480
       clear A480
       replace H := Option.bind_eq_some_iff.mp H
       obtain ⟨⟨t385, t386, t387⟩, A490, H⟩ := H
       replace H : (if (t382 != t387) = true then (laws_FnProgram.j4 kj16 t379 t380 t382 true) else (if t381 = t386 then ((laws_sameSteps.f kj16 t380 t385).bind fun t390 => (laws_FnProgram.j4 kj16 t379 t380 t382 (!t390))) else (laws_FnProgram.j4 kj16 t379 t380 t382 true))) = some r := H
       have A49 := Aside0.mk A490
       clear A490
       have HC50 := Aside0.mk H
       clear H
       go_upto_region 25 with (first | ((with_reducible refine gate_callee (f := 37) rfl ?_); refine goesL_ (some 139) rfl rfl Try.func37 (by kernel_rfl) rfl #[.slice A1 l1.length c1] rfl (by simp only [zA_, zB_, zD_] <;> rfl) ?_; (with_reducible refine (spec_DrawReadProgram.calls kj16 _ _ l1 t379 _ ?side1 ?side2 A47.out).mono ?_); (case side1 => exact zC_ (Kd.C_below HR1.out HB.out)); (case side2 => exact HC1.out); rintro e w51 ⟨rfl, hb⟩; refine ⟨_, rfl, ?_⟩; have n0_ := Aside0.mk (below_step (zb_ HB.out) hb); clear HB; have HB := n0_; clear n0_; (try clear hb); (try clear hb2); (try clear hk); (try clear hi)) | ((with_reducible refine gate_callee (f := 33) rfl ?_); refine goesL_ (some 142) rfl rfl Try.func33 (by kernel_rfl) rfl #[.string t379] rfl (by simp only [zA_, zB_, zD_] <;> rfl) ?_; (with_reducible refine (impl_ReadProgram.calls kj16 t379 t380 t381 t382 _ A48.out).mono ?_); rintro e w52 ⟨v383, rfl, ho0, hb⟩; refine ⟨_, rfl, ?_⟩; have n0_ := Aside0.mk (Kd.R_mono (ok' := fun _ => True) (Kd.R_lower ho0 (below_size (zb_ HB.out))) (fun _ _ => trivial)); have n1_ := Aside0.mk (below_step (zb_ HB.out) hb); clear HB; have HO384 := n0_; have HB := n1_; clear n0_ n1_; (try clear hb); (try clear hb2); (try clear hk); (try clear hi); (try clear ho0)) | ((with_reducible refine gate_callee (f := 38) rfl ?_); refine goesL_ (some 148) rfl rfl Try.func38 (by kernel_rfl) rfl #[.string t379] rfl (by simp only [zA_, zB_, zD_] <;> rfl) ?_; (with_reducible refine (spec_ReadProgram.calls kj16 t379 t385 t386 t387 _ A49.out).mono ?_); rintro e w53 ⟨v388, rfl, ho0, hb⟩; refine ⟨_, rfl, ?_⟩; have n0_ := Aside0.mk (Kd.R_below (zR_ HO384.out) hb); have n1_ := Aside0.mk (Kd.R_mono (ok' := fun _ => True) (Kd.R_lower ho0 (below_size (zb_ HB.out))) (fun _ _ => trivial)); have n2_ := Aside0.mk (below_step (zb_ HB.out) hb); clear HO384; clear HB; have HO384 := n0_; have HO389 := n1_; have HB := n2_; clear n0_ n1_ n2_; (try clear hb); (try clear hb2); (try clear hk); (try clear hi); (try clear ho0)))
       (try simp only [Act.put, List.setIfInBounds_toArray, List.set_cons_zero, List.set_cons_succ])
       go_cut [165] (fun v165 wc => ∃ (kq : Nat) (x165_49 : Bool), v165 = .bool x165_49 ∧ Aside0 (laws_FnProgram.j4 kq t379 t380 t382 x165_49 = some r) ∧ Aside0 (kq ≤ kj16) ∧ Aside0 (Kd.R k48 48 wc w.heap.size (fun _ => True) v383 t380) ∧ Aside0 (Below w.heap.size w wc))
       case first => as_aux_lemma =>
        have H := HC50.out
        clear HC50
        by_cases c54 : (t382 != t387) = true
        ·rw [if_pos c54] at H
         have c54b0 : (t382 != t387) = true := c54
         (try (have c54b1 : decide (t382 = t387) = false := by simpa using c54))
         (try (have c54b2 : (t382 == t387) = false := by simpa using c54))
         (try (have c54b3 : ¬ (t382 = t387) := by simpa using c54))
         clear c54
         (first | rw [c54b0] | (simp only [i64_w, i32_w]; rw [c54b0]) | skip)
         have H' := Aside0.mk H
         clear H
         go_wp2
         go_meet
         case rel => exact ⟨_, (true), (by first | rfl | (simp; done) | (simp [*]; done)), H', ⟨by have := HJ6.out; have := HJ16.out; first | omega | exact Nat.le_refl _⟩, ⟨Kd.R_mono (zR_ HO384.out) (fun _ _ => trivial)⟩, ⟨zb_ HB.out⟩⟩
        ·rw [if_neg c54] at H
         have c54b0 : (t382 != t387) = false := by simpa using c54
         (try (have c54b1 : decide (t382 = t387) = true := by simpa using c54))
         (try (have c54b2 : (t382 == t387) = true := by simpa using c54))
         clear c54
         (first | rw [c54b0] | (simp only [i64_w, i32_w]; rw [c54b0]) | skip)
         by_cases c55 : t381 = t386
         ·rw [if_pos c55] at H
          have c55b0 : (t381 == t386) = true := beq_iff_eq.mpr c55
          have c55b1 : (t381 != t386) = false := bne_eq_false_iff_eq.mpr c55
          clear c55
          replace H := Option.bind_eq_some_iff.mp H
          obtain ⟨t390, A560, H⟩ := H
          replace H : (laws_FnProgram.j4 kj16 t379 t380 t382 (!t390)) = some r := H
          have A56 := Aside0.mk A560
          clear A560
          have H' := Aside0.mk H
          clear H
          obtain ⟨Ao57, co57, eo57⟩ := Kd.R_slice HO384.out
          subst eo57
          obtain ⟨Ao58, co58, eo58⟩ := Kd.R_slice HO389.out
          subst eo58
          go_wp2_with (first | (go_at_call 35; (with_reducible refine (laws_sameSteps.calls kj16 _ _ t380 _ _ t385 t390 _ ?side1 ?side2 ?side3 ?side4 A56.out).mono ?_); (case side1 => exact zC_ (Kd.R_reads' HO384.out).2.2); (case side2 => exact (Kd.R_reads' HO384.out).2.1); (case side3 => exact zC_ (Kd.R_reads' HO389.out).2.2); (case side4 => exact (Kd.R_reads' HO389.out).2.1); rintro e w' ⟨rfl, ⟨nd, rfl⟩⟩))
          go_meet
          case rel => exact ⟨_, (!t390), (by first | rfl | (simp; done) | (simp [*]; done)), H', ⟨by have := HJ6.out; have := HJ16.out; first | omega | exact Nat.le_refl _⟩, ⟨Kd.R_mono (zR_ HO384.out) (fun _ _ => trivial)⟩, ⟨zb_ HB.out⟩⟩
         ·rw [if_neg c55] at H
          have c55b0 : (t381 == t386) = false := beq_eq_false_iff_ne.mpr c55
          have c55b1 : (t381 != t386) = true := bne_iff_ne.mpr c55
          have H' := Aside0.mk H
          clear H
          go_wp2
          go_meet
          case rel => exact ⟨_, (true), (by first | rfl | (simp; done) | (simp [*]; done)), H', ⟨by have := HJ6.out; have := HJ16.out; first | omega | exact Nat.le_refl _⟩, ⟨Kd.R_mono (zR_ HO384.out) (fun _ _ => trivial)⟩, ⟨zb_ HB.out⟩⟩
       case rest => as_aux_lemma =>
        clear HC50
        try clear c1
        try clear c2
        try clear p2
        try clear c3
        try clear c3b0
        try clear p3
        try clear q3
        try clear hx3
        try clear c4
        try clear c5
        try clear p6
        try clear c12
        try clear c12b0
        try clear c12b1
        try clear c12b2
        try clear c13
        try clear c13b0
        try clear c13b1
        try clear c16
        try clear c18
        try clear c24
        try clear c25
        try clear c25b0
        try clear c25b1
        try clear c27
        try clear c29
        try clear c30
        try clear c31
        try clear c31b0
        try clear c31b1
        try clear c33
        try clear c33b0
        try clear c34
        try clear c34b0
        try clear c35
        try clear c35b0
        try clear c36
        try clear c36b0
        try clear c37
        try clear p37
        try clear q37
        try clear hx37
        try clear c38
        try clear c39
        try clear c39b0
        try clear c40
        try clear c40b0
        try clear c42
        try clear c42b0
        try clear c42b1
        try clear c43
        try clear c43b0
        try clear c43b1
        try clear c44
        try clear c44b0
        try clear c44b1
        try clear c45
        try clear c45b0
        try clear c45b1
        try clear c54
        try clear c54b0
        try clear c54b1
        try clear c54b2
        try clear c55
        try clear c55b0
        try clear c55b1
        try clear hx375_0
        try clear hx376_0
        try clear hx376_1
        try clear hx376_2
        try clear hx376_3
        try clear hx376_4
        try clear hx376_5
        try clear p2
        try clear p3
        try clear p37
        try clear p375
        try clear p376
        try clear p6
        try clear q3
        try clear q37
        try clear q375
        try clear q376
        obtain ⟨kq, x165_49, rfl, HA, HJ49, HO_20, HB⟩ := hcut
        cases kq with
        | zero => exact absurd HA.out (by simp [laws_FnProgram.j4])
        | succ kj49 =>
         have H := HA.out
         clear HA
         simp only [laws_FnProgram.j4] at H
         by_cases c59 : x165_49 = true
         ·subst c59
          have H1 : (none) = some r := by rw [if_pos rfl] at H; exact H
          clear H
          have H := H1
          clear H1
          exact absurd H (by simp)
         ·replace c59 := Bool.eq_false_iff.mpr c59
          subst c59
          have H1 : (if t382 = true then ((impl_ProgramBytes.f kj49 t380).bind fun bt391 => (if bt391.2 = true then (some (bt391.1.toList == t379.toList)) else (none))) else (some true)) = some r := by rw [if_neg (show ¬ (false = true) by decide)] at H; exact H
          clear H
          have H := H1
          clear H1
          by_cases c60 : t382 = true
          ·subst c60
           have H1 : ((impl_ProgramBytes.f kj49 t380).bind fun bt391 => (if bt391.2 = true then (some (bt391.1.toList == t379.toList)) else (none))) = some r := by rw [if_pos rfl] at H; exact H
           clear H
           have H := H1
           clear H1
           replace H := Option.bind_eq_some_iff.mp H
           obtain ⟨⟨t391, t392⟩, A610, H⟩ := H
           replace H : (if t392 = true then (some (t391.toList == t379.toList)) else (none)) = some r := H
           have A61 := Aside0.mk A610
           clear A610
           by_cases c62 : t392 = true
           ·subst c62
            have H1 : (some (t391.toList == t379.toList)) = some r := by rw [if_pos rfl] at H; exact H
            clear H
            have H := H1
            clear H1
            obtain rfl := Option.some.inj H
            obtain ⟨Ao63, co63, eo63⟩ := Kd.R_slice HO_20.out
            subst eo63
            go_wp2_with (first | ((with_reducible refine gate_callee (f := 30) rfl ?_); refine goesL_ (some 169) rfl rfl Try.func30 (by kernel_rfl) rfl #[.slice Ao63 t380.length co63] rfl (by simp only [zA_, zB_, zD_] <;> rfl) ?_; (with_reducible refine (impl_ProgramBytes.calls kj49 _ _ t380 t391 true _ ?side1 ?side2 A61.out).mono ?_); (case side1 => exact zC_ (Kd.R_reads' HO_20.out).2.2); (case side2 => exact (Kd.R_reads' HO_20.out).2.1); rintro e w64 ⟨rfl, hb⟩; refine ⟨_, rfl, ?_⟩; have n0_ := Aside0.mk (Kd.R_below (zR_ HO_20.out) hb); have n1_ := Aside0.mk (below_step (zb_ HB.out) hb); clear HO_20; clear HB; have HO_20 := n0_; have HB := n1_; clear n0_ n1_; (try clear hb); (try clear hb2); (try clear hk); (try clear hi)))
            go_ret
            exact ⟨by first | rfl | (simp [errW_none, errW_some] <;> rfl) | (simp [*, errW_none, errW_some] <;> rfl), zb_ HB.out⟩
           ·replace c62 := Bool.eq_false_iff.mpr c62
            subst c62
            have H1 : (none) = some r := by rw [if_neg (show ¬ (false = true) by decide)] at H; exact H
            clear H
            have H := H1
            clear H1
            exact absurd H (by simp)
          ·replace c60 := Bool.eq_false_iff.mpr c60
           subst c60
           have H1 : (some true) = some r := by rw [if_neg (show ¬ (false = true) by decide)] at H; exact H
           clear H
           have H := H1
           clear H1
           obtain rfl := Option.some.inj H
           go_wp2
           go_ret
           exact ⟨by first | rfl | (simp [errW_none, errW_some] <;> rfl) | (simp [*, errW_none, errW_some] <;> rfl), zb_ HB.out⟩
/-- THE ONE PURE STATEMENT of laws_FnProgram: yours. -/
def laws_FnProgram.Pure : Prop := ∀ (l0 : List Int) (l1 : List Int), l0.length ≤ maxLen → l0.length * 1 ≤ 140737488351232 → (∀ x ∈ l0, (Lit.int .u8 x).wf = true) → l1.length ≤ maxLen → l1.length * 1 ≤ 140737488351232 → (∀ x ∈ l1, (Lit.int .u8 x).wf = true) → ∃ k, laws_FnProgram.f k l0 l1 = some true
theorem laws_FnProgram.walk (P : laws_FnProgram.Pure) (a0 : Option Addr) (len0 cap0 : Nat) (z0 : List Int) (a1 : Option Addr) (len1 cap1 : Nat) (z1 : List Int) (w : World) (w0 : (a0 = none ∧ len0 = 0 ∧ cap0 = 0 ∧ z0 = []) ∨ ∃ x, a0 = some x ∧ len0 ≤ cap0 ∧ cap0 ≤ maxLen ∧ z0.length = cap0 ∧ (∀ i, i < z0.length → w.cell? (x.add i) = some (.int .u8 (z0.getD i 0))) ∧ ∀ n ∈ z0, (Lit.int .u8 n).wf = true) (y0 : len0 * 1 ≤ 140737488351232) (w1 : (a1 = none ∧ len1 = 0 ∧ cap1 = 0 ∧ z1 = []) ∨ ∃ x, a1 = some x ∧ len1 ≤ cap1 ∧ cap1 ≤ maxLen ∧ z1.length = cap1 ∧ (∀ i, i < z1.length → w.cell? (x.add i) = some (.int .u8 (z1.getD i 0))) ∧ ∀ n ∈ z1, (Lit.int .u8 n).wf = true) (y1 : len1 * 1 ≤ 140737488351232) :
  Calls Try.prog 5 #[.slice a0 len0 cap0, .slice a1 len1 cap1] w fun e w' => e = .returned (.bool true) ∧ Below w.heap.size w w' := by
 obtain ⟨l0, rfl, hr0, hm0, hw0, hc0⟩ := ReadsInt.ofRowC w0
 obtain ⟨l1, rfl, hr1, hm1, hw1, hc1⟩ := ReadsInt.ofRowC w1
 obtain ⟨k, h⟩ := P l0 l1 hm0 y0 hw0 hm1 y1 hw1
 refine (laws_FnProgram.calls k _ _ l0 _ _ l1 true w (Kd.C_of_reads (d := (0 : Int)) (h1 := fun _ => rfl) hr0) hc0 (Kd.C_of_reads (d := (0 : Int)) (h1 := fun _ => rfl) hr1) hc1 h).mono ?_
 rintro e w' ⟨rfl, hd⟩
 exact ⟨rfl, hd⟩
end Go.Proofs.Ytpkbjgmeejlchaa.PFnProgram
-- squeezed
