-- Made by a program of this session (wip/tools), which leans on the kit's print: checked by Lean alone.
import Derived.Test.YtpkbjgmeejlchabPFnResolvedx0
import Derived.Test.YtpkbjgmeejlchabPFnResolvedx2
import Derived.Test.YtpkbjgmeejlchabPFnResolvedx3
import Derived.Test.YtpkbjgmeejlchabPFnResolvedx5
import Derived.Test.YtpkbjgmeejlchabPFnResolvedx6
import Derived.Test.YtpkbjgmeejlchabPFnResolvedx7
import Derived.Test.YtpkbjgmeejlchabPFnResolvedx8
import Derived.Test.YtpkbjgmeejlchabPFnResolvedx9
namespace Go.Proofs.Ytpkbjgmeejlchab.PFnResolved
open Go.RowKit Go.Proofs.YtpkbjgmeejlchabW.PrintWords Go.Proofs.YtpkbjgmeejlchabW.PrintLast Go.Proofs.YtpkbjgmeejlchabW.PrintMore
attribute [local go_sem] max2_int min2_int max_two min_two max_three min_three max_four min_four   -- for this text's walks alone
set_option linter.unusedVariables false
set_option linter.unusedSimpArgs false

/-! ### laws_FnResolved: function 5 -/
mutual
def laws_FnResolved.j0 : Nat → List Int → List Int → List Int → Int → List Int → Bool → Bool → Option (Bool)
 | 0, _, _, _, _, _, _, _ => none
 | k + 1, x1, x5, x6, x7, x8, x9, x72 => if x72 = true then (none) else (if x9 = true then (laws_FnResolved.l0 k x1 x5 x6 x7 x8 0) else (laws_FnResolved.j2 k x1))
def laws_FnResolved.j2 : Nat → List Int → Option (Bool)
 | 0, _ => none
 | k + 1, x1 => (spec_DrawCleanClause.f k x1).bind fun t389 => ((impl_CleanClause.f k t389).bind fun bt392 => ((spec_CleanClause.f k t389).bind fun bt396 => ((spec_DrawCountModels.f k x1).bind fun bt400 => ((impl_CountModels.f k bt400.1 bt400.2).bind fun bt404 => ((spec_CountModels.f k bt400.1 bt400.2).bind fun bt406 => ((spec_DrawHoldsAll.f k x1).bind fun bt408 => ((impl_HoldsAll.f bt408.1 bt408.2.1 bt408.2.2).bind fun bt415 => ((spec_HoldsAll.f k bt408.1 bt408.2.1 bt408.2.2).bind fun bt417 => (if (bt392.2 != bt396.2) = true then (laws_FnResolved.j3 k bt392.1 bt392.2 true) else ((laws_sameInts.f k bt392.1 bt396.1).bind fun t419 => (if t419 = true then (if (bt404.2 != bt406.2) = true then (laws_FnResolved.j3 k bt392.1 bt392.2 true) else (if bt404.1 = bt406.1 then (if (bt415.2 != bt417.2) = true then (laws_FnResolved.j3 k bt392.1 bt392.2 true) else (laws_FnResolved.j3 k bt392.1 bt392.2 (bt415.1 != bt417.1))) else (laws_FnResolved.j3 k bt392.1 bt392.2 true))) else (laws_FnResolved.j3 k bt392.1 bt392.2 true))))))))))))
def laws_FnResolved.j3 : Nat → List Int → Bool → Bool → Option (Bool)
 | 0, _, _, _ => none
 | k + 1, x19, x20, x198 => if x198 = true then (none) else (if x20 = true then ((impl_CleanClause.f k x19).bind fun bt420 => (if bt420.2 = true then ((laws_sameInts.f k bt420.1 x19).bind fun t424 => (some t424)) else (none))) else (some true))
def laws_FnResolved.l0 : Nat → List Int → List Int → List Int → Int → List Int → Int → Option (Bool)
 | 0, _, _, _, _, _, _ => none
 | k + 1, x1, x5, x6, x7, x8, x12 => if x12 < 64 then ((laws_numberOf.f k x1).bind fun t373 => ((laws_modelOf.f k 12 (wrap64 ((wrap64 (t373 * 64)) + x12))).bind fun t374 => ((impl_HoldsAll.f 12 (([x5, x6] : List (List Int))) t374).bind fun bt380 => ((impl_HoldsAll.f 12 (([x8] : List (List Int))) t374).bind fun bt385 => (if bt380.2 = true then (if bt385.2 = true then (if bt380.1 = true then (if bt385.1 = true then (laws_FnResolved.l0 k x1 x5 x6 x7 x8 (wrap64 (x12 + 1))) else (none)) else (laws_FnResolved.l0 k x1 x5 x6 x7 x8 (wrap64 (x12 + 1)))) else (none)) else (none)))))) else ((laws_has.f k x8 x7).bind fun t387 => (if t387 = true then (none) else ((laws_has.f k x8 (wrap64 (-x7))).bind fun t388 => (if t388 = true then (none) else (laws_FnResolved.j2 k x1)))))
end
def laws_FnResolved.f (k : Nat) (l0 : List Int) (l1 : List Int) : Option (Bool) := if (wrap64 ((l0.length : Int) + (l1.length : Int))) > 1048576 then (some true) else ((spec_DrawResolve.f k l0).bind fun bt357 => ((impl_Resolve.f k bt357.1 bt357.2.1 bt357.2.2).bind fun bt364 => ((spec_Resolve.f k bt357.1 bt357.2.1 bt357.2.2).bind fun bt368 => (if (bt364.2 != bt368.2) = true then (laws_FnResolved.j0 k l1 bt357.1 bt357.2.1 bt357.2.2 bt364.1 bt364.2 true) else ((laws_sameInts.f k bt364.1 bt368.1).bind fun t372 => (laws_FnResolved.j0 k l1 bt357.1 bt357.2.1 bt357.2.2 bt364.1 bt364.2 (!t372)))))))
theorem laws_FnResolved.mono_l : ∀ k, (∀ y0 y1 y2 y3 y4 y5 y6, LeO (laws_FnResolved.j0 k y0 y1 y2 y3 y4 y5 y6) (laws_FnResolved.j0 (k + 1) y0 y1 y2 y3 y4 y5 y6)) ∧ (∀ y0, LeO (laws_FnResolved.j2 k y0) (laws_FnResolved.j2 (k + 1) y0)) ∧ (∀ y0 y1 y2, LeO (laws_FnResolved.j3 k y0 y1 y2) (laws_FnResolved.j3 (k + 1) y0 y1 y2)) ∧ (∀ y0 y1 y2 y3 y4 y5, LeO (laws_FnResolved.l0 k y0 y1 y2 y3 y4 y5) (laws_FnResolved.l0 (k + 1) y0 y1 y2 y3 y4 y5))
 | 0 => ⟨fun _ _ _ _ _ _ _ r h => by simp [laws_FnResolved.j0] at h, fun _ r h => by simp [laws_FnResolved.j2] at h, fun _ _ _ r h => by simp [laws_FnResolved.j3] at h, fun _ _ _ _ _ _ r h => by simp [laws_FnResolved.l0] at h⟩
 | k + 1 => by
  obtain ⟨ih0, ih1, ih2, ih3⟩ := laws_FnResolved.mono_l k
  refine ⟨?_, ?_, ?_, ?_⟩
  ·intro y0 y1 y2 y3 y4 y5 y6
   unfold laws_FnResolved.j0
   repeat' first
   | (with_reducible exact ih0 _ _ _ _ _ _ _)
   | (with_reducible exact ih1 _)
   | (with_reducible exact ih2 _ _ _)
   | (with_reducible exact ih3 _ _ _ _ _ _)
   | (with_reducible exact impl_CleanClause.mono _ _)
   | (with_reducible exact impl_CountModels.mono _ _ _)
   | (with_reducible exact impl_Resolve.mono _ _ _ _)
   | (with_reducible exact laws_has.mono _ _ _)
   | (with_reducible exact laws_modelOf.mono _ _ _)
   | (with_reducible exact laws_numberOf.mono _ _)
   | (with_reducible exact laws_sameInts.mono _ _ _)
   | (with_reducible exact spec_CleanClause.mono _ _)
   | (with_reducible exact spec_CountModels.mono _ _ _)
   | (with_reducible exact spec_DrawCleanClause.mono _ _)
   | (with_reducible exact spec_DrawCountModels.mono _ _)
   | (with_reducible exact spec_DrawHoldsAll.mono _ _)
   | (with_reducible exact spec_DrawResolve.mono _ _)
   | (with_reducible exact spec_HoldsAll.mono _ _ _ _)
   | (with_reducible exact spec_Resolve.mono _ _ _ _)
   | (with_reducible exact LeO.refl _)
   | (with_reducible exact LeO.none _)
   | (with_reducible refine LeO.ite ?_ ?_)
   | (with_reducible refine LeO.bind ?_ (fun _ => ?_))
   | exact ih0 _ _ _ _ _ _ _
   | exact ih1 _
   | exact ih2 _ _ _
   | exact ih3 _ _ _ _ _ _
   | exact impl_CleanClause.mono _ _
   | exact impl_CountModels.mono _ _ _
   | exact impl_Resolve.mono _ _ _ _
   | exact laws_has.mono _ _ _
   | exact laws_modelOf.mono _ _ _
   | exact laws_numberOf.mono _ _
   | exact laws_sameInts.mono _ _ _
   | exact spec_CleanClause.mono _ _
   | exact spec_CountModels.mono _ _ _
   | exact spec_DrawCleanClause.mono _ _
   | exact spec_DrawCountModels.mono _ _
   | exact spec_DrawHoldsAll.mono _ _
   | exact spec_DrawResolve.mono _ _
   | exact spec_HoldsAll.mono _ _ _ _
   | exact spec_Resolve.mono _ _ _ _
   | exact LeO.none _
   | refine LeO.ite ?_ ?_
   | refine LeO.bind ?_ (fun _ => ?_)
  ·intro y0
   unfold laws_FnResolved.j2
   repeat' first
   | (with_reducible exact ih0 _ _ _ _ _ _ _)
   | (with_reducible exact ih1 _)
   | (with_reducible exact ih2 _ _ _)
   | (with_reducible exact ih3 _ _ _ _ _ _)
   | (with_reducible exact impl_CleanClause.mono _ _)
   | (with_reducible exact impl_CountModels.mono _ _ _)
   | (with_reducible exact impl_Resolve.mono _ _ _ _)
   | (with_reducible exact laws_has.mono _ _ _)
   | (with_reducible exact laws_modelOf.mono _ _ _)
   | (with_reducible exact laws_numberOf.mono _ _)
   | (with_reducible exact laws_sameInts.mono _ _ _)
   | (with_reducible exact spec_CleanClause.mono _ _)
   | (with_reducible exact spec_CountModels.mono _ _ _)
   | (with_reducible exact spec_DrawCleanClause.mono _ _)
   | (with_reducible exact spec_DrawCountModels.mono _ _)
   | (with_reducible exact spec_DrawHoldsAll.mono _ _)
   | (with_reducible exact spec_DrawResolve.mono _ _)
   | (with_reducible exact spec_HoldsAll.mono _ _ _ _)
   | (with_reducible exact spec_Resolve.mono _ _ _ _)
   | (with_reducible exact LeO.refl _)
   | (with_reducible exact LeO.none _)
   | (with_reducible refine LeO.ite ?_ ?_)
   | (with_reducible refine LeO.bind ?_ (fun _ => ?_))
   | exact ih0 _ _ _ _ _ _ _
   | exact ih1 _
   | exact ih2 _ _ _
   | exact ih3 _ _ _ _ _ _
   | exact impl_CleanClause.mono _ _
   | exact impl_CountModels.mono _ _ _
   | exact impl_Resolve.mono _ _ _ _
   | exact laws_has.mono _ _ _
   | exact laws_modelOf.mono _ _ _
   | exact laws_numberOf.mono _ _
   | exact laws_sameInts.mono _ _ _
   | exact spec_CleanClause.mono _ _
   | exact spec_CountModels.mono _ _ _
   | exact spec_DrawCleanClause.mono _ _
   | exact spec_DrawCountModels.mono _ _
   | exact spec_DrawHoldsAll.mono _ _
   | exact spec_DrawResolve.mono _ _
   | exact spec_HoldsAll.mono _ _ _ _
   | exact spec_Resolve.mono _ _ _ _
   | exact LeO.none _
   | refine LeO.ite ?_ ?_
   | refine LeO.bind ?_ (fun _ => ?_)
  ·intro y0 y1 y2
   unfold laws_FnResolved.j3
   repeat' first
   | (with_reducible exact ih0 _ _ _ _ _ _ _)
   | (with_reducible exact ih1 _)
   | (with_reducible exact ih2 _ _ _)
   | (with_reducible exact ih3 _ _ _ _ _ _)
   | (with_reducible exact impl_CleanClause.mono _ _)
   | (with_reducible exact impl_CountModels.mono _ _ _)
   | (with_reducible exact impl_Resolve.mono _ _ _ _)
   | (with_reducible exact laws_has.mono _ _ _)
   | (with_reducible exact laws_modelOf.mono _ _ _)
   | (with_reducible exact laws_numberOf.mono _ _)
   | (with_reducible exact laws_sameInts.mono _ _ _)
   | (with_reducible exact spec_CleanClause.mono _ _)
   | (with_reducible exact spec_CountModels.mono _ _ _)
   | (with_reducible exact spec_DrawCleanClause.mono _ _)
   | (with_reducible exact spec_DrawCountModels.mono _ _)
   | (with_reducible exact spec_DrawHoldsAll.mono _ _)
   | (with_reducible exact spec_DrawResolve.mono _ _)
   | (with_reducible exact spec_HoldsAll.mono _ _ _ _)
   | (with_reducible exact spec_Resolve.mono _ _ _ _)
   | (with_reducible exact LeO.refl _)
   | (with_reducible exact LeO.none _)
   | (with_reducible refine LeO.ite ?_ ?_)
   | (with_reducible refine LeO.bind ?_ (fun _ => ?_))
   | exact ih0 _ _ _ _ _ _ _
   | exact ih1 _
   | exact ih2 _ _ _
   | exact ih3 _ _ _ _ _ _
   | exact impl_CleanClause.mono _ _
   | exact impl_CountModels.mono _ _ _
   | exact impl_Resolve.mono _ _ _ _
   | exact laws_has.mono _ _ _
   | exact laws_modelOf.mono _ _ _
   | exact laws_numberOf.mono _ _
   | exact laws_sameInts.mono _ _ _
   | exact spec_CleanClause.mono _ _
   | exact spec_CountModels.mono _ _ _
   | exact spec_DrawCleanClause.mono _ _
   | exact spec_DrawCountModels.mono _ _
   | exact spec_DrawHoldsAll.mono _ _
   | exact spec_DrawResolve.mono _ _
   | exact spec_HoldsAll.mono _ _ _ _
   | exact spec_Resolve.mono _ _ _ _
   | exact LeO.none _
   | refine LeO.ite ?_ ?_
   | refine LeO.bind ?_ (fun _ => ?_)
  ·intro y0 y1 y2 y3 y4 y5
   unfold laws_FnResolved.l0
   repeat' first
   | (with_reducible exact ih0 _ _ _ _ _ _ _)
   | (with_reducible exact ih1 _)
   | (with_reducible exact ih2 _ _ _)
   | (with_reducible exact ih3 _ _ _ _ _ _)
   | (with_reducible exact impl_CleanClause.mono _ _)
   | (with_reducible exact impl_CountModels.mono _ _ _)
   | (with_reducible exact impl_Resolve.mono _ _ _ _)
   | (with_reducible exact laws_has.mono _ _ _)
   | (with_reducible exact laws_modelOf.mono _ _ _)
   | (with_reducible exact laws_numberOf.mono _ _)
   | (with_reducible exact laws_sameInts.mono _ _ _)
   | (with_reducible exact spec_CleanClause.mono _ _)
   | (with_reducible exact spec_CountModels.mono _ _ _)
   | (with_reducible exact spec_DrawCleanClause.mono _ _)
   | (with_reducible exact spec_DrawCountModels.mono _ _)
   | (with_reducible exact spec_DrawHoldsAll.mono _ _)
   | (with_reducible exact spec_DrawResolve.mono _ _)
   | (with_reducible exact spec_HoldsAll.mono _ _ _ _)
   | (with_reducible exact spec_Resolve.mono _ _ _ _)
   | (with_reducible exact LeO.refl _)
   | (with_reducible exact LeO.none _)
   | (with_reducible refine LeO.ite ?_ ?_)
   | (with_reducible refine LeO.bind ?_ (fun _ => ?_))
   | exact ih0 _ _ _ _ _ _ _
   | exact ih1 _
   | exact ih2 _ _ _
   | exact ih3 _ _ _ _ _ _
   | exact impl_CleanClause.mono _ _
   | exact impl_CountModels.mono _ _ _
   | exact impl_Resolve.mono _ _ _ _
   | exact laws_has.mono _ _ _
   | exact laws_modelOf.mono _ _ _
   | exact laws_numberOf.mono _ _
   | exact laws_sameInts.mono _ _ _
   | exact spec_CleanClause.mono _ _
   | exact spec_CountModels.mono _ _ _
   | exact spec_DrawCleanClause.mono _ _
   | exact spec_DrawCountModels.mono _ _
   | exact spec_DrawHoldsAll.mono _ _
   | exact spec_DrawResolve.mono _ _
   | exact spec_HoldsAll.mono _ _ _ _
   | exact spec_Resolve.mono _ _ _ _
   | exact LeO.none _
   | refine LeO.ite ?_ ?_
   | refine LeO.bind ?_ (fun _ => ?_)
theorem laws_FnResolved.mono : ∀ a0 a1 k, LeO (laws_FnResolved.f k a0 a1) (laws_FnResolved.f (k + 1) a0 a1) := by
 intro a0 a1 k
 obtain ⟨ih0, ih1, ih2, ih3⟩ := laws_FnResolved.mono_l k
 unfold laws_FnResolved.f
 repeat' first
   | (with_reducible exact ih0 _ _ _ _ _ _ _)
   | (with_reducible exact ih1 _)
   | (with_reducible exact ih2 _ _ _)
   | (with_reducible exact ih3 _ _ _ _ _ _)
   | (with_reducible exact impl_CleanClause.mono _ _)
   | (with_reducible exact impl_CountModels.mono _ _ _)
   | (with_reducible exact impl_Resolve.mono _ _ _ _)
   | (with_reducible exact laws_has.mono _ _ _)
   | (with_reducible exact laws_modelOf.mono _ _ _)
   | (with_reducible exact laws_numberOf.mono _ _)
   | (with_reducible exact laws_sameInts.mono _ _ _)
   | (with_reducible exact spec_CleanClause.mono _ _)
   | (with_reducible exact spec_CountModels.mono _ _ _)
   | (with_reducible exact spec_DrawCleanClause.mono _ _)
   | (with_reducible exact spec_DrawCountModels.mono _ _)
   | (with_reducible exact spec_DrawHoldsAll.mono _ _)
   | (with_reducible exact spec_DrawResolve.mono _ _)
   | (with_reducible exact spec_HoldsAll.mono _ _ _ _)
   | (with_reducible exact spec_Resolve.mono _ _ _ _)
   | (with_reducible exact LeO.refl _)
   | (with_reducible exact LeO.none _)
   | (with_reducible refine LeO.ite ?_ ?_)
   | (with_reducible refine LeO.bind ?_ (fun _ => ?_))
   | exact ih0 _ _ _ _ _ _ _
   | exact ih1 _
   | exact ih2 _ _ _
   | exact ih3 _ _ _ _ _ _
   | exact impl_CleanClause.mono _ _
   | exact impl_CountModels.mono _ _ _
   | exact impl_Resolve.mono _ _ _ _
   | exact laws_has.mono _ _ _
   | exact laws_modelOf.mono _ _ _
   | exact laws_numberOf.mono _ _
   | exact laws_sameInts.mono _ _ _
   | exact spec_CleanClause.mono _ _
   | exact spec_CountModels.mono _ _ _
   | exact spec_DrawCleanClause.mono _ _
   | exact spec_DrawCountModels.mono _ _
   | exact spec_DrawHoldsAll.mono _ _
   | exact spec_DrawResolve.mono _ _
   | exact spec_HoldsAll.mono _ _ _ _
   | exact spec_Resolve.mono _ _ _ _
   | exact LeO.none _
   | refine LeO.ite ?_ ?_
   | refine LeO.bind ?_ (fun _ => ?_)
set_option maxHeartbeats 8000000 in
set_option maxRecDepth 100000 in
theorem laws_FnResolved.calls (k : Nat) (A0 : Option Addr) (c0 : Nat) (l0 : List Int) (A1 : Option Addr) (c1 : Nat) (l1 : List Int) (r : Bool) (w : World) (hr0 : Kd.C (Kd.int .u8) w A0 l0.length l0) (hc0 : l0.length ≤ c0) (hr1 : Kd.C (Kd.int .u8) w A1 l1.length l1) (hc1 : l1.length ≤ c1) (h : laws_FnResolved.f k l0 l1 = some r) :
  Calls Try.prog 5 #[.slice A0 l0.length c0, .slice A1 l1.length c1] w fun e w' => e = .returned (.bool r) ∧ Below w.heap.size w w' := by
 have HR0 := Aside0.mk hr0
 have HC0 := Aside0.mk hc0
 clear hr0 hc0
 have HR1 := Aside0.mk hr1
 have HC1 := Aside0.mk hc1
 clear hr1 hc1
 have HB := Aside0.mk (Below.refl w.heap.size w)
 have HTop := Aside0.mk (Nat.zero_le w.heap.size)
 have H : (if (wrap64 ((l0.length : Int) + (l1.length : Int))) > 1048576 then (some true) else ((spec_DrawResolve.f k l0).bind fun bt357 => ((impl_Resolve.f k bt357.1 bt357.2.1 bt357.2.2).bind fun bt364 => ((spec_Resolve.f k bt357.1 bt357.2.1 bt357.2.2).bind fun bt368 => (if (bt364.2 != bt368.2) = true then (laws_FnResolved.j0 k l1 bt357.1 bt357.2.1 bt357.2.2 bt364.1 bt364.2 true) else ((laws_sameInts.f k bt364.1 bt368.1).bind fun t372 => (laws_FnResolved.j0 k l1 bt357.1 bt357.2.1 bt357.2.2 bt364.1 bt364.2 (!t372)))))))) = some r := h
 clear h
 by_cases c3 : (wrap64 ((l0.length : Int) + (l1.length : Int))) > 1048576
 ·rw [if_pos c3] at H
  have c3b0 : decide (1048576 < (wrap64 ((l0.length : Int) + (l1.length : Int)))) = true := decide_eq_true c3
  clear c3
  obtain rfl := Option.some.inj H
  go_enter Try.func5, Try.ntmps5
  go_wp2
  go_ret
  exact ⟨by first | rfl | (simp [errW_none, errW_some] <;> rfl) | (simp [*, errW_none, errW_some] <;> rfl), zb_ HB.out⟩
 ·rw [if_neg c3] at H
  have c3b0 : decide (1048576 < (wrap64 ((l0.length : Int) + (l1.length : Int)))) = false := decide_eq_false c3
  clear c3
  replace H := Option.bind_eq_some_iff.mp H
  obtain ⟨⟨t357, t358, t359⟩, A40, H⟩ := H
  replace H : ((impl_Resolve.f k t357 t358 t359).bind fun bt364 => ((spec_Resolve.f k t357 t358 t359).bind fun bt368 => (if (bt364.2 != bt368.2) = true then (laws_FnResolved.j0 k l1 t357 t358 t359 bt364.1 bt364.2 true) else ((laws_sameInts.f k bt364.1 bt368.1).bind fun t372 => (laws_FnResolved.j0 k l1 t357 t358 t359 bt364.1 bt364.2 (!t372)))))) = some r := H
  have A4 := Aside0.mk A40
  clear A40
  replace H := Option.bind_eq_some_iff.mp H
  obtain ⟨⟨t364, t365⟩, A50, H⟩ := H
  replace H : ((spec_Resolve.f k t357 t358 t359).bind fun bt368 => (if (t365 != bt368.2) = true then (laws_FnResolved.j0 k l1 t357 t358 t359 t364 t365 true) else ((laws_sameInts.f k t364 bt368.1).bind fun t372 => (laws_FnResolved.j0 k l1 t357 t358 t359 t364 t365 (!t372))))) = some r := H
  have A5 := Aside0.mk A50
  clear A50
  replace H := Option.bind_eq_some_iff.mp H
  obtain ⟨⟨t368, t369⟩, A60, H⟩ := H
  replace H : (if (t365 != t369) = true then (laws_FnResolved.j0 k l1 t357 t358 t359 t364 t365 true) else ((laws_sameInts.f k t364 t368).bind fun t372 => (laws_FnResolved.j0 k l1 t357 t358 t359 t364 t365 (!t372)))) = some r := H
  have A6 := Aside0.mk A60
  clear A60
  have HC7 := Aside0.mk H
  clear H
  go_enter Try.func5, Try.ntmps5
  go_upto_region 6 with (first | ((with_reducible refine gate_callee (f := 35) rfl ?_); refine goesL_ (some 46) rfl rfl Try.func35 (by kernel_rfl) rfl #[.slice A0 l0.length c0] rfl (by (try simp only [List.map_toArray, List.map_cons, List.map_nil]); first | done | rfl | (simp only [List.length_drop, List.length_take]; rfl)) ?_; (with_reducible refine (spec_DrawResolve.calls k _ _ l0 t357 t358 t359 _ ?side1 ?side2 A4.out).mono ?_); (case side1 => exact zC_ HR0.out); (case side2 => exact HC0.out); rintro e w8 ⟨v360, v362, rfl, ho0, ho1, hb⟩; refine ⟨_, rfl, ?_⟩; obtain ⟨lo1, hi1, EL1, EH1, LE1⟩ := iv_ hb; have OR1 := Aside0.mk (show 0 ≤ lo1 ∧ lo1 ≤ hi1 from ⟨Nat.zero_le _, LE1⟩); have n0_ := Aside0.mk (Kd.R_mono (ok' := fun k_ => lo1 ≤ k_ ∧ k_ < hi1) (Kd.R_lower (Kd.R_bound ho0) (below_size (zb_ HB.out))) (fun k_ hk_ => by have a_ := hk_.2.1; have b_ := hk_.2.2.1; omega)); have n1_ := Aside0.mk (Kd.R_mono (ok' := fun k_ => lo1 ≤ k_ ∧ k_ < hi1) (Kd.R_lower (Kd.R_bound ho1) (below_size (zb_ HB.out))) (fun k_ hk_ => by have a_ := hk_.2.1; have b_ := hk_.2.2.1; omega)); have n2_ := Aside0.mk (Nat.le_of_eq EH1.symm); have n3_ := Aside0.mk (below_step (zb_ HB.out) hb); clear HTop; clear HB; have HO361 := n0_; have HO363 := n1_; have HTop := n2_; have HB := n3_; clear n0_ n1_ n2_ n3_; (try clear hb); (try clear hb2); (try clear hk); (try clear hi); (try clear ho0); (try clear ho1); (try clear EL1); (try clear EH1); (try clear LE1); obtain ⟨Ao9, co9, eo9⟩ := Kd.R_slice HO361.out; subst eo9; obtain ⟨Ao10, co10, eo10⟩ := Kd.R_slice HO363.out; subst eo10) | ((with_reducible refine gate_callee (f := 36) rfl ?_); refine goesL_ (some 54) rfl rfl Try.func36 (by kernel_rfl) rfl #[.slice Ao9 t357.length co9, .slice Ao10 t358.length co10, .int .i64 t359] rfl (by (try simp only [List.map_toArray, List.map_cons, List.map_nil]); first | done | rfl | (simp only [List.length_drop, List.length_take]; rfl)) ?_; (with_reducible refine (impl_Resolve.calls k _ _ t357 _ _ t358 t359 t364 t365 _ ?side1 ?side2 ?side3 ?side4 A5.out).mono ?_); (case side1 => exact zC_ (Kd.R_reads' HO361.out).2.2); (case side2 => exact (Kd.R_reads' HO361.out).2.1); (case side3 => exact zC_ (Kd.R_reads' HO363.out).2.2); (case side4 => exact (Kd.R_reads' HO363.out).2.1); rintro e w11 ⟨v366, rfl, ho0, hb⟩; refine ⟨_, rfl, ?_⟩; obtain ⟨lo2, hi2, EL2, EH2, LE2⟩ := iv_ hb; have OR2 := Aside0.mk (show hi1 ≤ lo2 ∧ lo2 ≤ hi2 from ⟨Nat.le_trans HTop.out (Nat.le_of_eq EL2), LE2⟩); have n0_ := Aside0.mk (Kd.R_below (zR_ HO361.out) hb); have n1_ := Aside0.mk (Kd.R_below (zR_ HO363.out) hb); have n2_ := Aside0.mk (Kd.R_mono (ok' := fun k_ => lo2 ≤ k_ ∧ k_ < hi2) (Kd.R_lower (Kd.R_bound ho0) (below_size (zb_ HB.out))) (fun k_ hk_ => by have a_ := hk_.2.1; have b_ := hk_.2.2.1; omega)); have n3_ := Aside0.mk (Nat.le_of_eq EH2.symm); have n4_ := Aside0.mk (below_step (zb_ HB.out) hb); clear HO361; clear HO363; clear HTop; clear HB; have HO361 := n0_; have HO363 := n1_; have HO367 := n2_; have HTop := n3_; have HB := n4_; clear n0_ n1_ n2_ n3_ n4_; (try clear hb); (try clear hb2); (try clear hk); (try clear hi); (try clear ho0); (try clear EL2); (try clear EH2); (try clear LE2)) | ((with_reducible refine gate_callee (f := 37) rfl ?_); refine goesL_ (some 61) rfl rfl Try.func37 (by kernel_rfl) rfl #[.slice Ao9 t357.length co9, .slice Ao10 t358.length co10, .int .i64 t359] rfl (by (try simp only [List.map_toArray, List.map_cons, List.map_nil]); first | done | rfl | (simp only [List.length_drop, List.length_take]; rfl)) ?_; (with_reducible refine (spec_Resolve.calls k _ _ t357 _ _ t358 t359 t368 t369 _ ?side1 ?side2 ?side3 ?side4 A6.out).mono ?_); (case side1 => exact zC_ (Kd.R_reads' HO361.out).2.2); (case side2 => exact (Kd.R_reads' HO361.out).2.1); (case side3 => exact zC_ (Kd.R_reads' HO363.out).2.2); (case side4 => exact (Kd.R_reads' HO363.out).2.1); rintro e w12 ⟨v370, rfl, ho0, hb⟩; refine ⟨_, rfl, ?_⟩; obtain ⟨lo3, hi3, EL3, EH3, LE3⟩ := iv_ hb; have OR3 := Aside0.mk (show hi2 ≤ lo3 ∧ lo3 ≤ hi3 from ⟨Nat.le_trans HTop.out (Nat.le_of_eq EL3), LE3⟩); have n0_ := Aside0.mk (Kd.R_below (zR_ HO361.out) hb); have n1_ := Aside0.mk (Kd.R_below (zR_ HO363.out) hb); have n2_ := Aside0.mk (Kd.R_below (zR_ HO367.out) hb); have n3_ := Aside0.mk (Kd.R_mono (ok' := fun k_ => lo3 ≤ k_ ∧ k_ < hi3) (Kd.R_lower (Kd.R_bound ho0) (below_size (zb_ HB.out))) (fun k_ hk_ => by have a_ := hk_.2.1; have b_ := hk_.2.2.1; omega)); have n4_ := Aside0.mk (Nat.le_of_eq EH3.symm); have n5_ := Aside0.mk (below_step (zb_ HB.out) hb); clear HO361; clear HO363; clear HO367; clear HTop; clear HB; have HO361 := n0_; have HO363 := n1_; have HO367 := n2_; have HO371 := n3_; have HTop := n4_; have HB := n5_; clear n0_ n1_ n2_ n3_ n4_ n5_; (try clear hb); (try clear hb2); (try clear hk); (try clear hi); (try clear ho0); (try clear EL3); (try clear EH3); (try clear LE3)))
  (try simp only [Act.put, List.setIfInBounds_toArray, List.set_cons_zero, List.set_cons_succ])
  go_cut [72] (fun v72 wc => ∃ (kq : Nat) (x72_6 : Bool), v72 = .bool x72_6 ∧ Aside0 (laws_FnResolved.j0 kq l1 t357 t358 t359 t364 t365 x72_6 = some r) ∧ Aside0 (kq ≤ k) ∧ Aside0 (Kd.R (Kd.int .i64) 3 wc w.heap.size (fun _ => True) (.slice Ao9 t357.length co9) t357) ∧ Aside0 (Kd.R (Kd.int .i64) 3 wc w.heap.size (fun _ => True) (.slice Ao10 t358.length co10) t358) ∧ Aside0 (Kd.R (Kd.int .i64) 3 wc w.heap.size (fun _ => True) v366 t364) ∧ Aside0 (Below w.heap.size w wc))
  case first =>
   have H := HC7.out
   clear HC7
   by_cases c13 : (t365 != t369) = true
   ·rw [if_pos c13] at H
    have c13b0 : (t365 != t369) = true := c13
    (try (have c13b1 : decide (t365 = t369) = false := by simpa using c13))
    (try (have c13b2 : (t365 == t369) = false := by simpa using c13))
    (try (have c13b3 : ¬ (t365 = t369) := by simpa using c13))
    clear c13
    (first | rw [c13b0] | (simp only [i64_w, i32_w]; rw [c13b0]) | skip)
    have H' := Aside0.mk H
    clear H
    go_wp2
    go_meet
    case rel => exact ⟨_, (true), (by first | rfl | (simp; done) | (simp [*]; done)), H', ⟨by first | omega | exact Nat.le_refl _⟩, ⟨Kd.R_mono (zR_ HO361.out) (fun _ _ => trivial)⟩, ⟨Kd.R_mono (zR_ HO363.out) (fun _ _ => trivial)⟩, ⟨Kd.R_mono (zR_ HO367.out) (fun _ _ => trivial)⟩, ⟨zb_ HB.out⟩⟩
   ·rw [if_neg c13] at H
    have c13b0 : (t365 != t369) = false := by simpa using c13
    (try (have c13b1 : decide (t365 = t369) = true := by simpa using c13))
    (try (have c13b2 : (t365 == t369) = true := by simpa using c13))
    clear c13
    (first | rw [c13b0] | (simp only [i64_w, i32_w]; rw [c13b0]) | skip)
    replace H := Option.bind_eq_some_iff.mp H
    obtain ⟨t372, A140, H⟩ := H
    replace H : (laws_FnResolved.j0 k l1 t357 t358 t359 t364 t365 (!t372)) = some r := H
    have A14 := Aside0.mk A140
    clear A140
    have H' := Aside0.mk H
    clear H
    obtain ⟨Ao15, co15, eo15⟩ := Kd.R_slice HO367.out
    subst eo15
    obtain ⟨Ao16, co16, eo16⟩ := Kd.R_slice HO371.out
    subst eo16
    go_wp2_with (first | (go_at_call 20; (with_reducible refine (laws_sameInts.calls k _ _ t364 _ _ t368 t372 _ ?side1 ?side2 ?side3 ?side4 A14.out).mono ?_); (case side1 => exact zC_ (Kd.R_reads' HO367.out).2.2); (case side2 => exact (Kd.R_reads' HO367.out).2.1); (case side3 => exact zC_ (Kd.R_reads' HO371.out).2.2); (case side4 => exact (Kd.R_reads' HO371.out).2.1); rintro e w' ⟨rfl, ⟨nd, rfl⟩⟩))
    go_meet
    case rel => exact ⟨_, (!t372), (by first | rfl | (simp; done) | (simp [*]; done)), H', ⟨by first | omega | exact Nat.le_refl _⟩, ⟨Kd.R_mono (zR_ HO361.out) (fun _ _ => trivial)⟩, ⟨Kd.R_mono (zR_ HO363.out) (fun _ _ => trivial)⟩, ⟨Kd.R_mono (zR_ HO367.out) (fun _ _ => trivial)⟩, ⟨zb_ HB.out⟩⟩
  case rest =>
   clear HC7
   try clear c1
   try clear p2
   try clear c3
   try clear c3b0
   try clear c5
   try clear p6
   try clear c13
   try clear c13b0
   try clear c13b1
   try clear c13b2
   obtain ⟨kq, x72_6, rfl, HA, HJ6, HO_5, HO_6, HO_8, HB⟩ := hcut
   cases kq with
   | zero => exact absurd HA.out (by simp [laws_FnResolved.j0])
   | succ kj6 =>
    have H := HA.out
    clear HA
    simp only [laws_FnResolved.j0] at H
    by_cases c17 : x72_6 = true
    ·subst c17
     have H1 : (none) = some r := by rw [if_pos rfl] at H; exact H
     clear H
     have H := H1
     clear H1
     exact absurd H (by simp)
    ·replace c17 := Bool.eq_false_iff.mpr c17
     subst c17
     have H1 : (if t365 = true then (laws_FnResolved.l0 kj6 l1 t357 t358 t359 t364 0) else (laws_FnResolved.j2 kj6 l1)) = some r := by rw [if_neg (show ¬ (false = true) by decide)] at H; exact H
     clear H
     have H := H1
     clear H1
     have HC18 := Aside0.mk H
     clear H
     go_upto_if 73 with (fail)
     go_cut [] (fun wc => ∃ (kq : Nat), Aside0 (laws_FnResolved.j2 kq l1 = some r) ∧ Aside0 (kq ≤ kj6) ∧ Aside0 (Below w.heap.size w wc))
     case first =>
      have H := HC18.out
      clear HC18
      by_cases c19 : t365 = true
      ·subst c19
       have H1 : (laws_FnResolved.l0 kj6 l1 t357 t358 t359 t364 0) = some r := by rw [if_pos rfl] at H; exact H
       clear H
       have H := H1
       clear H1
       have H' := Aside0.mk H
       clear H
       go_wp2
       go_loopg [12] kj6 (fun kq v12 w' => ∃ (x12_2 : Int), v12 = .int .i64 x12_2 ∧ Aside0 (laws_FnResolved.l0 kq l1 t357 t358 t359 t364 x12_2 = some r) ∧ Aside0 (kq ≤ kj6) ∧ Aside0 (Kd.R (Kd.int .i64) 3 w' w.heap.size (fun _ => True) (.slice Ao9 t357.length co9) t357) ∧ Aside0 (Kd.R (Kd.int .i64) 3 w' w.heap.size (fun _ => True) (.slice Ao10 t358.length co10) t358) ∧ Aside0 (Kd.R (Kd.int .i64) 3 w' w.heap.size (fun _ => True) v366 t364) ∧ Aside0 (Below w.heap.size w w'))
       case atStart => exact ⟨(0), (by first | rfl | (simp; done) | (simp [*]; done)), H', ⟨Nat.le_refl _⟩, ⟨Kd.R_mono (zR_ HO_5.out) (fun _ _ => trivial)⟩, ⟨Kd.R_mono (zR_ HO_6.out) (fun _ _ => trivial)⟩, ⟨Kd.R_mono (zR_ HO_8.out) (fun _ _ => trivial)⟩, ⟨zb_ HB.out⟩⟩
       case round =>
        clear H'
        try clear c1
        try clear p2
        try clear c3
        try clear c3b0
        try clear c5
        try clear p6
        try clear c13
        try clear c13b0
        try clear c13b1
        try clear c13b2
        try clear c17
        try clear c19
        try clear p2
        try clear p6
        obtain ⟨x12_2, rfl, HA, HK2, HO_5, HO_6, HO_8, HB⟩ := hrel
        cases gk with
        | zero => exact absurd HA.out (by simp [laws_FnResolved.l0])
        | succ k2 =>
         have H := HA.out
         clear HA
         simp only [laws_FnResolved.l0] at H
         by_cases c20 : x12_2 < 64
         ·rw [if_pos c20] at H
          have c20b0 : decide (x12_2 < 64) = true := decide_eq_true c20
          clear c20
          (first | rw [c20b0] | (simp only [i64_w, i32_w]; rw [c20b0]) | skip)
          replace H := Option.bind_eq_some_iff.mp H
          obtain ⟨t373, A210, H⟩ := H
          replace H : ((laws_modelOf.f k2 12 (wrap64 ((wrap64 (t373 * 64)) + x12_2))).bind fun t374 => ((impl_HoldsAll.f 12 (([t357, t358] : List (List Int))) t374).bind fun bt380 => ((impl_HoldsAll.f 12 (([t364] : List (List Int))) t374).bind fun bt385 => (if bt380.2 = true then (if bt385.2 = true then (if bt380.1 = true then (if bt385.1 = true then (laws_FnResolved.l0 k2 l1 t357 t358 t359 t364 (wrap64 (x12_2 + 1))) else (none)) else (laws_FnResolved.l0 k2 l1 t357 t358 t359 t364 (wrap64 (x12_2 + 1)))) else (none)) else (none))))) = some r := H
          have A21 := Aside0.mk A210
          clear A210
          replace H := Option.bind_eq_some_iff.mp H
          obtain ⟨t374, A220, H⟩ := H
          replace H : ((impl_HoldsAll.f 12 (([t357, t358] : List (List Int))) t374).bind fun bt380 => ((impl_HoldsAll.f 12 (([t364] : List (List Int))) t374).bind fun bt385 => (if bt380.2 = true then (if bt385.2 = true then (if bt380.1 = true then (if bt385.1 = true then (laws_FnResolved.l0 k2 l1 t357 t358 t359 t364 (wrap64 (x12_2 + 1))) else (none)) else (laws_FnResolved.l0 k2 l1 t357 t358 t359 t364 (wrap64 (x12_2 + 1)))) else (none)) else (none)))) = some r := H
          have A22 := Aside0.mk A220
          clear A220
          obtain ⟨y377, hy377⟩ : ∃ y_ : List (List Int), y_ = (([t357, t358] : List (List Int))) := ⟨_, rfl⟩
          replace H : ((impl_HoldsAll.f 12 y377 t374).bind fun bt380 => ((impl_HoldsAll.f 12 (([t364] : List (List Int))) t374).bind fun bt385 => (if bt380.2 = true then (if bt385.2 = true then (if bt380.1 = true then (if bt385.1 = true then (laws_FnResolved.l0 k2 l1 t357 t358 t359 t364 (wrap64 (x12_2 + 1))) else (none)) else (laws_FnResolved.l0 k2 l1 t357 t358 t359 t364 (wrap64 (x12_2 + 1)))) else (none)) else (none)))) = some r := by first | (rw [hy377]; with_reducible exact H) | (have H2_ := (Option.bind_some _ _).symm.trans H; rw [hy377]; with_reducible exact H2_) | (have H2_ := (Option.bind_some _ _).symm.trans H; with_reducible exact H2_) | with_reducible exact H | (rw [hy377]; exact H) | exact H
          have Ny377 := Aside0.mk hy377
          clear hy377
          replace H := Option.bind_eq_some_iff.mp H
          obtain ⟨⟨t380, t381⟩, A230, H⟩ := H
          replace H : ((impl_HoldsAll.f 12 (([t364] : List (List Int))) t374).bind fun bt385 => (if t381 = true then (if bt385.2 = true then (if t380 = true then (if bt385.1 = true then (laws_FnResolved.l0 k2 l1 t357 t358 t359 t364 (wrap64 (x12_2 + 1))) else (none)) else (laws_FnResolved.l0 k2 l1 t357 t358 t359 t364 (wrap64 (x12_2 + 1)))) else (none)) else (none))) = some r := H
          have A23 := Aside0.mk A230
          clear A230
          obtain ⟨y382, hy382⟩ : ∃ y_ : List (List Int), y_ = (([t364] : List (List Int))) := ⟨_, rfl⟩
          replace H : ((impl_HoldsAll.f 12 y382 t374).bind fun bt385 => (if t381 = true then (if bt385.2 = true then (if t380 = true then (if bt385.1 = true then (laws_FnResolved.l0 k2 l1 t357 t358 t359 t364 (wrap64 (x12_2 + 1))) else (none)) else (laws_FnResolved.l0 k2 l1 t357 t358 t359 t364 (wrap64 (x12_2 + 1)))) else (none)) else (none))) = some r := by first | (rw [hy382]; with_reducible exact H) | (have H2_ := (Option.bind_some _ _).symm.trans H; rw [hy382]; with_reducible exact H2_) | (have H2_ := (Option.bind_some _ _).symm.trans H; with_reducible exact H2_) | with_reducible exact H | (rw [hy382]; exact H) | exact H
          have Ny382 := Aside0.mk hy382
          clear hy382
          replace H := Option.bind_eq_some_iff.mp H
          obtain ⟨⟨t385, t386⟩, A240, H⟩ := H
          replace H : (if t381 = true then (if t386 = true then (if t380 = true then (if t385 = true then (laws_FnResolved.l0 k2 l1 t357 t358 t359 t364 (wrap64 (x12_2 + 1))) else (none)) else (laws_FnResolved.l0 k2 l1 t357 t358 t359 t364 (wrap64 (x12_2 + 1)))) else (none)) else (none)) = some r := H
          have A24 := Aside0.mk A240
          clear A240
          by_cases c25 : t381 = true
          ·subst c25
           have H1 : (if t386 = true then (if t380 = true then (if t385 = true then (laws_FnResolved.l0 k2 l1 t357 t358 t359 t364 (wrap64 (x12_2 + 1))) else (none)) else (laws_FnResolved.l0 k2 l1 t357 t358 t359 t364 (wrap64 (x12_2 + 1)))) else (none)) = some r := by rw [if_pos rfl] at H; exact H
           clear H
           have H := H1
           clear H1
           by_cases c26 : t386 = true
           ·subst c26
            have H1 : (if t380 = true then (if t385 = true then (laws_FnResolved.l0 k2 l1 t357 t358 t359 t364 (wrap64 (x12_2 + 1))) else (none)) else (laws_FnResolved.l0 k2 l1 t357 t358 t359 t364 (wrap64 (x12_2 + 1)))) = some r := by rw [if_pos rfl] at H; exact H
            clear H
            have H := H1
            clear H1
            by_cases c27 : t380 = true
            ·subst c27
             have H1 : (if t385 = true then (laws_FnResolved.l0 k2 l1 t357 t358 t359 t364 (wrap64 (x12_2 + 1))) else (none)) = some r := by rw [if_pos rfl] at H; exact H
             clear H
             have H := H1
             clear H1
             by_cases c28 : t385 = true
             ·subst c28
              have H1 : (laws_FnResolved.l0 k2 l1 t357 t358 t359 t364 (wrap64 (x12_2 + 1))) = some r := by rw [if_pos rfl] at H; exact H
              clear H
              have H := H1
              clear H1
              have H' := Aside0.mk H
              clear H
              go_wp2_with (first | ((with_reducible refine gate_callee (f := 38) rfl ?_); refine goesL_ (some 79) rfl rfl Try.func38 (by kernel_rfl) rfl #[.slice A1 l1.length c1] rfl (by (try simp only [List.map_toArray, List.map_cons, List.map_nil]); first | done | rfl | (simp only [List.length_drop, List.length_take]; rfl)) ?_; (with_reducible refine (laws_numberOf.calls k2 _ _ l1 t373 _ ?side1 ?side2 A21.out).mono ?_); (case side1 => exact zC_ (Kd.C_below HR1.out HB.out)); (case side2 => exact HC1.out); rintro e w' ⟨rfl, ⟨nd, rfl⟩⟩; refine ⟨_, rfl, ?_⟩) | ((with_reducible refine gate_callee (f := 29) rfl ?_); refine goesL_ (some 83) rfl rfl Try.func29 (by kernel_rfl) rfl #[.int .i64 12, .int .i64 (wrap64 ((wrap64 (t373 * 64)) + x12_2))] rfl (by (try simp only [List.map_toArray, List.map_cons, List.map_nil]); first | done | rfl | (simp only [List.length_drop, List.length_take]; rfl)) ?_; (with_reducible refine (laws_modelOf.calls k2 12 (wrap64 ((wrap64 (t373 * 64)) + x12_2)) t374 _ A22.out).mono ?_); rintro e w29 ⟨v375, rfl, ho0, hb⟩; refine ⟨_, rfl, ?_⟩; obtain ⟨lo1, hi1, EL1, EH1, LE1⟩ := iv_ hb; have OR1 := Aside0.mk (show 0 ≤ lo1 ∧ lo1 ≤ hi1 from ⟨Nat.zero_le _, LE1⟩); have n0_ := Aside0.mk (Kd.R_below (zR_ HO_5.out) hb); have n1_ := Aside0.mk (Kd.R_below (zR_ HO_6.out) hb); have n2_ := Aside0.mk (Kd.R_below (zR_ HO_8.out) hb); have n3_ := Aside0.mk (Kd.R_mono (ok' := fun k_ => lo1 ≤ k_ ∧ k_ < hi1) (Kd.R_lower (Kd.R_bound ho0) (below_size (zb_ HB.out))) (fun k_ hk_ => by have a_ := hk_.2.1; have b_ := hk_.2.2.1; omega)); have n4_ := Aside0.mk (Nat.le_of_eq EH1.symm); have n5_ := Aside0.mk (below_step (zb_ HB.out) hb); clear HO_5; clear HO_6; clear HO_8; clear HTop; clear HB; have HO_5 := n0_; have HO_6 := n1_; have HO_8 := n2_; have HO376 := n3_; have HTop := n4_; have HB := n5_; clear n0_ n1_ n2_ n3_ n4_ n5_; (try clear hb); (try clear hb2); (try clear hk); (try clear hi); (try clear ho0); (try clear EL1); (try clear EH1); (try clear LE1)) | ((with_reducible refine gate_dst (N := 87) rfl ?_); refine Kd.N_lit (Kd.slice 3 (Kd.int .i64)) _ 24 ?hg (N' := 87) ?hd (xs := ([t357, t358] : List (List Int))) (inner := [.slice Ao9 t357.length co9, .slice Ao10 t358.length co10]) (ok := (fun _ => True)) (okp := (fun _ => True)) ?hr ?hp (fun _ hk => hk) ((show ∀ k_, w29.heap.size ≤ k_ → (fun _ => True) k_ from fun k_ hk => trivial) _ (Nat.le_refl _)) (Below.refl _ _) (Nat.le_refl _) (by simp) ?_; (case hd => rfl); (case hg => rfl); (case hr => first | (go_simp; done) | (go_simp; rfl)); (case hp => exact (Reps.one (show Kd.FK (Kd.slice 3 (Kd.int .i64)) _ _ t357 [.slice Ao9 t357.length co9] from (Kd.FK_slice_mk (Kd.R_reads' (Kd.R_mono (ok' := (fun _ => True)) (HO_5.out) (fun k_ hk => trivial))).2.1 (Kd.R_F (Kd.R_mono (ok' := (fun _ => True)) (HO_5.out) (fun k_ hk => trivial))))) (Reps.one (show Kd.FK (Kd.slice 3 (Kd.int .i64)) _ _ t358 [.slice Ao10 t358.length co10] from (Kd.FK_slice_mk (Kd.R_reads' (Kd.R_mono (ok' := (fun _ => True)) (HO_6.out) (fun k_ hk => trivial))).2.1 (Kd.R_F (Kd.R_mono (ok' := (fun _ => True)) (HO_6.out) (fun k_ hk => trivial))))) (Reps.none _ _)))); intro v378 w30 ho31 hb hg_ hnew_; clear hg_ hnew_; (first | rw [← Ny377.out] at ho31 | (simp only [Int.reduceToNat] at ho31; rw [← Ny377.out] at ho31)); obtain ⟨lo2, hi2, EL2, EH2, LE2⟩ := iv_ hb; have OR2 := Aside0.mk (show hi1 ≤ lo2 ∧ lo2 ≤ hi2 from ⟨Nat.le_trans HTop.out (Nat.le_of_eq EL2), LE2⟩); have n0_ := Aside0.mk (Kd.R_below (zR_ HO_5.out) hb); have n1_ := Aside0.mk (Kd.R_below (zR_ HO_6.out) hb); have n2_ := Aside0.mk (Kd.R_below (zR_ HO_8.out) hb); have n3_ := Aside0.mk (Kd.R_below (zR_ HO376.out) hb); have n4_ := Aside0.mk (Kd.N_lower (by first | exact ho31 | exact Kd.S_N ho31 | exact Kd.R_N ho31) (below_size (zb_ HB.out))); have n5_ := Aside0.mk (Nat.le_of_eq EH2.symm); have n6_ := Aside0.mk (below_step (zb_ HB.out) hb); clear HO_5; clear HO_6; clear HO_8; clear HO376; clear HTop; clear HB; have HO_5 := n0_; have HO_6 := n1_; have HO_8 := n2_; have HO376 := n3_; have HO379 := n4_; have HTop := n5_; have HB := n6_; clear n0_ n1_ n2_ n3_ n4_ n5_ n6_; clear hb ho31; obtain ⟨Ao32, co32, eo32⟩ := Kd.N_slice HO379.out; subst eo32; obtain ⟨Ao33, co33, eo33⟩ := Kd.R_slice HO376.out; subst eo33) | ((with_reducible refine gate_callee (f := 30) rfl ?_); refine goesL_ (some 89) rfl rfl Try.func30 (by kernel_rfl) rfl #[.int .i64 12, .slice Ao32 y377.length co32, .slice Ao33 t374.length co33] rfl (by (try simp only [List.map_toArray, List.map_cons, List.map_nil]); first | done | rfl | (simp only [List.length_drop, List.length_take]; rfl)) ?_; (with_reducible refine (impl_HoldsAll.calls 12 _ _ y377 _ _ t374 true true _ ?side1 ?side2 ?side3 ?side4 A23.out).mono ?_); (case side1 => exact zC_ (Kd.N_reads' HO379.out).2.2); (case side2 => exact (Kd.N_reads' HO379.out).2.1); (case side3 => exact zC_ (Kd.R_reads' HO376.out).2.2); (case side4 => exact (Kd.R_reads' HO376.out).2.1); rintro e w34 ⟨rfl, hb⟩; refine ⟨_, rfl, ?_⟩; obtain ⟨lo3, hi3, EL3, EH3, LE3⟩ := iv_ hb; have OR3 := Aside0.mk (show hi2 ≤ lo3 ∧ lo3 ≤ hi3 from ⟨Nat.le_trans HTop.out (Nat.le_of_eq EL3), LE3⟩); have n0_ := Aside0.mk (Kd.R_below (zR_ HO_5.out) hb); have n1_ := Aside0.mk (Kd.R_below (zR_ HO_6.out) hb); have n2_ := Aside0.mk (Kd.R_below (zR_ HO_8.out) hb); have n3_ := Aside0.mk (Kd.R_below (zR_ HO376.out) hb); have n4_ := Aside0.mk (Kd.N_below (zN_ HO379.out) hb); have n5_ := Aside0.mk (Nat.le_of_eq EH3.symm); have n6_ := Aside0.mk (below_step (zb_ HB.out) hb); clear HO_5; clear HO_6; clear HO_8; clear HO376; clear HO379; clear HTop; clear HB; have HO_5 := n0_; have HO_6 := n1_; have HO_8 := n2_; have HO376 := n3_; have HO379 := n4_; have HTop := n5_; have HB := n6_; clear n0_ n1_ n2_ n3_ n4_ n5_ n6_; (try clear hb); (try clear hb2); (try clear hk); (try clear hi); (try clear EL3); (try clear EH3); (try clear LE3); obtain ⟨Ao35, co35, eo35⟩ := Kd.R_slice HO_8.out; subst eo35) | ((with_reducible refine gate_dst (N := 94) rfl ?_); refine Kd.N_lit (Kd.slice 3 (Kd.int .i64)) _ 24 ?hg (N' := 94) ?hd (xs := ([t364] : List (List Int))) (inner := [.slice Ao35 t364.length co35]) (ok := (fun _ => True)) (okp := (fun _ => True)) ?hr ?hp (fun _ hk => hk) ((show ∀ k_, w34.heap.size ≤ k_ → (fun _ => True) k_ from fun k_ hk => trivial) _ (Nat.le_refl _)) (Below.refl _ _) (Nat.le_refl _) (by simp) ?_; (case hd => rfl); (case hg => rfl); (case hr => first | (go_simp; done) | (go_simp; rfl)); (case hp => exact (Reps.one (show Kd.FK (Kd.slice 3 (Kd.int .i64)) _ _ t364 [.slice Ao35 t364.length co35] from (Kd.FK_slice_mk (Kd.R_reads' (Kd.R_mono (ok' := (fun _ => True)) (HO_8.out) (fun k_ hk => trivial))).2.1 (Kd.R_F (Kd.R_mono (ok' := (fun _ => True)) (HO_8.out) (fun k_ hk => trivial))))) (Reps.none _ _))); intro v383 w36 ho37 hb hg_ hnew_; clear hg_ hnew_; (first | rw [← Ny382.out] at ho37 | (simp only [Int.reduceToNat] at ho37; rw [← Ny382.out] at ho37)); obtain ⟨lo4, hi4, EL4, EH4, LE4⟩ := iv_ hb; have OR4 := Aside0.mk (show hi3 ≤ lo4 ∧ lo4 ≤ hi4 from ⟨Nat.le_trans HTop.out (Nat.le_of_eq EL4), LE4⟩); have n0_ := Aside0.mk (Kd.R_below (zR_ HO_5.out) hb); have n1_ := Aside0.mk (Kd.R_below (zR_ HO_6.out) hb); have n2_ := Aside0.mk (Kd.R_below (zR_ HO_8.out) hb); have n3_ := Aside0.mk (Kd.R_below (zR_ HO376.out) hb); have n4_ := Aside0.mk (Kd.N_below (zN_ HO379.out) hb); have n5_ := Aside0.mk (Kd.N_lower (by first | exact ho37 | exact Kd.S_N ho37 | exact Kd.R_N ho37) (below_size (zb_ HB.out))); have n6_ := Aside0.mk (Nat.le_of_eq EH4.symm); have n7_ := Aside0.mk (below_step (zb_ HB.out) hb); clear HO_5; clear HO_6; clear HO_8; clear HO376; clear HO379; clear HTop; clear HB; have HO_5 := n0_; have HO_6 := n1_; have HO_8 := n2_; have HO376 := n3_; have HO379 := n4_; have HO384 := n5_; have HTop := n6_; have HB := n7_; clear n0_ n1_ n2_ n3_ n4_ n5_ n6_ n7_; clear hb ho37; obtain ⟨Ao38, co38, eo38⟩ := Kd.N_slice HO384.out; subst eo38) | ((with_reducible refine gate_callee (f := 30) rfl ?_); refine goesL_ (some 96) rfl rfl Try.func30 (by kernel_rfl) rfl #[.int .i64 12, .slice Ao38 y382.length co38, .slice Ao33 t374.length co33] rfl (by (try simp only [List.map_toArray, List.map_cons, List.map_nil]); first | done | rfl | (simp only [List.length_drop, List.length_take]; rfl)) ?_; (with_reducible refine (impl_HoldsAll.calls 12 _ _ y382 _ _ t374 true true _ ?side1 ?side2 ?side3 ?side4 A24.out).mono ?_); (case side1 => exact zC_ (Kd.N_reads' HO384.out).2.2); (case side2 => exact (Kd.N_reads' HO384.out).2.1); (case side3 => exact zC_ (Kd.R_reads' HO376.out).2.2); (case side4 => exact (Kd.R_reads' HO376.out).2.1); rintro e w39 ⟨rfl, hb⟩; refine ⟨_, rfl, ?_⟩; obtain ⟨lo5, hi5, EL5, EH5, LE5⟩ := iv_ hb; have OR5 := Aside0.mk (show hi4 ≤ lo5 ∧ lo5 ≤ hi5 from ⟨Nat.le_trans HTop.out (Nat.le_of_eq EL5), LE5⟩); have n0_ := Aside0.mk (Kd.R_below (zR_ HO_5.out) hb); have n1_ := Aside0.mk (Kd.R_below (zR_ HO_6.out) hb); have n2_ := Aside0.mk (Kd.R_below (zR_ HO_8.out) hb); have n3_ := Aside0.mk (Kd.R_below (zR_ HO376.out) hb); have n4_ := Aside0.mk (Kd.N_below (zN_ HO379.out) hb); have n5_ := Aside0.mk (Kd.N_below (zN_ HO384.out) hb); have n6_ := Aside0.mk (Nat.le_of_eq EH5.symm); have n7_ := Aside0.mk (below_step (zb_ HB.out) hb); clear HO_5; clear HO_6; clear HO_8; clear HO376; clear HO379; clear HO384; clear HTop; clear HB; have HO_5 := n0_; have HO_6 := n1_; have HO_8 := n2_; have HO376 := n3_; have HO379 := n4_; have HO384 := n5_; have HTop := n6_; have HB := n7_; clear n0_ n1_ n2_ n3_ n4_ n5_ n6_ n7_; (try clear hb); (try clear hb2); (try clear hk); (try clear hi); (try clear EL5); (try clear EH5); (try clear LE5)))
              go_roundg k2
              case measure => have := HJ6.out; have := HK2.out; omega
              case rel => exact ⟨(wrap64 (x12_2 + 1)), (by first | rfl | (simp; done) | (simp [*]; done)), H', ⟨by have := HJ6.out; have := HK2.out; omega⟩, ⟨Kd.R_mono (zR_ HO_5.out) (fun _ _ => trivial)⟩, ⟨Kd.R_mono (zR_ HO_6.out) (fun _ _ => trivial)⟩, ⟨Kd.R_mono (zR_ HO_8.out) (fun _ _ => trivial)⟩, ⟨zb_ HB.out⟩⟩
             ·replace c28 := Bool.eq_false_iff.mpr c28
              subst c28
              have H1 : (none) = some r := by rw [if_neg (show ¬ (false = true) by decide)] at H; exact H
              clear H
              have H := H1
              clear H1
              exact absurd H (by simp)
            ·replace c27 := Bool.eq_false_iff.mpr c27
             subst c27
             have H1 : (laws_FnResolved.l0 k2 l1 t357 t358 t359 t364 (wrap64 (x12_2 + 1))) = some r := by rw [if_neg (show ¬ (false = true) by decide)] at H; exact H
             clear H
             have H := H1
             clear H1
             have H' := Aside0.mk H
             clear H
             go_wp2_with (first | ((with_reducible refine gate_callee (f := 38) rfl ?_); refine goesL_ (some 79) rfl rfl Try.func38 (by kernel_rfl) rfl #[.slice A1 l1.length c1] rfl (by (try simp only [List.map_toArray, List.map_cons, List.map_nil]); first | done | rfl | (simp only [List.length_drop, List.length_take]; rfl)) ?_; (with_reducible refine (laws_numberOf.calls k2 _ _ l1 t373 _ ?side1 ?side2 A21.out).mono ?_); (case side1 => exact zC_ (Kd.C_below HR1.out HB.out)); (case side2 => exact HC1.out); rintro e w' ⟨rfl, ⟨nd, rfl⟩⟩; refine ⟨_, rfl, ?_⟩) | ((with_reducible refine gate_callee (f := 29) rfl ?_); refine goesL_ (some 83) rfl rfl Try.func29 (by kernel_rfl) rfl #[.int .i64 12, .int .i64 (wrap64 ((wrap64 (t373 * 64)) + x12_2))] rfl (by (try simp only [List.map_toArray, List.map_cons, List.map_nil]); first | done | rfl | (simp only [List.length_drop, List.length_take]; rfl)) ?_; (with_reducible refine (laws_modelOf.calls k2 12 (wrap64 ((wrap64 (t373 * 64)) + x12_2)) t374 _ A22.out).mono ?_); rintro e w40 ⟨v375, rfl, ho0, hb⟩; refine ⟨_, rfl, ?_⟩; obtain ⟨lo1, hi1, EL1, EH1, LE1⟩ := iv_ hb; have OR1 := Aside0.mk (show 0 ≤ lo1 ∧ lo1 ≤ hi1 from ⟨Nat.zero_le _, LE1⟩); have n0_ := Aside0.mk (Kd.R_below (zR_ HO_5.out) hb); have n1_ := Aside0.mk (Kd.R_below (zR_ HO_6.out) hb); have n2_ := Aside0.mk (Kd.R_below (zR_ HO_8.out) hb); have n3_ := Aside0.mk (Kd.R_mono (ok' := fun k_ => lo1 ≤ k_ ∧ k_ < hi1) (Kd.R_lower (Kd.R_bound ho0) (below_size (zb_ HB.out))) (fun k_ hk_ => by have a_ := hk_.2.1; have b_ := hk_.2.2.1; omega)); have n4_ := Aside0.mk (Nat.le_of_eq EH1.symm); have n5_ := Aside0.mk (below_step (zb_ HB.out) hb); clear HO_5; clear HO_6; clear HO_8; clear HTop; clear HB; have HO_5 := n0_; have HO_6 := n1_; have HO_8 := n2_; have HO376 := n3_; have HTop := n4_; have HB := n5_; clear n0_ n1_ n2_ n3_ n4_ n5_; (try clear hb); (try clear hb2); (try clear hk); (try clear hi); (try clear ho0); (try clear EL1); (try clear EH1); (try clear LE1)) | ((with_reducible refine gate_dst (N := 87) rfl ?_); refine Kd.N_lit (Kd.slice 3 (Kd.int .i64)) _ 24 ?hg (N' := 87) ?hd (xs := ([t357, t358] : List (List Int))) (inner := [.slice Ao9 t357.length co9, .slice Ao10 t358.length co10]) (ok := (fun _ => True)) (okp := (fun _ => True)) ?hr ?hp (fun _ hk => hk) ((show ∀ k_, w40.heap.size ≤ k_ → (fun _ => True) k_ from fun k_ hk => trivial) _ (Nat.le_refl _)) (Below.refl _ _) (Nat.le_refl _) (by simp) ?_; (case hd => rfl); (case hg => rfl); (case hr => first | (go_simp; done) | (go_simp; rfl)); (case hp => exact (Reps.one (show Kd.FK (Kd.slice 3 (Kd.int .i64)) _ _ t357 [.slice Ao9 t357.length co9] from (Kd.FK_slice_mk (Kd.R_reads' (Kd.R_mono (ok' := (fun _ => True)) (HO_5.out) (fun k_ hk => trivial))).2.1 (Kd.R_F (Kd.R_mono (ok' := (fun _ => True)) (HO_5.out) (fun k_ hk => trivial))))) (Reps.one (show Kd.FK (Kd.slice 3 (Kd.int .i64)) _ _ t358 [.slice Ao10 t358.length co10] from (Kd.FK_slice_mk (Kd.R_reads' (Kd.R_mono (ok' := (fun _ => True)) (HO_6.out) (fun k_ hk => trivial))).2.1 (Kd.R_F (Kd.R_mono (ok' := (fun _ => True)) (HO_6.out) (fun k_ hk => trivial))))) (Reps.none _ _)))); intro v378 w41 ho42 hb hg_ hnew_; clear hg_ hnew_; (first | rw [← Ny377.out] at ho42 | (simp only [Int.reduceToNat] at ho42; rw [← Ny377.out] at ho42)); obtain ⟨lo2, hi2, EL2, EH2, LE2⟩ := iv_ hb; have OR2 := Aside0.mk (show hi1 ≤ lo2 ∧ lo2 ≤ hi2 from ⟨Nat.le_trans HTop.out (Nat.le_of_eq EL2), LE2⟩); have n0_ := Aside0.mk (Kd.R_below (zR_ HO_5.out) hb); have n1_ := Aside0.mk (Kd.R_below (zR_ HO_6.out) hb); have n2_ := Aside0.mk (Kd.R_below (zR_ HO_8.out) hb); have n3_ := Aside0.mk (Kd.R_below (zR_ HO376.out) hb); have n4_ := Aside0.mk (Kd.N_lower (by first | exact ho42 | exact Kd.S_N ho42 | exact Kd.R_N ho42) (below_size (zb_ HB.out))); have n5_ := Aside0.mk (Nat.le_of_eq EH2.symm); have n6_ := Aside0.mk (below_step (zb_ HB.out) hb); clear HO_5; clear HO_6; clear HO_8; clear HO376; clear HTop; clear HB; have HO_5 := n0_; have HO_6 := n1_; have HO_8 := n2_; have HO376 := n3_; have HO379 := n4_; have HTop := n5_; have HB := n6_; clear n0_ n1_ n2_ n3_ n4_ n5_ n6_; clear hb ho42; obtain ⟨Ao43, co43, eo43⟩ := Kd.N_slice HO379.out; subst eo43; obtain ⟨Ao44, co44, eo44⟩ := Kd.R_slice HO376.out; subst eo44) | ((with_reducible refine gate_callee (f := 30) rfl ?_); refine goesL_ (some 89) rfl rfl Try.func30 (by kernel_rfl) rfl #[.int .i64 12, .slice Ao43 y377.length co43, .slice Ao44 t374.length co44] rfl (by (try simp only [List.map_toArray, List.map_cons, List.map_nil]); first | done | rfl | (simp only [List.length_drop, List.length_take]; rfl)) ?_; (with_reducible refine (impl_HoldsAll.calls 12 _ _ y377 _ _ t374 false true _ ?side1 ?side2 ?side3 ?side4 A23.out).mono ?_); (case side1 => exact zC_ (Kd.N_reads' HO379.out).2.2); (case side2 => exact (Kd.N_reads' HO379.out).2.1); (case side3 => exact zC_ (Kd.R_reads' HO376.out).2.2); (case side4 => exact (Kd.R_reads' HO376.out).2.1); rintro e w45 ⟨rfl, hb⟩; refine ⟨_, rfl, ?_⟩; obtain ⟨lo3, hi3, EL3, EH3, LE3⟩ := iv_ hb; have OR3 := Aside0.mk (show hi2 ≤ lo3 ∧ lo3 ≤ hi3 from ⟨Nat.le_trans HTop.out (Nat.le_of_eq EL3), LE3⟩); have n0_ := Aside0.mk (Kd.R_below (zR_ HO_5.out) hb); have n1_ := Aside0.mk (Kd.R_below (zR_ HO_6.out) hb); have n2_ := Aside0.mk (Kd.R_below (zR_ HO_8.out) hb); have n3_ := Aside0.mk (Kd.R_below (zR_ HO376.out) hb); have n4_ := Aside0.mk (Kd.N_below (zN_ HO379.out) hb); have n5_ := Aside0.mk (Nat.le_of_eq EH3.symm); have n6_ := Aside0.mk (below_step (zb_ HB.out) hb); clear HO_5; clear HO_6; clear HO_8; clear HO376; clear HO379; clear HTop; clear HB; have HO_5 := n0_; have HO_6 := n1_; have HO_8 := n2_; have HO376 := n3_; have HO379 := n4_; have HTop := n5_; have HB := n6_; clear n0_ n1_ n2_ n3_ n4_ n5_ n6_; (try clear hb); (try clear hb2); (try clear hk); (try clear hi); (try clear EL3); (try clear EH3); (try clear LE3); obtain ⟨Ao46, co46, eo46⟩ := Kd.R_slice HO_8.out; subst eo46) | ((with_reducible refine gate_dst (N := 94) rfl ?_); refine Kd.N_lit (Kd.slice 3 (Kd.int .i64)) _ 24 ?hg (N' := 94) ?hd (xs := ([t364] : List (List Int))) (inner := [.slice Ao46 t364.length co46]) (ok := (fun _ => True)) (okp := (fun _ => True)) ?hr ?hp (fun _ hk => hk) ((show ∀ k_, w45.heap.size ≤ k_ → (fun _ => True) k_ from fun k_ hk => trivial) _ (Nat.le_refl _)) (Below.refl _ _) (Nat.le_refl _) (by simp) ?_; (case hd => rfl); (case hg => rfl); (case hr => first | (go_simp; done) | (go_simp; rfl)); (case hp => exact (Reps.one (show Kd.FK (Kd.slice 3 (Kd.int .i64)) _ _ t364 [.slice Ao46 t364.length co46] from (Kd.FK_slice_mk (Kd.R_reads' (Kd.R_mono (ok' := (fun _ => True)) (HO_8.out) (fun k_ hk => trivial))).2.1 (Kd.R_F (Kd.R_mono (ok' := (fun _ => True)) (HO_8.out) (fun k_ hk => trivial))))) (Reps.none _ _))); intro v383 w47 ho48 hb hg_ hnew_; clear hg_ hnew_; (first | rw [← Ny382.out] at ho48 | (simp only [Int.reduceToNat] at ho48; rw [← Ny382.out] at ho48)); obtain ⟨lo4, hi4, EL4, EH4, LE4⟩ := iv_ hb; have OR4 := Aside0.mk (show hi3 ≤ lo4 ∧ lo4 ≤ hi4 from ⟨Nat.le_trans HTop.out (Nat.le_of_eq EL4), LE4⟩); have n0_ := Aside0.mk (Kd.R_below (zR_ HO_5.out) hb); have n1_ := Aside0.mk (Kd.R_below (zR_ HO_6.out) hb); have n2_ := Aside0.mk (Kd.R_below (zR_ HO_8.out) hb); have n3_ := Aside0.mk (Kd.R_below (zR_ HO376.out) hb); have n4_ := Aside0.mk (Kd.N_below (zN_ HO379.out) hb); have n5_ := Aside0.mk (Kd.N_lower (by first | exact ho48 | exact Kd.S_N ho48 | exact Kd.R_N ho48) (below_size (zb_ HB.out))); have n6_ := Aside0.mk (Nat.le_of_eq EH4.symm); have n7_ := Aside0.mk (below_step (zb_ HB.out) hb); clear HO_5; clear HO_6; clear HO_8; clear HO376; clear HO379; clear HTop; clear HB; have HO_5 := n0_; have HO_6 := n1_; have HO_8 := n2_; have HO376 := n3_; have HO379 := n4_; have HO384 := n5_; have HTop := n6_; have HB := n7_; clear n0_ n1_ n2_ n3_ n4_ n5_ n6_ n7_; clear hb ho48; obtain ⟨Ao49, co49, eo49⟩ := Kd.N_slice HO384.out; subst eo49) | ((with_reducible refine gate_callee (f := 30) rfl ?_); refine goesL_ (some 96) rfl rfl Try.func30 (by kernel_rfl) rfl #[.int .i64 12, .slice Ao49 y382.length co49, .slice Ao44 t374.length co44] rfl (by (try simp only [List.map_toArray, List.map_cons, List.map_nil]); first | done | rfl | (simp only [List.length_drop, List.length_take]; rfl)) ?_; (with_reducible refine (impl_HoldsAll.calls 12 _ _ y382 _ _ t374 t385 true _ ?side1 ?side2 ?side3 ?side4 A24.out).mono ?_); (case side1 => exact zC_ (Kd.N_reads' HO384.out).2.2); (case side2 => exact (Kd.N_reads' HO384.out).2.1); (case side3 => exact zC_ (Kd.R_reads' HO376.out).2.2); (case side4 => exact (Kd.R_reads' HO376.out).2.1); rintro e w50 ⟨rfl, hb⟩; refine ⟨_, rfl, ?_⟩; obtain ⟨lo5, hi5, EL5, EH5, LE5⟩ := iv_ hb; have OR5 := Aside0.mk (show hi4 ≤ lo5 ∧ lo5 ≤ hi5 from ⟨Nat.le_trans HTop.out (Nat.le_of_eq EL5), LE5⟩); have n0_ := Aside0.mk (Kd.R_below (zR_ HO_5.out) hb); have n1_ := Aside0.mk (Kd.R_below (zR_ HO_6.out) hb); have n2_ := Aside0.mk (Kd.R_below (zR_ HO_8.out) hb); have n3_ := Aside0.mk (Kd.R_below (zR_ HO376.out) hb); have n4_ := Aside0.mk (Kd.N_below (zN_ HO379.out) hb); have n5_ := Aside0.mk (Kd.N_below (zN_ HO384.out) hb); have n6_ := Aside0.mk (Nat.le_of_eq EH5.symm); have n7_ := Aside0.mk (below_step (zb_ HB.out) hb); clear HO_5; clear HO_6; clear HO_8; clear HO376; clear HO379; clear HO384; clear HTop; clear HB; have HO_5 := n0_; have HO_6 := n1_; have HO_8 := n2_; have HO376 := n3_; have HO379 := n4_; have HO384 := n5_; have HTop := n6_; have HB := n7_; clear n0_ n1_ n2_ n3_ n4_ n5_ n6_ n7_; (try clear hb); (try clear hb2); (try clear hk); (try clear hi); (try clear EL5); (try clear EH5); (try clear LE5)))
             go_roundg k2
             case measure => have := HJ6.out; have := HK2.out; omega
             case rel => exact ⟨(wrap64 (x12_2 + 1)), (by first | rfl | (simp; done) | (simp [*]; done)), H', ⟨by have := HJ6.out; have := HK2.out; omega⟩, ⟨Kd.R_mono (zR_ HO_5.out) (fun _ _ => trivial)⟩, ⟨Kd.R_mono (zR_ HO_6.out) (fun _ _ => trivial)⟩, ⟨Kd.R_mono (zR_ HO_8.out) (fun _ _ => trivial)⟩, ⟨zb_ HB.out⟩⟩
           ·replace c26 := Bool.eq_false_iff.mpr c26
            subst c26
            have H1 : (none) = some r := by rw [if_neg (show ¬ (false = true) by decide)] at H; exact H
            clear H
            have H := H1
            clear H1
            exact absurd H (by simp)
          ·replace c25 := Bool.eq_false_iff.mpr c25
           subst c25
           have H1 : (none) = some r := by rw [if_neg (show ¬ (false = true) by decide)] at H; exact H
           clear H
           have H := H1
           clear H1
           exact absurd H (by simp)
         ·rw [if_neg c20] at H
          have c20b0 : decide (x12_2 < 64) = false := decide_eq_false c20
          clear c20
          (first | rw [c20b0] | (simp only [i64_w, i32_w]; rw [c20b0]) | skip)
          replace H := Option.bind_eq_some_iff.mp H
          obtain ⟨t387, A510, H⟩ := H
          replace H : (if t387 = true then (none) else ((laws_has.f k2 t364 (wrap64 (-t359))).bind fun t388 => (if t388 = true then (none) else (laws_FnResolved.j2 k2 l1)))) = some r := H
          have A51 := Aside0.mk A510
          clear A510
          by_cases c52 : t387 = true
          ·subst c52
           have H1 : (none) = some r := by rw [if_pos rfl] at H; exact H
           clear H
           have H := H1
           clear H1
           exact absurd H (by simp)
          ·replace c52 := Bool.eq_false_iff.mpr c52
           subst c52
           have H1 : ((laws_has.f k2 t364 (wrap64 (-t359))).bind fun t388 => (if t388 = true then (none) else (laws_FnResolved.j2 k2 l1))) = some r := by rw [if_neg (show ¬ (false = true) by decide)] at H; exact H
           clear H
           have H := H1
           clear H1
           replace H := Option.bind_eq_some_iff.mp H
           obtain ⟨t388, A530, H⟩ := H
           replace H : (if t388 = true then (none) else (laws_FnResolved.j2 k2 l1)) = some r := H
           have A53 := Aside0.mk A530
           clear A530
           by_cases c54 : t388 = true
           ·subst c54
            have H1 : (none) = some r := by rw [if_pos rfl] at H; exact H
            clear H
            have H := H1
            clear H1
            exact absurd H (by simp)
           ·replace c54 := Bool.eq_false_iff.mpr c54
            subst c54
            have H1 : (laws_FnResolved.j2 k2 l1) = some r := by rw [if_neg (show ¬ (false = true) by decide)] at H; exact H
            clear H
            have H := H1
            clear H1
            have H' := Aside0.mk H
            clear H
            obtain ⟨Ao55, co55, eo55⟩ := Kd.R_slice HO_8.out
            subst eo55
            go_wp2_with (first | ((with_reducible refine gate_callee (f := 39) rfl ?_); refine goesL_ (some 114) rfl rfl Try.func39 (by kernel_rfl) rfl #[.slice Ao55 t364.length co55, .int .i64 t359] rfl (by (try simp only [List.map_toArray, List.map_cons, List.map_nil]); first | done | rfl | (simp only [List.length_drop, List.length_take]; rfl)) ?_; (with_reducible refine (laws_has.calls k2 _ _ t364 t359 false _ ?side1 ?side2 A51.out).mono ?_); (case side1 => exact zC_ (Kd.R_reads' HO_8.out).2.2); (case side2 => exact (Kd.R_reads' HO_8.out).2.1); rintro e w' ⟨rfl, ⟨nd, rfl⟩⟩; refine ⟨_, rfl, ?_⟩) | (go_at_call 39; (with_reducible refine (laws_has.calls k2 _ _ t364 (wrap64 (-t359)) false _ ?side1 ?side2 A53.out).mono ?_); (case side1 => exact zC_ (Kd.R_reads' HO_8.out).2.2); (case side2 => exact (Kd.R_reads' HO_8.out).2.1); rintro e w' ⟨rfl, ⟨nd, rfl⟩⟩))
            go_meet
            case rel => exact ⟨_, H', ⟨by have := HJ6.out; have := HK2.out; first | omega | exact Nat.le_refl _⟩, ⟨zb_ HB.out⟩⟩
      ·replace c19 := Bool.eq_false_iff.mpr c19
       subst c19
       have H1 : (laws_FnResolved.j2 kj6 l1) = some r := by rw [if_neg (show ¬ (false = true) by decide)] at H; exact H
       clear H
       have H := H1
       clear H1
       have H' := Aside0.mk H
       clear H
       go_wp2
       go_meet
       case rel => exact ⟨_, H', ⟨by have := HJ6.out; first | omega | exact Nat.le_refl _⟩, ⟨zb_ HB.out⟩⟩
     case rest =>
      clear HC18
      try clear c1
      try clear c2
      try clear p2
      try clear c3
      try clear c3b0
      try clear c5
      try clear p6
      try clear c13
      try clear c13b0
      try clear c13b1
      try clear c13b2
      try clear c17
      try clear c19
      try clear c20
      try clear c20b0
      try clear c25
      try clear c26
      try clear c27
      try clear c28
      try clear c29
      try clear c30
      try clear c35
      try clear c36
      try clear c37
      try clear c38
      try clear c39
      try clear c52
      try clear c54
      try clear p2
      try clear p6
      obtain ⟨kq, HA, HJ17, HB⟩ := hcut
      cases kq with
      | zero => exact absurd HA.out (by simp [laws_FnResolved.j2])
      | succ kj17 =>
       have H := HA.out
       clear HA
       simp only [laws_FnResolved.j2] at H
       replace H := Option.bind_eq_some_iff.mp H
       obtain ⟨t389, A560, H⟩ := H
       replace H : ((impl_CleanClause.f kj17 t389).bind fun bt392 => ((spec_CleanClause.f kj17 t389).bind fun bt396 => ((spec_DrawCountModels.f kj17 l1).bind fun bt400 => ((impl_CountModels.f kj17 bt400.1 bt400.2).bind fun bt404 => ((spec_CountModels.f kj17 bt400.1 bt400.2).bind fun bt406 => ((spec_DrawHoldsAll.f kj17 l1).bind fun bt408 => ((impl_HoldsAll.f bt408.1 bt408.2.1 bt408.2.2).bind fun bt415 => ((spec_HoldsAll.f kj17 bt408.1 bt408.2.1 bt408.2.2).bind fun bt417 => (if (bt392.2 != bt396.2) = true then (laws_FnResolved.j3 kj17 bt392.1 bt392.2 true) else ((laws_sameInts.f kj17 bt392.1 bt396.1).bind fun t419 => (if t419 = true then (if (bt404.2 != bt406.2) = true then (laws_FnResolved.j3 kj17 bt392.1 bt392.2 true) else (if bt404.1 = bt406.1 then (if (bt415.2 != bt417.2) = true then (laws_FnResolved.j3 kj17 bt392.1 bt392.2 true) else (laws_FnResolved.j3 kj17 bt392.1 bt392.2 (bt415.1 != bt417.1))) else (laws_FnResolved.j3 kj17 bt392.1 bt392.2 true))) else (laws_FnResolved.j3 kj17 bt392.1 bt392.2 true)))))))))))) = some r := H
       have A56 := Aside0.mk A560
       clear A560
       replace H := Option.bind_eq_some_iff.mp H
       obtain ⟨⟨t392, t393⟩, A570, H⟩ := H
       replace H : ((spec_CleanClause.f kj17 t389).bind fun bt396 => ((spec_DrawCountModels.f kj17 l1).bind fun bt400 => ((impl_CountModels.f kj17 bt400.1 bt400.2).bind fun bt404 => ((spec_CountModels.f kj17 bt400.1 bt400.2).bind fun bt406 => ((spec_DrawHoldsAll.f kj17 l1).bind fun bt408 => ((impl_HoldsAll.f bt408.1 bt408.2.1 bt408.2.2).bind fun bt415 => ((spec_HoldsAll.f kj17 bt408.1 bt408.2.1 bt408.2.2).bind fun bt417 => (if (t393 != bt396.2) = true then (laws_FnResolved.j3 kj17 t392 t393 true) else ((laws_sameInts.f kj17 t392 bt396.1).bind fun t419 => (if t419 = true then (if (bt404.2 != bt406.2) = true then (laws_FnResolved.j3 kj17 t392 t393 true) else (if bt404.1 = bt406.1 then (if (bt415.2 != bt417.2) = true then (laws_FnResolved.j3 kj17 t392 t393 true) else (laws_FnResolved.j3 kj17 t392 t393 (bt415.1 != bt417.1))) else (laws_FnResolved.j3 kj17 t392 t393 true))) else (laws_FnResolved.j3 kj17 t392 t393 true))))))))))) = some r := H
       have A57 := Aside0.mk A570
       clear A570
       replace H := Option.bind_eq_some_iff.mp H
       obtain ⟨⟨t396, t397⟩, A580, H⟩ := H
       replace H : ((spec_DrawCountModels.f kj17 l1).bind fun bt400 => ((impl_CountModels.f kj17 bt400.1 bt400.2).bind fun bt404 => ((spec_CountModels.f kj17 bt400.1 bt400.2).bind fun bt406 => ((spec_DrawHoldsAll.f kj17 l1).bind fun bt408 => ((impl_HoldsAll.f bt408.1 bt408.2.1 bt408.2.2).bind fun bt415 => ((spec_HoldsAll.f kj17 bt408.1 bt408.2.1 bt408.2.2).bind fun bt417 => (if (t393 != t397) = true then (laws_FnResolved.j3 kj17 t392 t393 true) else ((laws_sameInts.f kj17 t392 t396).bind fun t419 => (if t419 = true then (if (bt404.2 != bt406.2) = true then (laws_FnResolved.j3 kj17 t392 t393 true) else (if bt404.1 = bt406.1 then (if (bt415.2 != bt417.2) = true then (laws_FnResolved.j3 kj17 t392 t393 true) else (laws_FnResolved.j3 kj17 t392 t393 (bt415.1 != bt417.1))) else (laws_FnResolved.j3 kj17 t392 t393 true))) else (laws_FnResolved.j3 kj17 t392 t393 true)))))))))) = some r := H
       have A58 := Aside0.mk A580
       clear A580
       replace H := Option.bind_eq_some_iff.mp H
       obtain ⟨⟨t400, t401⟩, A590, H⟩ := H
       replace H : ((impl_CountModels.f kj17 t400 t401).bind fun bt404 => ((spec_CountModels.f kj17 t400 t401).bind fun bt406 => ((spec_DrawHoldsAll.f kj17 l1).bind fun bt408 => ((impl_HoldsAll.f bt408.1 bt408.2.1 bt408.2.2).bind fun bt415 => ((spec_HoldsAll.f kj17 bt408.1 bt408.2.1 bt408.2.2).bind fun bt417 => (if (t393 != t397) = true then (laws_FnResolved.j3 kj17 t392 t393 true) else ((laws_sameInts.f kj17 t392 t396).bind fun t419 => (if t419 = true then (if (bt404.2 != bt406.2) = true then (laws_FnResolved.j3 kj17 t392 t393 true) else (if bt404.1 = bt406.1 then (if (bt415.2 != bt417.2) = true then (laws_FnResolved.j3 kj17 t392 t393 true) else (laws_FnResolved.j3 kj17 t392 t393 (bt415.1 != bt417.1))) else (laws_FnResolved.j3 kj17 t392 t393 true))) else (laws_FnResolved.j3 kj17 t392 t393 true))))))))) = some r := H
       have A59 := Aside0.mk A590
       clear A590
       replace H := Option.bind_eq_some_iff.mp H
       obtain ⟨⟨t404, t405⟩, A600, H⟩ := H
       replace H : ((spec_CountModels.f kj17 t400 t401).bind fun bt406 => ((spec_DrawHoldsAll.f kj17 l1).bind fun bt408 => ((impl_HoldsAll.f bt408.1 bt408.2.1 bt408.2.2).bind fun bt415 => ((spec_HoldsAll.f kj17 bt408.1 bt408.2.1 bt408.2.2).bind fun bt417 => (if (t393 != t397) = true then (laws_FnResolved.j3 kj17 t392 t393 true) else ((laws_sameInts.f kj17 t392 t396).bind fun t419 => (if t419 = true then (if (t405 != bt406.2) = true then (laws_FnResolved.j3 kj17 t392 t393 true) else (if t404 = bt406.1 then (if (bt415.2 != bt417.2) = true then (laws_FnResolved.j3 kj17 t392 t393 true) else (laws_FnResolved.j3 kj17 t392 t393 (bt415.1 != bt417.1))) else (laws_FnResolved.j3 kj17 t392 t393 true))) else (laws_FnResolved.j3 kj17 t392 t393 true)))))))) = some r := H
       have A60 := Aside0.mk A600
       clear A600
       replace H := Option.bind_eq_some_iff.mp H
       obtain ⟨⟨t406, t407⟩, A610, H⟩ := H
       replace H : ((spec_DrawHoldsAll.f kj17 l1).bind fun bt408 => ((impl_HoldsAll.f bt408.1 bt408.2.1 bt408.2.2).bind fun bt415 => ((spec_HoldsAll.f kj17 bt408.1 bt408.2.1 bt408.2.2).bind fun bt417 => (if (t393 != t397) = true then (laws_FnResolved.j3 kj17 t392 t393 true) else ((laws_sameInts.f kj17 t392 t396).bind fun t419 => (if t419 = true then (if (t405 != t407) = true then (laws_FnResolved.j3 kj17 t392 t393 true) else (if t404 = t406 then (if (bt415.2 != bt417.2) = true then (laws_FnResolved.j3 kj17 t392 t393 true) else (laws_FnResolved.j3 kj17 t392 t393 (bt415.1 != bt417.1))) else (laws_FnResolved.j3 kj17 t392 t393 true))) else (laws_FnResolved.j3 kj17 t392 t393 true))))))) = some r := H
       have A61 := Aside0.mk A610
       clear A610
       replace H := Option.bind_eq_some_iff.mp H
       obtain ⟨⟨t408, t409, t410⟩, A620, H⟩ := H
       replace H : ((impl_HoldsAll.f t408 t409 t410).bind fun bt415 => ((spec_HoldsAll.f kj17 t408 t409 t410).bind fun bt417 => (if (t393 != t397) = true then (laws_FnResolved.j3 kj17 t392 t393 true) else ((laws_sameInts.f kj17 t392 t396).bind fun t419 => (if t419 = true then (if (t405 != t407) = true then (laws_FnResolved.j3 kj17 t392 t393 true) else (if t404 = t406 then (if (bt415.2 != bt417.2) = true then (laws_FnResolved.j3 kj17 t392 t393 true) else (laws_FnResolved.j3 kj17 t392 t393 (bt415.1 != bt417.1))) else (laws_FnResolved.j3 kj17 t392 t393 true))) else (laws_FnResolved.j3 kj17 t392 t393 true)))))) = some r := H
       have A62 := Aside0.mk A620
       clear A620
       replace H := Option.bind_eq_some_iff.mp H
       obtain ⟨⟨t415, t416⟩, A630, H⟩ := H
       replace H : ((spec_HoldsAll.f kj17 t408 t409 t410).bind fun bt417 => (if (t393 != t397) = true then (laws_FnResolved.j3 kj17 t392 t393 true) else ((laws_sameInts.f kj17 t392 t396).bind fun t419 => (if t419 = true then (if (t405 != t407) = true then (laws_FnResolved.j3 kj17 t392 t393 true) else (if t404 = t406 then (if (t416 != bt417.2) = true then (laws_FnResolved.j3 kj17 t392 t393 true) else (laws_FnResolved.j3 kj17 t392 t393 (t415 != bt417.1))) else (laws_FnResolved.j3 kj17 t392 t393 true))) else (laws_FnResolved.j3 kj17 t392 t393 true))))) = some r := H
       have A63 := Aside0.mk A630
       clear A630
       replace H := Option.bind_eq_some_iff.mp H
       obtain ⟨⟨t417, t418⟩, A640, H⟩ := H
       replace H : (if (t393 != t397) = true then (laws_FnResolved.j3 kj17 t392 t393 true) else ((laws_sameInts.f kj17 t392 t396).bind fun t419 => (if t419 = true then (if (t405 != t407) = true then (laws_FnResolved.j3 kj17 t392 t393 true) else (if t404 = t406 then (if (t416 != t418) = true then (laws_FnResolved.j3 kj17 t392 t393 true) else (laws_FnResolved.j3 kj17 t392 t393 (t415 != t417))) else (laws_FnResolved.j3 kj17 t392 t393 true))) else (laws_FnResolved.j3 kj17 t392 t393 true)))) = some r := H
       have A64 := Aside0.mk A640
       clear A640
       have HC65 := Aside0.mk H
       clear H
       go_upto_region 28 with (first | ((with_reducible refine gate_callee (f := 40) rfl ?_); refine goesL_ (some 122) rfl rfl Try.func40 (by kernel_rfl) rfl #[.slice A1 l1.length c1] rfl (by (try simp only [List.map_toArray, List.map_cons, List.map_nil]); first | done | rfl | (simp only [List.length_drop, List.length_take]; rfl)) ?_; (with_reducible refine (spec_DrawCleanClause.calls kj17 _ _ l1 t389 _ ?side1 ?side2 A56.out).mono ?_); (case side1 => exact zC_ (Kd.C_below HR1.out HB.out)); (case side2 => exact HC1.out); rintro e w66 ⟨v390, rfl, ho0, hb⟩; refine ⟨_, rfl, ?_⟩; obtain ⟨lo1, hi1, EL1, EH1, LE1⟩ := iv_ hb; have OR1 := Aside0.mk (show 0 ≤ lo1 ∧ lo1 ≤ hi1 from ⟨Nat.zero_le _, LE1⟩); have n0_ := Aside0.mk (Kd.R_mono (ok' := fun k_ => lo1 ≤ k_ ∧ k_ < hi1) (Kd.R_lower (Kd.R_bound ho0) (below_size (zb_ HB.out))) (fun k_ hk_ => by have a_ := hk_.2.1; have b_ := hk_.2.2.1; omega)); have n1_ := Aside0.mk (Nat.le_of_eq EH1.symm); have n2_ := Aside0.mk (below_step (zb_ HB.out) hb); clear HTop; clear HB; have HO391 := n0_; have HTop := n1_; have HB := n2_; clear n0_ n1_ n2_; (try clear hb); (try clear hb2); (try clear hk); (try clear hi); (try clear ho0); (try clear EL1); (try clear EH1); (try clear LE1); obtain ⟨Ao67, co67, eo67⟩ := Kd.R_slice HO391.out; subst eo67) | ((with_reducible refine gate_callee (f := 41) rfl ?_); refine goesL_ (some 125) rfl rfl Try.func41 (by kernel_rfl) rfl #[.slice Ao67 t389.length co67] rfl (by (try simp only [List.map_toArray, List.map_cons, List.map_nil]); first | done | rfl | (simp only [List.length_drop, List.length_take]; rfl)) ?_; (with_reducible refine (impl_CleanClause.calls kj17 _ _ t389 t392 t393 _ ?side1 ?side2 A57.out).mono ?_); (case side1 => exact zC_ (Kd.R_reads' HO391.out).2.2); (case side2 => exact (Kd.R_reads' HO391.out).2.1); rintro e w68 ⟨v394, rfl, ho0, hb⟩; refine ⟨_, rfl, ?_⟩; obtain ⟨lo2, hi2, EL2, EH2, LE2⟩ := iv_ hb; have OR2 := Aside0.mk (show hi1 ≤ lo2 ∧ lo2 ≤ hi2 from ⟨Nat.le_trans HTop.out (Nat.le_of_eq EL2), LE2⟩); have n0_ := Aside0.mk (Kd.R_below (zR_ HO391.out) hb); have n1_ := Aside0.mk (Kd.R_mono (ok' := fun k_ => lo2 ≤ k_ ∧ k_ < hi2) (Kd.R_lower (Kd.R_bound ho0) (below_size (zb_ HB.out))) (fun k_ hk_ => by have a_ := hk_.2.1; have b_ := hk_.2.2.1; omega)); have n2_ := Aside0.mk (Nat.le_of_eq EH2.symm); have n3_ := Aside0.mk (below_step (zb_ HB.out) hb); clear HO391; clear HTop; clear HB; have HO391 := n0_; have HO395 := n1_; have HTop := n2_; have HB := n3_; clear n0_ n1_ n2_ n3_; (try clear hb); (try clear hb2); (try clear hk); (try clear hi); (try clear ho0); (try clear EL2); (try clear EH2); (try clear LE2)) | ((with_reducible refine gate_callee (f := 42) rfl ?_); refine goesL_ (some 130) rfl rfl Try.func42 (by kernel_rfl) rfl #[.slice Ao67 t389.length co67] rfl (by (try simp only [List.map_toArray, List.map_cons, List.map_nil]); first | done | rfl | (simp only [List.length_drop, List.length_take]; rfl)) ?_; (with_reducible refine (spec_CleanClause.calls kj17 _ _ t389 t396 t397 _ ?side1 ?side2 A58.out).mono ?_); (case side1 => exact zC_ (Kd.R_reads' HO391.out).2.2); (case side2 => exact (Kd.R_reads' HO391.out).2.1); rintro e w69 ⟨v398, rfl, ho0, hb⟩; refine ⟨_, rfl, ?_⟩; obtain ⟨lo3, hi3, EL3, EH3, LE3⟩ := iv_ hb; have OR3 := Aside0.mk (show hi2 ≤ lo3 ∧ lo3 ≤ hi3 from ⟨Nat.le_trans HTop.out (Nat.le_of_eq EL3), LE3⟩); have n0_ := Aside0.mk (Kd.R_below (zR_ HO391.out) hb); have n1_ := Aside0.mk (Kd.R_below (zR_ HO395.out) hb); have n2_ := Aside0.mk (Kd.R_mono (ok' := fun k_ => lo3 ≤ k_ ∧ k_ < hi3) (Kd.R_lower (Kd.R_bound ho0) (below_size (zb_ HB.out))) (fun k_ hk_ => by have a_ := hk_.2.1; have b_ := hk_.2.2.1; omega)); have n3_ := Aside0.mk (Nat.le_of_eq EH3.symm); have n4_ := Aside0.mk (below_step (zb_ HB.out) hb); clear HO391; clear HO395; clear HTop; clear HB; have HO391 := n0_; have HO395 := n1_; have HO399 := n2_; have HTop := n3_; have HB := n4_; clear n0_ n1_ n2_ n3_ n4_; (try clear hb); (try clear hb2); (try clear hk); (try clear hi); (try clear ho0); (try clear EL3); (try clear EH3); (try clear LE3)) | ((with_reducible refine gate_callee (f := 43) rfl ?_); refine goesL_ (some 135) rfl rfl Try.func43 (by kernel_rfl) rfl #[.slice A1 l1.length c1] rfl (by (try simp only [List.map_toArray, List.map_cons, List.map_nil]); first | done | rfl | (simp only [List.length_drop, List.length_take]; rfl)) ?_; (with_reducible refine (spec_DrawCountModels.calls kj17 _ _ l1 t400 t401 _ ?side1 ?side2 A59.out).mono ?_); (case side1 => exact zC_ (Kd.C_below HR1.out HB.out)); (case side2 => exact HC1.out); rintro e w70 ⟨v402, rfl, ho0, hb⟩; refine ⟨_, rfl, ?_⟩; obtain ⟨lo4, hi4, EL4, EH4, LE4⟩ := iv_ hb; have OR4 := Aside0.mk (show hi3 ≤ lo4 ∧ lo4 ≤ hi4 from ⟨Nat.le_trans HTop.out (Nat.le_of_eq EL4), LE4⟩); have n0_ := Aside0.mk (Kd.R_below (zR_ HO391.out) hb); have n1_ := Aside0.mk (Kd.R_below (zR_ HO395.out) hb); have n2_ := Aside0.mk (Kd.R_below (zR_ HO399.out) hb); have n3_ := Aside0.mk (Kd.N_lower (by first | exact ho0 | exact Kd.S_N ho0 | exact Kd.R_N ho0) (below_size (zb_ HB.out))); have n4_ := Aside0.mk (Nat.le_of_eq EH4.symm); have n5_ := Aside0.mk (below_step (zb_ HB.out) hb); clear HO391; clear HO395; clear HO399; clear HTop; clear HB; have HO391 := n0_; have HO395 := n1_; have HO399 := n2_; have HO403 := n3_; have HTop := n4_; have HB := n5_; clear n0_ n1_ n2_ n3_ n4_ n5_; (try clear hb); (try clear hb2); (try clear hk); (try clear hi); (try clear ho0); (try clear EL4); (try clear EH4); (try clear LE4); obtain ⟨Ao71, co71, eo71⟩ := Kd.N_slice HO403.out; subst eo71) | ((with_reducible refine gate_callee (f := 10) rfl ?_); refine goesL_ (some 141) rfl rfl Try.func10 (by kernel_rfl) rfl #[.int .i64 t400, .slice Ao71 t401.length co71] rfl (by (try simp only [List.map_toArray, List.map_cons, List.map_nil]); first | done | rfl | (simp only [List.length_drop, List.length_take]; rfl)) ?_; (with_reducible refine (impl_CountModels.calls kj17 t400 _ _ t401 t404 t405 _ ?side1 ?side2 A60.out).mono ?_); (case side1 => exact zC_ (Kd.N_reads' HO403.out).2.2); (case side2 => exact (Kd.N_reads' HO403.out).2.1); rintro e w72 ⟨rfl, hb⟩; refine ⟨_, rfl, ?_⟩; obtain ⟨lo5, hi5, EL5, EH5, LE5⟩ := iv_ hb; have OR5 := Aside0.mk (show hi4 ≤ lo5 ∧ lo5 ≤ hi5 from ⟨Nat.le_trans HTop.out (Nat.le_of_eq EL5), LE5⟩); have n0_ := Aside0.mk (Kd.R_below (zR_ HO391.out) hb); have n1_ := Aside0.mk (Kd.R_below (zR_ HO395.out) hb); have n2_ := Aside0.mk (Kd.R_below (zR_ HO399.out) hb); have n3_ := Aside0.mk (Kd.N_below (zN_ HO403.out) hb); have n4_ := Aside0.mk (Nat.le_of_eq EH5.symm); have n5_ := Aside0.mk (below_step (zb_ HB.out) hb); clear HO391; clear HO395; clear HO399; clear HO403; clear HTop; clear HB; have HO391 := n0_; have HO395 := n1_; have HO399 := n2_; have HO403 := n3_; have HTop := n4_; have HB := n5_; clear n0_ n1_ n2_ n3_ n4_ n5_; (try clear hb); (try clear hb2); (try clear hk); (try clear hi); (try clear EL5); (try clear EH5); (try clear LE5)) | ((with_reducible refine gate_callee (f := 44) rfl ?_); refine goesL_ (some 147) rfl rfl Try.func44 (by kernel_rfl) rfl #[.int .i64 t400, .slice Ao71 t401.length co71] rfl (by (try simp only [List.map_toArray, List.map_cons, List.map_nil]); first | done | rfl | (simp only [List.length_drop, List.length_take]; rfl)) ?_; (with_reducible refine (spec_CountModels.calls kj17 t400 _ _ t401 t406 t407 _ ?side1 ?side2 A61.out).mono ?_); (case side1 => exact zC_ (Kd.N_reads' HO403.out).2.2); (case side2 => exact (Kd.N_reads' HO403.out).2.1); rintro e w73 ⟨rfl, hb⟩; refine ⟨_, rfl, ?_⟩; obtain ⟨lo6, hi6, EL6, EH6, LE6⟩ := iv_ hb; have OR6 := Aside0.mk (show hi5 ≤ lo6 ∧ lo6 ≤ hi6 from ⟨Nat.le_trans HTop.out (Nat.le_of_eq EL6), LE6⟩); have n0_ := Aside0.mk (Kd.R_below (zR_ HO391.out) hb); have n1_ := Aside0.mk (Kd.R_below (zR_ HO395.out) hb); have n2_ := Aside0.mk (Kd.R_below (zR_ HO399.out) hb); have n3_ := Aside0.mk (Kd.N_below (zN_ HO403.out) hb); have n4_ := Aside0.mk (Nat.le_of_eq EH6.symm); have n5_ := Aside0.mk (below_step (zb_ HB.out) hb); clear HO391; clear HO395; clear HO399; clear HO403; clear HTop; clear HB; have HO391 := n0_; have HO395 := n1_; have HO399 := n2_; have HO403 := n3_; have HTop := n4_; have HB := n5_; clear n0_ n1_ n2_ n3_ n4_ n5_; (try clear hb); (try clear hb2); (try clear hk); (try clear hi); (try clear EL6); (try clear EH6); (try clear LE6)) | ((with_reducible refine gate_callee (f := 45) rfl ?_); refine goesL_ (some 152) rfl rfl Try.func45 (by kernel_rfl) rfl #[.slice A1 l1.length c1] rfl (by (try simp only [List.map_toArray, List.map_cons, List.map_nil]); first | done | rfl | (simp only [List.length_drop, List.length_take]; rfl)) ?_; (with_reducible refine (spec_DrawHoldsAll.calls kj17 _ _ l1 t408 t409 t410 _ ?side1 ?side2 A62.out).mono ?_); (case side1 => exact zC_ (Kd.C_below HR1.out HB.out)); (case side2 => exact HC1.out); rintro e w74 ⟨v411, v413, rfl, ho0, ho1, hb⟩; refine ⟨_, rfl, ?_⟩; obtain ⟨lo7, hi7, EL7, EH7, LE7⟩ := iv_ hb; have OR7 := Aside0.mk (show hi6 ≤ lo7 ∧ lo7 ≤ hi7 from ⟨Nat.le_trans HTop.out (Nat.le_of_eq EL7), LE7⟩); have n0_ := Aside0.mk (Kd.R_below (zR_ HO391.out) hb); have n1_ := Aside0.mk (Kd.R_below (zR_ HO395.out) hb); have n2_ := Aside0.mk (Kd.R_below (zR_ HO399.out) hb); have n3_ := Aside0.mk (Kd.N_below (zN_ HO403.out) hb); have n4_ := Aside0.mk (Kd.N_lower (by first | exact ho0 | exact Kd.S_N ho0 | exact Kd.R_N ho0) (below_size (zb_ HB.out))); have n5_ := Aside0.mk (Kd.R_mono (ok' := fun k_ => lo7 ≤ k_ ∧ k_ < hi7) (Kd.R_lower (Kd.R_bound ho1) (below_size (zb_ HB.out))) (fun k_ hk_ => by have a_ := hk_.2.1; have b_ := hk_.2.2.1; omega)); have n6_ := Aside0.mk (Nat.le_of_eq EH7.symm); have n7_ := Aside0.mk (below_step (zb_ HB.out) hb); clear HO391; clear HO395; clear HO399; clear HO403; clear HTop; clear HB; have HO391 := n0_; have HO395 := n1_; have HO399 := n2_; have HO403 := n3_; have HO412 := n4_; have HO414 := n5_; have HTop := n6_; have HB := n7_; clear n0_ n1_ n2_ n3_ n4_ n5_ n6_ n7_; (try clear hb); (try clear hb2); (try clear hk); (try clear hi); (try clear ho0); (try clear ho1); (try clear EL7); (try clear EH7); (try clear LE7); obtain ⟨Ao75, co75, eo75⟩ := Kd.N_slice HO412.out; subst eo75; obtain ⟨Ao76, co76, eo76⟩ := Kd.R_slice HO414.out; subst eo76) | ((with_reducible refine gate_callee (f := 30) rfl ?_); refine goesL_ (some 160) rfl rfl Try.func30 (by kernel_rfl) rfl #[.int .i64 t408, .slice Ao75 t409.length co75, .slice Ao76 t410.length co76] rfl (by (try simp only [List.map_toArray, List.map_cons, List.map_nil]); first | done | rfl | (simp only [List.length_drop, List.length_take]; rfl)) ?_; (with_reducible refine (impl_HoldsAll.calls t408 _ _ t409 _ _ t410 t415 t416 _ ?side1 ?side2 ?side3 ?side4 A63.out).mono ?_); (case side1 => exact zC_ (Kd.N_reads' HO412.out).2.2); (case side2 => exact (Kd.N_reads' HO412.out).2.1); (case side3 => exact zC_ (Kd.R_reads' HO414.out).2.2); (case side4 => exact (Kd.R_reads' HO414.out).2.1); rintro e w77 ⟨rfl, hb⟩; refine ⟨_, rfl, ?_⟩; obtain ⟨lo8, hi8, EL8, EH8, LE8⟩ := iv_ hb; have OR8 := Aside0.mk (show hi7 ≤ lo8 ∧ lo8 ≤ hi8 from ⟨Nat.le_trans HTop.out (Nat.le_of_eq EL8), LE8⟩); have n0_ := Aside0.mk (Kd.R_below (zR_ HO391.out) hb); have n1_ := Aside0.mk (Kd.R_below (zR_ HO395.out) hb); have n2_ := Aside0.mk (Kd.R_below (zR_ HO399.out) hb); have n3_ := Aside0.mk (Kd.N_below (zN_ HO403.out) hb); have n4_ := Aside0.mk (Kd.N_below (zN_ HO412.out) hb); have n5_ := Aside0.mk (Kd.R_below (zR_ HO414.out) hb); have n6_ := Aside0.mk (Nat.le_of_eq EH8.symm); have n7_ := Aside0.mk (below_step (zb_ HB.out) hb); clear HO391; clear HO395; clear HO399; clear HO403; clear HO412; clear HO414; clear HTop; clear HB; have HO391 := n0_; have HO395 := n1_; have HO399 := n2_; have HO403 := n3_; have HO412 := n4_; have HO414 := n5_; have HTop := n6_; have HB := n7_; clear n0_ n1_ n2_ n3_ n4_ n5_ n6_ n7_; (try clear hb); (try clear hb2); (try clear hk); (try clear hi); (try clear EL8); (try clear EH8); (try clear LE8)) | ((with_reducible refine gate_callee (f := 46) rfl ?_); refine goesL_ (some 167) rfl rfl Try.func46 (by kernel_rfl) rfl #[.int .i64 t408, .slice Ao75 t409.length co75, .slice Ao76 t410.length co76] rfl (by (try simp only [List.map_toArray, List.map_cons, List.map_nil]); first | done | rfl | (simp only [List.length_drop, List.length_take]; rfl)) ?_; (with_reducible refine (spec_HoldsAll.calls kj17 t408 _ _ t409 _ _ t410 t417 t418 _ ?side1 ?side2 ?side3 ?side4 A64.out).mono ?_); (case side1 => exact zC_ (Kd.N_reads' HO412.out).2.2); (case side2 => exact (Kd.N_reads' HO412.out).2.1); (case side3 => exact zC_ (Kd.R_reads' HO414.out).2.2); (case side4 => exact (Kd.R_reads' HO414.out).2.1); rintro e w' ⟨rfl, ⟨nd, rfl⟩⟩; refine ⟨_, rfl, ?_⟩))
       (try simp only [Act.put, List.setIfInBounds_toArray, List.set_cons_zero, List.set_cons_succ])
       go_cut [198] (fun v198 wc => ∃ (kq : Nat) (x198_64 : Bool), v198 = .bool x198_64 ∧ Aside0 (laws_FnResolved.j3 kq t392 t393 x198_64 = some r) ∧ Aside0 (kq ≤ kj17) ∧ Aside0 (Kd.R (Kd.int .i64) 3 wc w.heap.size (fun _ => True) v394 t392) ∧ Aside0 (Below w.heap.size w wc))
       case first =>
        have H := HC65.out
        clear HC65
        by_cases c78 : (t393 != t397) = true
        ·rw [if_pos c78] at H
         have c78b0 : (t393 != t397) = true := c78
         (try (have c78b1 : decide (t393 = t397) = false := by simpa using c78))
         (try (have c78b2 : (t393 == t397) = false := by simpa using c78))
         (try (have c78b3 : ¬ (t393 = t397) := by simpa using c78))
         clear c78
         (first | rw [c78b0] | (simp only [i64_w, i32_w]; rw [c78b0]) | skip)
         have H' := Aside0.mk H
         clear H
         go_wp2
         go_meet
         case rel => exact ⟨_, (true), (by first | rfl | (simp; done) | (simp [*]; done)), H', ⟨by have := HJ6.out; have := HJ17.out; first | omega | exact Nat.le_refl _⟩, ⟨Kd.R_mono (zR_ HO395.out) (fun _ _ => trivial)⟩, ⟨zb_ HB.out⟩⟩
        ·rw [if_neg c78] at H
         have c78b0 : (t393 != t397) = false := by simpa using c78
         (try (have c78b1 : decide (t393 = t397) = true := by simpa using c78))
         (try (have c78b2 : (t393 == t397) = true := by simpa using c78))
         clear c78
         (first | rw [c78b0] | (simp only [i64_w, i32_w]; rw [c78b0]) | skip)
         replace H := Option.bind_eq_some_iff.mp H
         obtain ⟨t419, A790, H⟩ := H
         replace H : (if t419 = true then (if (t405 != t407) = true then (laws_FnResolved.j3 kj17 t392 t393 true) else (if t404 = t406 then (if (t416 != t418) = true then (laws_FnResolved.j3 kj17 t392 t393 true) else (laws_FnResolved.j3 kj17 t392 t393 (t415 != t417))) else (laws_FnResolved.j3 kj17 t392 t393 true))) else (laws_FnResolved.j3 kj17 t392 t393 true)) = some r := H
         have A79 := Aside0.mk A790
         clear A790
         by_cases c80 : t419 = true
         ·subst c80
          have H1 : (if (t405 != t407) = true then (laws_FnResolved.j3 kj17 t392 t393 true) else (if t404 = t406 then (if (t416 != t418) = true then (laws_FnResolved.j3 kj17 t392 t393 true) else (laws_FnResolved.j3 kj17 t392 t393 (t415 != t417))) else (laws_FnResolved.j3 kj17 t392 t393 true))) = some r := by rw [if_pos rfl] at H; exact H
          clear H
          have H := H1
          clear H1
          by_cases c81 : (t405 != t407) = true
          ·rw [if_pos c81] at H
           have c81b0 : (t405 != t407) = true := c81
           (try (have c81b1 : decide (t405 = t407) = false := by simpa using c81))
           (try (have c81b2 : (t405 == t407) = false := by simpa using c81))
           (try (have c81b3 : ¬ (t405 = t407) := by simpa using c81))
           clear c81
           have H' := Aside0.mk H
           clear H
           obtain ⟨Ao82, co82, eo82⟩ := Kd.R_slice HO395.out
           subst eo82
           obtain ⟨Ao83, co83, eo83⟩ := Kd.R_slice HO399.out
           subst eo83
           go_wp2_with (first | (go_at_call 20; (with_reducible refine (laws_sameInts.calls kj17 _ _ t392 _ _ t396 true _ ?side1 ?side2 ?side3 ?side4 A79.out).mono ?_); (case side1 => exact zC_ (Kd.R_reads' HO395.out).2.2); (case side2 => exact (Kd.R_reads' HO395.out).2.1); (case side3 => exact zC_ (Kd.R_reads' HO399.out).2.2); (case side4 => exact (Kd.R_reads' HO399.out).2.1); rintro e w' ⟨rfl, ⟨nd, rfl⟩⟩))
           go_meet
           case rel => exact ⟨_, (true), (by first | rfl | (simp; done) | (simp [*]; done)), H', ⟨by have := HJ6.out; have := HJ17.out; first | omega | exact Nat.le_refl _⟩, ⟨Kd.R_mono (zR_ HO395.out) (fun _ _ => trivial)⟩, ⟨zb_ HB.out⟩⟩
          ·rw [if_neg c81] at H
           have c81b0 : (t405 != t407) = false := by simpa using c81
           (try (have c81b1 : decide (t405 = t407) = true := by simpa using c81))
           (try (have c81b2 : (t405 == t407) = true := by simpa using c81))
           clear c81
           by_cases c84 : t404 = t406
           ·rw [if_pos c84] at H
            have c84b0 : (t404 == t406) = true := beq_iff_eq.mpr c84
            have c84b1 : (t404 != t406) = false := bne_eq_false_iff_eq.mpr c84
            clear c84
            by_cases c85 : (t416 != t418) = true
            ·rw [if_pos c85] at H
             have c85b0 : (t416 != t418) = true := c85
             (try (have c85b1 : decide (t416 = t418) = false := by simpa using c85))
             (try (have c85b2 : (t416 == t418) = false := by simpa using c85))
             (try (have c85b3 : ¬ (t416 = t418) := by simpa using c85))
             clear c85
             have H' := Aside0.mk H
             clear H
             obtain ⟨Ao86, co86, eo86⟩ := Kd.R_slice HO395.out
             subst eo86
             obtain ⟨Ao87, co87, eo87⟩ := Kd.R_slice HO399.out
             subst eo87
             go_wp2_with (first | (go_at_call 20; (with_reducible refine (laws_sameInts.calls kj17 _ _ t392 _ _ t396 true _ ?side1 ?side2 ?side3 ?side4 A79.out).mono ?_); (case side1 => exact zC_ (Kd.R_reads' HO395.out).2.2); (case side2 => exact (Kd.R_reads' HO395.out).2.1); (case side3 => exact zC_ (Kd.R_reads' HO399.out).2.2); (case side4 => exact (Kd.R_reads' HO399.out).2.1); rintro e w' ⟨rfl, ⟨nd, rfl⟩⟩))
             go_meet
             case rel => exact ⟨_, (true), (by first | rfl | (simp; done) | (simp [*]; done)), H', ⟨by have := HJ6.out; have := HJ17.out; first | omega | exact Nat.le_refl _⟩, ⟨Kd.R_mono (zR_ HO395.out) (fun _ _ => trivial)⟩, ⟨zb_ HB.out⟩⟩
            ·rw [if_neg c85] at H
             have c85b0 : (t416 != t418) = false := by simpa using c85
             (try (have c85b1 : decide (t416 = t418) = true := by simpa using c85))
             (try (have c85b2 : (t416 == t418) = true := by simpa using c85))
             clear c85
             have H' := Aside0.mk H
             clear H
             obtain ⟨Ao88, co88, eo88⟩ := Kd.R_slice HO395.out
             subst eo88
             obtain ⟨Ao89, co89, eo89⟩ := Kd.R_slice HO399.out
             subst eo89
             go_wp2_with (first | (go_at_call 20; (with_reducible refine (laws_sameInts.calls kj17 _ _ t392 _ _ t396 true _ ?side1 ?side2 ?side3 ?side4 A79.out).mono ?_); (case side1 => exact zC_ (Kd.R_reads' HO395.out).2.2); (case side2 => exact (Kd.R_reads' HO395.out).2.1); (case side3 => exact zC_ (Kd.R_reads' HO399.out).2.2); (case side4 => exact (Kd.R_reads' HO399.out).2.1); rintro e w' ⟨rfl, ⟨nd, rfl⟩⟩))
             go_meet
             case rel => exact ⟨_, ((t415 != t417)), (by first | rfl | (simp; done) | (simp [*]; done)), H', ⟨by have := HJ6.out; have := HJ17.out; first | omega | exact Nat.le_refl _⟩, ⟨Kd.R_mono (zR_ HO395.out) (fun _ _ => trivial)⟩, ⟨zb_ HB.out⟩⟩
           ·rw [if_neg c84] at H
            have c84b0 : (t404 == t406) = false := beq_eq_false_iff_ne.mpr c84
            have c84b1 : (t404 != t406) = true := bne_iff_ne.mpr c84
            have H' := Aside0.mk H
            clear H
            obtain ⟨Ao90, co90, eo90⟩ := Kd.R_slice HO395.out
            subst eo90
            obtain ⟨Ao91, co91, eo91⟩ := Kd.R_slice HO399.out
            subst eo91
            go_wp2_with (first | (go_at_call 20; (with_reducible refine (laws_sameInts.calls kj17 _ _ t392 _ _ t396 true _ ?side1 ?side2 ?side3 ?side4 A79.out).mono ?_); (case side1 => exact zC_ (Kd.R_reads' HO395.out).2.2); (case side2 => exact (Kd.R_reads' HO395.out).2.1); (case side3 => exact zC_ (Kd.R_reads' HO399.out).2.2); (case side4 => exact (Kd.R_reads' HO399.out).2.1); rintro e w' ⟨rfl, ⟨nd, rfl⟩⟩))
            go_meet
            case rel => exact ⟨_, (true), (by first | rfl | (simp; done) | (simp [*]; done)), H', ⟨by have := HJ6.out; have := HJ17.out; first | omega | exact Nat.le_refl _⟩, ⟨Kd.R_mono (zR_ HO395.out) (fun _ _ => trivial)⟩, ⟨zb_ HB.out⟩⟩
         ·replace c80 := Bool.eq_false_iff.mpr c80
          subst c80
          have H1 : (laws_FnResolved.j3 kj17 t392 t393 true) = some r := by rw [if_neg (show ¬ (false = true) by decide)] at H; exact H
          clear H
          have H := H1
          clear H1
          have H' := Aside0.mk H
          clear H
          obtain ⟨Ao92, co92, eo92⟩ := Kd.R_slice HO395.out
          subst eo92
          obtain ⟨Ao93, co93, eo93⟩ := Kd.R_slice HO399.out
          subst eo93
          go_wp2_with (first | (go_at_call 20; (with_reducible refine (laws_sameInts.calls kj17 _ _ t392 _ _ t396 false _ ?side1 ?side2 ?side3 ?side4 A79.out).mono ?_); (case side1 => exact zC_ (Kd.R_reads' HO395.out).2.2); (case side2 => exact (Kd.R_reads' HO395.out).2.1); (case side3 => exact zC_ (Kd.R_reads' HO399.out).2.2); (case side4 => exact (Kd.R_reads' HO399.out).2.1); rintro e w' ⟨rfl, ⟨nd, rfl⟩⟩))
          go_meet
          case rel => exact ⟨_, (true), (by first | rfl | (simp; done) | (simp [*]; done)), H', ⟨by have := HJ6.out; have := HJ17.out; first | omega | exact Nat.le_refl _⟩, ⟨Kd.R_mono (zR_ HO395.out) (fun _ _ => trivial)⟩, ⟨zb_ HB.out⟩⟩
       case rest =>
        clear HC65
        try clear c1
        try clear c2
        try clear p2
        try clear c3
        try clear c3b0
        try clear c4
        try clear c5
        try clear p6
        try clear c7
        try clear c8
        try clear c10
        try clear c13
        try clear c13b0
        try clear c13b1
        try clear c13b2
        try clear c17
        try clear c19
        try clear c20
        try clear c20b0
        try clear c25
        try clear c26
        try clear c27
        try clear c28
        try clear c29
        try clear c30
        try clear c35
        try clear c36
        try clear c37
        try clear c38
        try clear c39
        try clear c40
        try clear c41
        try clear c42
        try clear c43
        try clear c44
        try clear c45
        try clear c46
        try clear c52
        try clear c54
        try clear p64
        try clear c78
        try clear c78b0
        try clear c78b1
        try clear c78b2
        try clear c80
        try clear c81
        try clear c81b0
        try clear c81b1
        try clear c81b2
        try clear c84
        try clear c84b0
        try clear c84b1
        try clear c85
        try clear c85b0
        try clear c85b1
        try clear c85b2
        try clear p2
        try clear p6
        obtain ⟨kq, x198_64, rfl, HA, HJ64, HO_19, HB⟩ := hcut
        cases kq with
        | zero => exact absurd HA.out (by simp [laws_FnResolved.j3])
        | succ kj64 =>
         have H := HA.out
         clear HA
         simp only [laws_FnResolved.j3] at H
         by_cases c94 : x198_64 = true
         ·subst c94
          have H1 : (none) = some r := by rw [if_pos rfl] at H; exact H
          clear H
          have H := H1
          clear H1
          exact absurd H (by simp)
         ·replace c94 := Bool.eq_false_iff.mpr c94
          subst c94
          have H1 : (if t393 = true then ((impl_CleanClause.f kj64 t392).bind fun bt420 => (if bt420.2 = true then ((laws_sameInts.f kj64 bt420.1 t392).bind fun t424 => (some t424)) else (none))) else (some true)) = some r := by rw [if_neg (show ¬ (false = true) by decide)] at H; exact H
          clear H
          have H := H1
          clear H1
          by_cases c95 : t393 = true
          ·subst c95
           have H1 : ((impl_CleanClause.f kj64 t392).bind fun bt420 => (if bt420.2 = true then ((laws_sameInts.f kj64 bt420.1 t392).bind fun t424 => (some t424)) else (none))) = some r := by rw [if_pos rfl] at H; exact H
           clear H
           have H := H1
           clear H1
           replace H := Option.bind_eq_some_iff.mp H
           obtain ⟨⟨t420, t421⟩, A960, H⟩ := H
           replace H : (if t421 = true then ((laws_sameInts.f kj64 t420 t392).bind fun t424 => (some t424)) else (none)) = some r := H
           have A96 := Aside0.mk A960
           clear A960
           by_cases c97 : t421 = true
           ·subst c97
            have H1 : ((laws_sameInts.f kj64 t420 t392).bind fun t424 => (some t424)) = some r := by rw [if_pos rfl] at H; exact H
            clear H
            have H := H1
            clear H1
            replace H := Option.bind_eq_some_iff.mp H
            obtain ⟨t424, A980, H⟩ := H
            replace H : (some t424) = some r := H
            have A98 := Aside0.mk A980
            clear A980
            obtain rfl := Option.some.inj H
            obtain ⟨Ao99, co99, eo99⟩ := Kd.R_slice HO_19.out
            subst eo99
            go_wp2_with (first | ((with_reducible refine gate_callee (f := 41) rfl ?_); refine goesL_ (some 202) rfl rfl Try.func41 (by kernel_rfl) rfl #[.slice Ao99 t392.length co99] rfl (by (try simp only [List.map_toArray, List.map_cons, List.map_nil]); first | done | rfl | (simp only [List.length_drop, List.length_take]; rfl)) ?_; (with_reducible refine (impl_CleanClause.calls kj64 _ _ t392 t420 true _ ?side1 ?side2 A96.out).mono ?_); (case side1 => exact zC_ (Kd.R_reads' HO_19.out).2.2); (case side2 => exact (Kd.R_reads' HO_19.out).2.1); rintro e w100 ⟨v422, rfl, ho0, hb⟩; refine ⟨_, rfl, ?_⟩; obtain ⟨lo1, hi1, EL1, EH1, LE1⟩ := iv_ hb; have OR1 := Aside0.mk (show 0 ≤ lo1 ∧ lo1 ≤ hi1 from ⟨Nat.zero_le _, LE1⟩); have n0_ := Aside0.mk (Kd.R_below (zR_ HO_19.out) hb); have n1_ := Aside0.mk (Kd.R_mono (ok' := fun k_ => lo1 ≤ k_ ∧ k_ < hi1) (Kd.R_lower (Kd.R_bound ho0) (below_size (zb_ HB.out))) (fun k_ hk_ => by have a_ := hk_.2.1; have b_ := hk_.2.2.1; omega)); have n2_ := Aside0.mk (Nat.le_of_eq EH1.symm); have n3_ := Aside0.mk (below_step (zb_ HB.out) hb); clear HO_19; clear HTop; clear HB; have HO_19 := n0_; have HO423 := n1_; have HTop := n2_; have HB := n3_; clear n0_ n1_ n2_ n3_; (try clear hb); (try clear hb2); (try clear hk); (try clear hi); (try clear ho0); (try clear EL1); (try clear EH1); (try clear LE1); obtain ⟨Ao101, co101, eo101⟩ := Kd.R_slice HO423.out; subst eo101) | (go_at_call 20; (with_reducible refine (laws_sameInts.calls kj64 _ _ t420 _ _ t392 t424 _ ?side1 ?side2 ?side3 ?side4 A98.out).mono ?_); (case side1 => exact zC_ (Kd.R_reads' HO423.out).2.2); (case side2 => exact (Kd.R_reads' HO423.out).2.1); (case side3 => exact zC_ (Kd.R_reads' HO_19.out).2.2); (case side4 => exact (Kd.R_reads' HO_19.out).2.1); rintro e w' ⟨rfl, ⟨nd, rfl⟩⟩))
            go_ret
            exact ⟨by first | rfl | (simp [errW_none, errW_some] <;> rfl) | (simp [*, errW_none, errW_some] <;> rfl), zb_ HB.out⟩
           ·replace c97 := Bool.eq_false_iff.mpr c97
            subst c97
            have H1 : (none) = some r := by rw [if_neg (show ¬ (false = true) by decide)] at H; exact H
            clear H
            have H := H1
            clear H1
            exact absurd H (by simp)
          ·replace c95 := Bool.eq_false_iff.mpr c95
           subst c95
           have H1 : (some true) = some r := by rw [if_neg (show ¬ (false = true) by decide)] at H; exact H
           clear H
           have H := H1
           clear H1
           obtain rfl := Option.some.inj H
           go_wp2
           go_ret
           exact ⟨by first | rfl | (simp [errW_none, errW_some] <;> rfl) | (simp [*, errW_none, errW_some] <;> rfl), zb_ HB.out⟩

/-- THE ONE PURE STATEMENT of laws_FnResolved: yours. -/
def laws_FnResolved.Pure : Prop := ∀ (l0 : List Int) (l1 : List Int), l0.length ≤ maxLen → l0.length * 1 ≤ 140737488351232 → (∀ x ∈ l0, (Lit.int .u8 x).wf = true) → l1.length ≤ maxLen → l1.length * 1 ≤ 140737488351232 → (∀ x ∈ l1, (Lit.int .u8 x).wf = true) → ∃ k, laws_FnResolved.f k l0 l1 = some true
theorem laws_FnResolved.walk (P : laws_FnResolved.Pure) (a0 : Option Addr) (len0 cap0 : Nat) (z0 : List Int) (a1 : Option Addr) (len1 cap1 : Nat) (z1 : List Int) (w : World) (w0 : (a0 = none ∧ len0 = 0 ∧ cap0 = 0 ∧ z0 = []) ∨ ∃ x, a0 = some x ∧ len0 ≤ cap0 ∧ cap0 ≤ maxLen ∧ z0.length = cap0 ∧ (∀ i, i < z0.length → w.cell? (x.add i) = some (.int .u8 (z0.getD i 0))) ∧ ∀ n ∈ z0, (Lit.int .u8 n).wf = true) (y0 : len0 * 1 ≤ 140737488351232) (w1 : (a1 = none ∧ len1 = 0 ∧ cap1 = 0 ∧ z1 = []) ∨ ∃ x, a1 = some x ∧ len1 ≤ cap1 ∧ cap1 ≤ maxLen ∧ z1.length = cap1 ∧ (∀ i, i < z1.length → w.cell? (x.add i) = some (.int .u8 (z1.getD i 0))) ∧ ∀ n ∈ z1, (Lit.int .u8 n).wf = true) (y1 : len1 * 1 ≤ 140737488351232) :
  Calls Try.prog 5 #[.slice a0 len0 cap0, .slice a1 len1 cap1] w fun e w' => e = .returned (.bool true) ∧ Below w.heap.size w w' := by
 obtain ⟨l0, rfl, hr0, hm0, hw0, hc0⟩ := ReadsInt.ofRowC w0
 obtain ⟨l1, rfl, hr1, hm1, hw1, hc1⟩ := ReadsInt.ofRowC w1
 obtain ⟨k, h⟩ := P l0 l1 hm0 y0 hw0 hm1 y1 hw1
 refine (laws_FnResolved.calls k _ _ l0 _ _ l1 true w (Kd.C_of_reads (d := (0 : Int)) (h1 := fun _ => rfl) hr0) hc0 (Kd.C_of_reads (d := (0 : Int)) (h1 := fun _ => rfl) hr1) hc1 h).mono ?_
 rintro e w' ⟨rfl, hd⟩
 exact ⟨rfl, hd⟩

end Go.Proofs.Ytpkbjgmeejlchab.PFnResolved
-- squeezed
