-- Made by a program of this session (wip/tools), which leans on the kit's print: checked by Lean alone.
import Derived.Test.YtpkbjgmeejlchaaDoorPFnNextsx0
import Derived.Test.YtpkbjgmeejlchaaDoorPFnNextsx3
import Derived.Test.YtpkbjgmeejlchaaDoorPFnNextsx4
import Derived.Test.YtpkbjgmeejlchaaDoorPFnNextsx7
import Derived.Test.YtpkbjgmeejlchaaDoorPFnNextsx8
import Derived.Test.YtpkbjgmeejlchaaDoorPFnNextsx9
import Derived.Test.YtpkbjgmeejlchaaDoorPFnNextsx10
namespace Go.Proofs.YtpkbjgmeejlchaaDoor.PFnNexts
open Go.RowKit Go.Proofs.YtpkbjgmeejlchaaDoorW.PrintWords Go.Proofs.YtpkbjgmeejlchaaDoorW.PrintLast Go.Proofs.YtpkbjgmeejlchaaDoorW.PrintMore
attribute [local go_sem] max2_int min2_int max_two min_two max_three min_three max_four min_four   -- for this text's walks alone
set_option linter.unusedVariables false
set_option linter.unusedSimpArgs false
mutual
def laws_FnNexts.j0 : Nat → List Int → List (S31) → Int → List Int → Bool → Bool → Option (Bool)
 | 0, _, _, _, _, _, _ => none
 | k + 1, x1, x5, x6, x7, x8, x58 => if x58 = true then (none) else (if x8 = true then (laws_FnNexts.l0 k x1 x5 x6 x7 x7 (x7.length : Int) 0) else (laws_FnNexts.j2 k x1))
def laws_FnNexts.j2 : Nat → List Int → Option (Bool)
 | 0, _ => none
 | k + 1, x1 => (spec_DrawStepBytes.f k x1).bind fun bt401 => ((impl_StepBytes.f k bt401.1 bt401.2.1 bt401.2.2.1 bt401.2.2.2.1 bt401.2.2.2.2.1 bt401.2.2.2.2.2).bind fun bt408 => ((spec_StepBytes.f k bt401.1 bt401.2.1 bt401.2.2.1 bt401.2.2.2.1 bt401.2.2.2.2.1 bt401.2.2.2.2.2).bind fun bt410 => ((impl_StepText.f k bt401.1 bt401.2.1 bt401.2.2.1 bt401.2.2.2.1 bt401.2.2.2.2.1 bt401.2.2.2.2.2).bind fun bt412 => ((spec_StepText.f k bt401.1 bt401.2.1 bt401.2.2.1 bt401.2.2.2.1 bt401.2.2.2.2.1 bt401.2.2.2.2.2).bind fun bt414 => ((spec_DrawSlotsOf.f k x1).bind fun t416 => ((impl_SlotsOf.f k t416).bind fun bt419 => ((spec_SlotsOf.f k t416).bind fun bt423 => (if (bt408.2 == bt410.2) = true then (if bt408.1.toList = bt410.1.toList then (if (bt412.2 == bt414.2) = true then (if bt412.1.toList = bt414.1.toList then (if (bt419.2 == bt423.2) = true then ((laws_sameInts.f k bt419.1 bt423.1).bind fun t427 => (if t427 = true then (some (bt408.2 == bt412.2)) else (none))) else (none)) else (none)) else (none)) else (none)) else (none)))))))))
def laws_FnNexts.l0 : Nat → List Int → List (S31) → Int → List Int → List Int → Int → Int → Option (Bool)
 | 0, _, _, _, _, _, _, _ => none
 | k + 1, x1, x5, x6, x7, x60, x61, x62 => if x62 < x61 then (if 0 ≤ x62 then (if x62 < (x60.length : Int) then (if (rd x60 x62) ≤ x6 then (none) else (if (rd x60 x62) ≥ (x5.length : Int) then (none) else (laws_FnNexts.l0 k x1 x5 x6 x7 x60 x61 (wrap64 (x62 + 1))))) else (none)) else (none)) else (if 0 ≤ x6 then (if x6 < (x5.length : Int) then (if (((x7.length : Int) == 0) != (((rd_T31 x5 x6).f0) == 11)) = true then (none) else (laws_FnNexts.j2 k x1)) else (none)) else (none))
end
def laws_FnNexts.f (k : Nat) (l0 : List Int) (l1 : List Int) : Option (Bool) := if (wrap64 ((l0.length : Int) + (l1.length : Int))) > 1048576 then (some true) else ((spec_DrawNextsOf.f k l0).bind fun bt386 => ((impl_NextsOf.f k bt386.1 bt386.2).bind fun bt390 => ((spec_NextsOf.f k bt386.1 bt386.2).bind fun bt394 => (if (bt390.2 != bt394.2) = true then (laws_FnNexts.j0 k l1 bt386.1 bt386.2 bt390.1 bt390.2 true) else ((laws_sameInts.f k bt390.1 bt394.1).bind fun t398 => (laws_FnNexts.j0 k l1 bt386.1 bt386.2 bt390.1 bt390.2 (!t398)))))))
theorem laws_FnNexts.mono_l : ∀ k, (∀ y0 y1 y2 y3 y4 y5, LeO (laws_FnNexts.j0 k y0 y1 y2 y3 y4 y5) (laws_FnNexts.j0 (k + 1) y0 y1 y2 y3 y4 y5)) ∧ (∀ y0, LeO (laws_FnNexts.j2 k y0) (laws_FnNexts.j2 (k + 1) y0)) ∧ (∀ y0 y1 y2 y3 y4 y5 y6, LeO (laws_FnNexts.l0 k y0 y1 y2 y3 y4 y5 y6) (laws_FnNexts.l0 (k + 1) y0 y1 y2 y3 y4 y5 y6))
 | 0 => ⟨fun _ _ _ _ _ _ r h => by simp [laws_FnNexts.j0] at h, fun _ r h => by simp [laws_FnNexts.j2] at h, fun _ _ _ _ _ _ _ r h => by simp [laws_FnNexts.l0] at h⟩
 | k + 1 => by
  obtain ⟨ih0, ih1, ih2⟩ := laws_FnNexts.mono_l k
  refine ⟨?_, ?_, ?_⟩
  ·intro y0 y1 y2 y3 y4 y5
   unfold laws_FnNexts.j0
   repeat' first
   | (with_reducible exact ih0 _ _ _ _ _ _)
   | (with_reducible exact ih1 _)
   | (with_reducible exact ih2 _ _ _ _ _ _ _)
   | (with_reducible exact impl_NextsOf.mono _ _ _)
   | (with_reducible exact impl_SlotsOf.mono _ _)
   | (with_reducible exact impl_StepBytes.mono _ _ _ _ _ _ _)
   | (with_reducible exact impl_StepText.mono _ _ _ _ _ _ _)
   | (with_reducible exact laws_sameInts.mono _ _ _)
   | (with_reducible exact spec_DrawNextsOf.mono _ _)
   | (with_reducible exact spec_DrawSlotsOf.mono _ _)
   | (with_reducible exact spec_DrawStepBytes.mono _ _)
   | (with_reducible exact spec_NextsOf.mono _ _ _)
   | (with_reducible exact spec_SlotsOf.mono _ _)
   | (with_reducible exact spec_StepBytes.mono _ _ _ _ _ _ _)
   | (with_reducible exact spec_StepText.mono _ _ _ _ _ _ _)
   | (with_reducible exact LeO.refl _)
   | (with_reducible exact LeO.none _)
   | (with_reducible refine LeO.ite ?_ ?_)
   | (with_reducible refine LeO.bind ?_ (fun _ => ?_))
   | exact ih0 _ _ _ _ _ _
   | exact ih1 _
   | exact ih2 _ _ _ _ _ _ _
   | exact impl_NextsOf.mono _ _ _
   | exact impl_SlotsOf.mono _ _
   | exact impl_StepBytes.mono _ _ _ _ _ _ _
   | exact impl_StepText.mono _ _ _ _ _ _ _
   | exact laws_sameInts.mono _ _ _
   | exact spec_DrawNextsOf.mono _ _
   | exact spec_DrawSlotsOf.mono _ _
   | exact spec_DrawStepBytes.mono _ _
   | exact spec_NextsOf.mono _ _ _
   | exact spec_SlotsOf.mono _ _
   | exact spec_StepBytes.mono _ _ _ _ _ _ _
   | exact spec_StepText.mono _ _ _ _ _ _ _
   | exact LeO.none _
   | refine LeO.ite ?_ ?_
   | refine LeO.bind ?_ (fun _ => ?_)
  ·intro y0
   unfold laws_FnNexts.j2
   repeat' first
   | (with_reducible exact ih0 _ _ _ _ _ _)
   | (with_reducible exact ih1 _)
   | (with_reducible exact ih2 _ _ _ _ _ _ _)
   | (with_reducible exact impl_NextsOf.mono _ _ _)
   | (with_reducible exact impl_SlotsOf.mono _ _)
   | (with_reducible exact impl_StepBytes.mono _ _ _ _ _ _ _)
   | (with_reducible exact impl_StepText.mono _ _ _ _ _ _ _)
   | (with_reducible exact laws_sameInts.mono _ _ _)
   | (with_reducible exact spec_DrawNextsOf.mono _ _)
   | (with_reducible exact spec_DrawSlotsOf.mono _ _)
   | (with_reducible exact spec_DrawStepBytes.mono _ _)
   | (with_reducible exact spec_NextsOf.mono _ _ _)
   | (with_reducible exact spec_SlotsOf.mono _ _)
   | (with_reducible exact spec_StepBytes.mono _ _ _ _ _ _ _)
   | (with_reducible exact spec_StepText.mono _ _ _ _ _ _ _)
   | (with_reducible exact LeO.refl _)
   | (with_reducible exact LeO.none _)
   | (with_reducible refine LeO.ite ?_ ?_)
   | (with_reducible refine LeO.bind ?_ (fun _ => ?_))
   | exact ih0 _ _ _ _ _ _
   | exact ih1 _
   | exact ih2 _ _ _ _ _ _ _
   | exact impl_NextsOf.mono _ _ _
   | exact impl_SlotsOf.mono _ _
   | exact impl_StepBytes.mono _ _ _ _ _ _ _
   | exact impl_StepText.mono _ _ _ _ _ _ _
   | exact laws_sameInts.mono _ _ _
   | exact spec_DrawNextsOf.mono _ _
   | exact spec_DrawSlotsOf.mono _ _
   | exact spec_DrawStepBytes.mono _ _
   | exact spec_NextsOf.mono _ _ _
   | exact spec_SlotsOf.mono _ _
   | exact spec_StepBytes.mono _ _ _ _ _ _ _
   | exact spec_StepText.mono _ _ _ _ _ _ _
   | exact LeO.none _
   | refine LeO.ite ?_ ?_
   | refine LeO.bind ?_ (fun _ => ?_)
  ·intro y0 y1 y2 y3 y4 y5 y6
   unfold laws_FnNexts.l0
   repeat' first
   | (with_reducible exact ih0 _ _ _ _ _ _)
   | (with_reducible exact ih1 _)
   | (with_reducible exact ih2 _ _ _ _ _ _ _)
   | (with_reducible exact impl_NextsOf.mono _ _ _)
   | (with_reducible exact impl_SlotsOf.mono _ _)
   | (with_reducible exact impl_StepBytes.mono _ _ _ _ _ _ _)
   | (with_reducible exact impl_StepText.mono _ _ _ _ _ _ _)
   | (with_reducible exact laws_sameInts.mono _ _ _)
   | (with_reducible exact spec_DrawNextsOf.mono _ _)
   | (with_reducible exact spec_DrawSlotsOf.mono _ _)
   | (with_reducible exact spec_DrawStepBytes.mono _ _)
   | (with_reducible exact spec_NextsOf.mono _ _ _)
   | (with_reducible exact spec_SlotsOf.mono _ _)
   | (with_reducible exact spec_StepBytes.mono _ _ _ _ _ _ _)
   | (with_reducible exact spec_StepText.mono _ _ _ _ _ _ _)
   | (with_reducible exact LeO.refl _)
   | (with_reducible exact LeO.none _)
   | (with_reducible refine LeO.ite ?_ ?_)
   | (with_reducible refine LeO.bind ?_ (fun _ => ?_))
   | exact ih0 _ _ _ _ _ _
   | exact ih1 _
   | exact ih2 _ _ _ _ _ _ _
   | exact impl_NextsOf.mono _ _ _
   | exact impl_SlotsOf.mono _ _
   | exact impl_StepBytes.mono _ _ _ _ _ _ _
   | exact impl_StepText.mono _ _ _ _ _ _ _
   | exact laws_sameInts.mono _ _ _
   | exact spec_DrawNextsOf.mono _ _
   | exact spec_DrawSlotsOf.mono _ _
   | exact spec_DrawStepBytes.mono _ _
   | exact spec_NextsOf.mono _ _ _
   | exact spec_SlotsOf.mono _ _
   | exact spec_StepBytes.mono _ _ _ _ _ _ _
   | exact spec_StepText.mono _ _ _ _ _ _ _
   | exact LeO.none _
   | refine LeO.ite ?_ ?_
   | refine LeO.bind ?_ (fun _ => ?_)
theorem laws_FnNexts.mono : ∀ a0 a1 k, LeO (laws_FnNexts.f k a0 a1) (laws_FnNexts.f (k + 1) a0 a1) := by
 intro a0 a1 k
 obtain ⟨ih0, ih1, ih2⟩ := laws_FnNexts.mono_l k
 unfold laws_FnNexts.f
 repeat' first
   | (with_reducible exact ih0 _ _ _ _ _ _)
   | (with_reducible exact ih1 _)
   | (with_reducible exact ih2 _ _ _ _ _ _ _)
   | (with_reducible exact impl_NextsOf.mono _ _ _)
   | (with_reducible exact impl_SlotsOf.mono _ _)
   | (with_reducible exact impl_StepBytes.mono _ _ _ _ _ _ _)
   | (with_reducible exact impl_StepText.mono _ _ _ _ _ _ _)
   | (with_reducible exact laws_sameInts.mono _ _ _)
   | (with_reducible exact spec_DrawNextsOf.mono _ _)
   | (with_reducible exact spec_DrawSlotsOf.mono _ _)
   | (with_reducible exact spec_DrawStepBytes.mono _ _)
   | (with_reducible exact spec_NextsOf.mono _ _ _)
   | (with_reducible exact spec_SlotsOf.mono _ _)
   | (with_reducible exact spec_StepBytes.mono _ _ _ _ _ _ _)
   | (with_reducible exact spec_StepText.mono _ _ _ _ _ _ _)
   | (with_reducible exact LeO.refl _)
   | (with_reducible exact LeO.none _)
   | (with_reducible refine LeO.ite ?_ ?_)
   | (with_reducible refine LeO.bind ?_ (fun _ => ?_))
   | exact ih0 _ _ _ _ _ _
   | exact ih1 _
   | exact ih2 _ _ _ _ _ _ _
   | exact impl_NextsOf.mono _ _ _
   | exact impl_SlotsOf.mono _ _
   | exact impl_StepBytes.mono _ _ _ _ _ _ _
   | exact impl_StepText.mono _ _ _ _ _ _ _
   | exact laws_sameInts.mono _ _ _
   | exact spec_DrawNextsOf.mono _ _
   | exact spec_DrawSlotsOf.mono _ _
   | exact spec_DrawStepBytes.mono _ _
   | exact spec_NextsOf.mono _ _ _
   | exact spec_SlotsOf.mono _ _
   | exact spec_StepBytes.mono _ _ _ _ _ _ _
   | exact spec_StepText.mono _ _ _ _ _ _ _
   | exact LeO.none _
   | refine LeO.ite ?_ ?_
   | refine LeO.bind ?_ (fun _ => ?_)
set_option maxHeartbeats 8000000 in
set_option maxRecDepth 100000 in
theorem laws_FnNexts.calls (k : Nat) (A0 : Option Addr) (c0 : Nat) (l0 : List Int) (A1 : Option Addr) (c1 : Nat) (l1 : List Int) (r : Bool) (w : World) (hr0 : Kd.C (Kd.int .u8) w A0 l0.length l0) (hc0 : l0.length ≤ c0) (hr1 : Kd.C (Kd.int .u8) w A1 l1.length l1) (hc1 : l1.length ≤ c1) (h : laws_FnNexts.f k l0 l1 = some r) (htab : TabP_ w) :
  Calls Tryd.prog 3 #[.slice A0 l0.length c0, .slice A1 l1.length c1] w fun e w' => e = .returned (.bool r) ∧ Below w.heap.size w w' := by
 have HT : Aside0 (∀ w' : World, Below w.heap.size w w' → TabP_ w') := ⟨Lib.tabBelow_of_tabIs htab⟩
 clear htab
 have hu31 := Tryd.underlying31
 have HR0 := Aside0.mk hr0
 have HC0 := Aside0.mk hc0
 clear hr0 hc0
 have HR1 := Aside0.mk hr1
 have HC1 := Aside0.mk hc1
 clear hr1 hc1
 have HB := Aside0.mk (Below.refl w.heap.size w)
 have HTop := Aside0.mk (Nat.zero_le w.heap.size)
 have H : (if (wrap64 ((l0.length : Int) + (l1.length : Int))) > 1048576 then (some true) else ((spec_DrawNextsOf.f k l0).bind fun bt386 => ((impl_NextsOf.f k bt386.1 bt386.2).bind fun bt390 => ((spec_NextsOf.f k bt386.1 bt386.2).bind fun bt394 => (if (bt390.2 != bt394.2) = true then (laws_FnNexts.j0 k l1 bt386.1 bt386.2 bt390.1 bt390.2 true) else ((laws_sameInts.f k bt390.1 bt394.1).bind fun t398 => (laws_FnNexts.j0 k l1 bt386.1 bt386.2 bt390.1 bt390.2 (!t398)))))))) = some r := h
 clear h
 by_cases c3 : (wrap64 ((l0.length : Int) + (l1.length : Int))) > 1048576
 ·rw [if_pos c3] at H
  have c3b0 : decide (1048576 < (wrap64 ((l0.length : Int) + (l1.length : Int)))) = true := decide_eq_true c3
  clear c3
  obtain rfl := Option.some.inj H
  go_enter Tryd.func3, Tryd.ntmps3
  go_wp2
  go_ret
  exact ⟨by first | rfl | (simp [errW_none, errW_some] <;> rfl) | (simp [*, errW_none, errW_some] <;> rfl), zb_ HB.out⟩
 ·rw [if_neg c3] at H
  have c3b0 : decide (1048576 < (wrap64 ((l0.length : Int) + (l1.length : Int)))) = false := decide_eq_false c3
  clear c3
  replace H := Option.bind_eq_some_iff.mp H
  obtain ⟨⟨t386, t387⟩, A40, H⟩ := H
  replace H : ((impl_NextsOf.f k t386 t387).bind fun bt390 => ((spec_NextsOf.f k t386 t387).bind fun bt394 => (if (bt390.2 != bt394.2) = true then (laws_FnNexts.j0 k l1 t386 t387 bt390.1 bt390.2 true) else ((laws_sameInts.f k bt390.1 bt394.1).bind fun t398 => (laws_FnNexts.j0 k l1 t386 t387 bt390.1 bt390.2 (!t398)))))) = some r := H
  have A4 := Aside0.mk A40
  clear A40
  replace H := Option.bind_eq_some_iff.mp H
  obtain ⟨⟨t390, t391⟩, A50, H⟩ := H
  replace H : ((spec_NextsOf.f k t386 t387).bind fun bt394 => (if (t391 != bt394.2) = true then (laws_FnNexts.j0 k l1 t386 t387 t390 t391 true) else ((laws_sameInts.f k t390 bt394.1).bind fun t398 => (laws_FnNexts.j0 k l1 t386 t387 t390 t391 (!t398))))) = some r := H
  have A5 := Aside0.mk A50
  clear A50
  replace H := Option.bind_eq_some_iff.mp H
  obtain ⟨⟨t394, t395⟩, A60, H⟩ := H
  replace H : (if (t391 != t395) = true then (laws_FnNexts.j0 k l1 t386 t387 t390 t391 true) else ((laws_sameInts.f k t390 t394).bind fun t398 => (laws_FnNexts.j0 k l1 t386 t387 t390 t391 (!t398)))) = some r := H
  have A6 := Aside0.mk A60
  clear A60
  have HC7 := Aside0.mk H
  clear H
  go_enter Tryd.func3, Tryd.ntmps3
  go_upto_region 6 with (first | ((with_reducible refine gate_callee (f := 4) rfl ?_); refine goesL_ (some 35) rfl rfl Tryd.func4 (by kernel_rfl) rfl #[.slice A0 l0.length c0] rfl (by simp only [zA_, zB_, zD_] <;> rfl) ?_; (with_reducible refine (spec_DrawNextsOf.calls k _ _ l0 t386 t387 _ ?side1 ?side2 A4.out).mono ?_); (case side1 => exact zC_ HR0.out); (case side2 => exact HC0.out); rintro e w8 ⟨v388, rfl, ho0, hb⟩; refine ⟨_, rfl, ?_⟩; have n0_ := Aside0.mk (Kd.R_mono (ok' := fun _ => True) (Kd.R_lower ho0 (below_size (zb_ HB.out))) (fun _ _ => trivial)); have n1_ := Aside0.mk (below_step (zb_ HB.out) hb); clear HB; have HO389 := n0_; have HB := n1_; clear n0_ n1_; (try clear hb); (try clear hb2); (try clear hk); (try clear hi); (try clear ho0); obtain ⟨Ao9, co9, eo9⟩ := Kd.R_slice HO389.out; subst eo9) | ((with_reducible refine gate_callee (f := 5) rfl ?_); refine goesL_ (some 41) rfl rfl Tryd.func5 (by kernel_rfl) rfl #[.slice Ao9 t386.length co9, .int .i64 t387] rfl (by simp only [zA_, zB_, zD_] <;> rfl) ?_; (with_reducible refine (impl_NextsOf.calls k _ _ t386 t387 t390 t391 _ ?side1 ?side2 A5.out).mono ?_); (case side1 => exact zC_ (Kd.R_reads' HO389.out).2.2); (case side2 => exact (Kd.R_reads' HO389.out).2.1); rintro e w10 ⟨v392, rfl, ho0, hb⟩; refine ⟨_, rfl, ?_⟩; have n0_ := Aside0.mk (Kd.R_below (zR_ HO389.out) hb); have n1_ := Aside0.mk (Kd.R_mono (ok' := fun _ => True) (Kd.R_lower ho0 (below_size (zb_ HB.out))) (fun _ _ => trivial)); have n2_ := Aside0.mk (below_step (zb_ HB.out) hb); clear HO389; clear HB; have HO389 := n0_; have HO393 := n1_; have HB := n2_; clear n0_ n1_ n2_; (try clear hb); (try clear hb2); (try clear hk); (try clear hi); (try clear ho0)) | ((with_reducible refine gate_callee (f := 6) rfl ?_); refine goesL_ (some 47) rfl rfl Tryd.func6 (by kernel_rfl) rfl #[.slice Ao9 t386.length co9, .int .i64 t387] rfl (by simp only [zA_, zB_, zD_] <;> rfl) ?_; (with_reducible refine (spec_NextsOf.calls k _ _ t386 t387 t394 t395 _ ?side1 ?side2 A6.out).mono ?_); (case side1 => exact zC_ (Kd.R_reads' HO389.out).2.2); (case side2 => exact (Kd.R_reads' HO389.out).2.1); rintro e w11 ⟨v396, rfl, ho0, hb⟩; refine ⟨_, rfl, ?_⟩; have n0_ := Aside0.mk (Kd.R_below (zR_ HO389.out) hb); have n1_ := Aside0.mk (Kd.R_below (zR_ HO393.out) hb); have n2_ := Aside0.mk (Kd.R_mono (ok' := fun _ => True) (Kd.R_lower ho0 (below_size (zb_ HB.out))) (fun _ _ => trivial)); have n3_ := Aside0.mk (below_step (zb_ HB.out) hb); clear HO389; clear HO393; clear HB; have HO389 := n0_; have HO393 := n1_; have HO397 := n2_; have HB := n3_; clear n0_ n1_ n2_ n3_; (try clear hb); (try clear hb2); (try clear hk); (try clear hi); (try clear ho0)))
  (try simp only [Act.put, List.setIfInBounds_toArray, List.set_cons_zero, List.set_cons_succ])
  go_cut [58] (fun v58 wc => ∃ (kq : Nat) (x58_6 : Bool), v58 = .bool x58_6 ∧ Aside0 (laws_FnNexts.j0 kq l1 t386 t387 t390 t391 x58_6 = some r) ∧ Aside0 (kq ≤ k) ∧ Aside0 (Kd.R k31 31 wc w.heap.size (fun _ => True) (.slice Ao9 t386.length co9) t386) ∧ Aside0 (Kd.R (Kd.int .i64) 3 wc w.heap.size (fun _ => True) v392 t390) ∧ Aside0 (Below w.heap.size w wc))
  case first =>
   have H := HC7.out
   clear HC7
   by_cases c12 : (t391 != t395) = true
   ·rw [if_pos c12] at H
    have c12b0 : (t391 != t395) = true := c12
    (try (have c12b1 : decide (t391 = t395) = false := by simpa using c12))
    (try (have c12b2 : (t391 == t395) = false := by simpa using c12))
    (try (have c12b3 : ¬ (t391 = t395) := by simpa using c12))
    clear c12
    (first | rw [c12b0] | (simp only [i64_w, i32_w]; rw [c12b0]) | skip)
    have H' := Aside0.mk H
    clear H
    go_wp2
    go_meet
    case rel => exact ⟨_, (true), (by first | rfl | (simp; done) | (simp [*]; done)), H', ⟨by first | omega | exact Nat.le_refl _⟩, ⟨Kd.R_mono (zR_ HO389.out) (fun _ _ => trivial)⟩, ⟨Kd.R_mono (zR_ HO393.out) (fun _ _ => trivial)⟩, ⟨zb_ HB.out⟩⟩
   ·rw [if_neg c12] at H
    have c12b0 : (t391 != t395) = false := by simpa using c12
    (try (have c12b1 : decide (t391 = t395) = true := by simpa using c12))
    (try (have c12b2 : (t391 == t395) = true := by simpa using c12))
    clear c12
    (first | rw [c12b0] | (simp only [i64_w, i32_w]; rw [c12b0]) | skip)
    replace H := Option.bind_eq_some_iff.mp H
    obtain ⟨t398, A130, H⟩ := H
    replace H : (laws_FnNexts.j0 k l1 t386 t387 t390 t391 (!t398)) = some r := H
    have A13 := Aside0.mk A130
    clear A130
    have H' := Aside0.mk H
    clear H
    obtain ⟨Ao14, co14, eo14⟩ := Kd.R_slice HO393.out
    subst eo14
    obtain ⟨Ao15, co15, eo15⟩ := Kd.R_slice HO397.out
    subst eo15
    go_wp2_with (first | (go_at_call 7; (with_reducible refine (laws_sameInts.calls k _ _ t390 _ _ t394 t398 _ ?side1 ?side2 ?side3 ?side4 A13.out).mono ?_); (case side1 => exact zC_ (Kd.R_reads' HO393.out).2.2); (case side2 => exact (Kd.R_reads' HO393.out).2.1); (case side3 => exact zC_ (Kd.R_reads' HO397.out).2.2); (case side4 => exact (Kd.R_reads' HO397.out).2.1); rintro e w' ⟨rfl, ⟨nd, rfl⟩⟩))
    go_meet
    case rel => exact ⟨_, (!t398), (by first | rfl | (simp; done) | (simp [*]; done)), H', ⟨by first | omega | exact Nat.le_refl _⟩, ⟨Kd.R_mono (zR_ HO389.out) (fun _ _ => trivial)⟩, ⟨Kd.R_mono (zR_ HO393.out) (fun _ _ => trivial)⟩, ⟨zb_ HB.out⟩⟩
  case rest =>
   clear HC7
   try clear c1
   try clear p2
   try clear c3
   try clear c3b0
   try clear c4
   try clear c5
   try clear c6
   try clear p6
   try clear c12
   try clear c12b0
   try clear c12b1
   try clear c12b2
   obtain ⟨kq, x58_6, rfl, HA, HJ6, HO_5, HO_7, HB⟩ := hcut
   cases kq with
   | zero => exact absurd HA.out (by simp [laws_FnNexts.j0])
   | succ kj6 =>
    have H := HA.out
    clear HA
    simp only [laws_FnNexts.j0] at H
    by_cases c16 : x58_6 = true
    ·subst c16
     have H1 : (none) = some r := by rw [if_pos rfl] at H; exact H
     clear H
     have H := H1
     clear H1
     exact absurd H (by simp)
    ·replace c16 := Bool.eq_false_iff.mpr c16
     subst c16
     have H1 : (if t391 = true then (laws_FnNexts.l0 kj6 l1 t386 t387 t390 t390 (t390.length : Int) 0) else (laws_FnNexts.j2 kj6 l1)) = some r := by rw [if_neg (show ¬ (false = true) by decide)] at H; exact H
     clear H
     have H := H1
     clear H1
     have HC17 := Aside0.mk H
     clear H
     go_upto_if 59 with (fail)
     go_cut [] (fun wc => ∃ (kq : Nat), Aside0 (laws_FnNexts.j2 kq l1 = some r) ∧ Aside0 (kq ≤ kj6) ∧ Aside0 (Below w.heap.size w wc))
     case first =>
      have H := HC17.out
      clear HC17
      by_cases c18 : t391 = true
      ·subst c18
       have H1 : (laws_FnNexts.l0 kj6 l1 t386 t387 t390 t390 (t390.length : Int) 0) = some r := by rw [if_pos rfl] at H; exact H
       clear H
       have H := H1
       clear H1
       have H' := Aside0.mk H
       clear H
       obtain ⟨Ao19, co19, eo19⟩ := Kd.R_slice HO_7.out
       subst eo19
       go_wp2
       go_loopg [62] kj6 (fun kq v62 w' => ∃ (x62_2 : Int), v62 = .int .i64 x62_2 ∧ Aside0 (laws_FnNexts.l0 kq l1 t386 t387 t390 t390 (t390.length : Int) x62_2 = some r) ∧ Aside0 (kq ≤ kj6) ∧ Aside0 (Kd.R k31 31 w' w.heap.size (fun _ => True) (.slice Ao9 t386.length co9) t386) ∧ Aside0 (Kd.R (Kd.int .i64) 3 w' w.heap.size (fun _ => True) (.slice Ao19 t390.length co19) t390) ∧ Aside0 (Kd.R (Kd.int .i64) 3 w' w.heap.size (fun _ => True) (.slice Ao19 t390.length co19) t390) ∧ Aside0 (Below w.heap.size w w'))
       case atStart => exact ⟨(0), (by first | rfl | (simp; done) | (simp [*]; done)), H', ⟨Nat.le_refl _⟩, ⟨Kd.R_mono (zR_ HO_5.out) (fun _ _ => trivial)⟩, ⟨Kd.R_mono (zR_ HO_7.out) (fun _ _ => trivial)⟩, ⟨Kd.R_mono (zR_ HO_7.out) (fun _ _ => trivial)⟩, ⟨zb_ HB.out⟩⟩
       case round =>
        clear H'
        try clear c1
        try clear p2
        try clear c3
        try clear c3b0
        try clear c4
        try clear c5
        try clear c6
        try clear p6
        try clear c12
        try clear c12b0
        try clear c12b1
        try clear c12b2
        try clear c16
        try clear c18
        try clear p2
        try clear p6
        obtain ⟨x62_2, rfl, HA, HK2, HO_5, HO_7, HO_60, HB⟩ := hrel
        cases gk with
        | zero => exact absurd HA.out (by simp [laws_FnNexts.l0])
        | succ k2 =>
         have H := HA.out
         clear HA
         simp only [laws_FnNexts.l0] at H
         by_cases c20 : x62_2 < (t390.length : Int)
         ·rw [if_pos c20] at H
          have c20b0 : decide (x62_2 < (t390.length : Int)) = true := decide_eq_true c20
          clear c20
          (first | rw [c20b0] | (simp only [i64_w, i32_w]; rw [c20b0]) | skip)
          by_cases c21 : 0 ≤ x62_2
          ·rw [if_pos c21] at H
           have c21b0 : decide (0 ≤ x62_2) = true := decide_eq_true c21
           clear c21
           by_cases c22 : x62_2 < (t390.length : Int)
           ·rw [if_pos c22] at H
            have c22b0 : decide (x62_2 < (t390.length : Int)) = true := decide_eq_true c22
            clear c22
            by_cases c23 : (rd t390 x62_2) ≤ t387
            ·rw [if_pos c23] at H
             exact absurd H (by simp)
            ·rw [if_neg c23] at H
             have c23b0 : decide ((rd t390 x62_2) ≤ t387) = false := decide_eq_false c23
             clear c23
             by_cases c24 : (rd t390 x62_2) ≥ (t386.length : Int)
             ·rw [if_pos c24] at H
              exact absurd H (by simp)
             ·rw [if_neg c24] at H
              have c24b0 : decide ((t386.length : Int) ≤ (rd t390 x62_2)) = false := decide_eq_false c24
              clear c24
              have H' := Aside0.mk H
              clear H
              have p399 : 0 ≤ (x62_2 : Int) := of_decide_eq_true (by assumption)
              have q399 : x62_2 < (t390.length : Int) := of_decide_eq_true (by assumption)
              obtain ⟨ad399, e399, hx399_0⟩ := Kd.at_int (Kd.R_reads' HO_60.out).2.2 x62_2 p399 q399
              cases e399
              replace p399 := eq_true p399
              replace q399 := eq_true q399
              go_wp2
              go_roundg k2
              case measure => have := HJ6.out; have := HK2.out; omega
              case rel => exact ⟨(wrap64 (x62_2 + 1)), (by first | rfl | (simp; done) | (simp [*]; done)), H', ⟨by have := HJ6.out; have := HK2.out; omega⟩, ⟨Kd.R_mono (zR_ HO_5.out) (fun _ _ => trivial)⟩, ⟨Kd.R_mono (zR_ HO_7.out) (fun _ _ => trivial)⟩, ⟨Kd.R_mono (zR_ HO_60.out) (fun _ _ => trivial)⟩, ⟨zb_ HB.out⟩⟩
           ·rw [if_neg c22] at H
            exact absurd H (by simp)
          ·rw [if_neg c21] at H
           exact absurd H (by simp)
         ·rw [if_neg c20] at H
          have c20b0 : decide (x62_2 < (t390.length : Int)) = false := decide_eq_false c20
          clear c20
          (first | rw [c20b0] | (simp only [i64_w, i32_w]; rw [c20b0]) | skip)
          by_cases c25 : 0 ≤ t387
          ·rw [if_pos c25] at H
           have c25b0 : decide (0 ≤ t387) = true := decide_eq_true c25
           clear c25
           by_cases c26 : t387 < (t386.length : Int)
           ·rw [if_pos c26] at H
            have c26b0 : decide (t387 < (t386.length : Int)) = true := decide_eq_true c26
            clear c26
            by_cases c27 : (((t390.length : Int) == 0) != (((rd_T31 t386 t387).f0) == 11)) = true
            ·rw [if_pos c27] at H
             exact absurd H (by simp)
            ·rw [if_neg c27] at H
             have c27b0 : (((t390.length : Int) == 0) != (((rd_T31 t386 t387).f0) == 11)) = false := by simpa using c27
             (try (have c27b1 : decide (((t390.length : Int) == 0) = (((rd_T31 t386 t387).f0) == 11)) = true := by simpa using c27))
             (try (have c27b2 : (((t390.length : Int) == 0) == (((rd_T31 t386 t387).f0) == 11)) = true := by simpa using c27))
             clear c27
             have H' := Aside0.mk H
             clear H
             have p400 : 0 ≤ (t387 : Int) := of_decide_eq_true (by assumption)
             have q400 : t387 < (t386.length : Int) := of_decide_eq_true (by assumption)
             obtain ⟨ad400, e400, hx400_0, hx400_1, hx400_2, hx400_3, hx400_4, hx400_5⟩ := at_T31 (Kd.R_reads' HO_5.out).2.2 t387 p400 q400
             cases e400
             replace p400 := eq_true p400
             replace q400 := eq_true q400
             go_wp2
             go_meet
             case rel => exact ⟨_, H', ⟨by have := HJ6.out; have := HK2.out; first | omega | exact Nat.le_refl _⟩, ⟨zb_ HB.out⟩⟩
           ·rw [if_neg c26] at H
            exact absurd H (by simp)
          ·rw [if_neg c25] at H
           exact absurd H (by simp)
      ·replace c18 := Bool.eq_false_iff.mpr c18
       subst c18
       have H1 : (laws_FnNexts.j2 kj6 l1) = some r := by rw [if_neg (show ¬ (false = true) by decide)] at H; exact H
       clear H
       have H := H1
       clear H1
       have H' := Aside0.mk H
       clear H
       go_wp2
       go_meet
       case rel => exact ⟨_, H', ⟨by have := HJ6.out; first | omega | exact Nat.le_refl _⟩, ⟨zb_ HB.out⟩⟩
     case rest =>
      clear HC17
      try clear c1
      try clear c2
      try clear p2
      try clear c3
      try clear c3b0
      try clear p3
      try clear q3
      try clear hx3
      try clear c4
      try clear p4
      try clear q4
      try clear hx4
      try clear c5
      try clear c6
      try clear p6
      try clear c12
      try clear c12b0
      try clear c12b1
      try clear c12b2
      try clear c16
      try clear c18
      try clear c20
      try clear c20b0
      try clear c21
      try clear c21b0
      try clear c22
      try clear c22b0
      try clear c23
      try clear c23b0
      try clear c24
      try clear c24b0
      try clear c25
      try clear c25b0
      try clear c26
      try clear c26b0
      try clear c27
      try clear c27b0
      try clear c27b1
      try clear c27b2
      try clear hx399_0
      try clear hx400_0
      try clear hx400_1
      try clear hx400_2
      try clear hx400_3
      try clear hx400_4
      try clear hx400_5
      try clear p2
      try clear p399
      try clear p400
      try clear p6
      try clear q399
      try clear q400
      obtain ⟨kq, HA, HJ16, HB⟩ := hcut
      cases kq with
      | zero => exact absurd HA.out (by simp [laws_FnNexts.j2])
      | succ kj16 =>
       have H := HA.out
       clear HA
       simp only [laws_FnNexts.j2] at H
       replace H := Option.bind_eq_some_iff.mp H
       obtain ⟨⟨t401, t402, t403, t404, t405, t406⟩, A280, H⟩ := H
       replace H : ((impl_StepBytes.f kj16 t401 t402 t403 t404 t405 t406).bind fun bt408 => ((spec_StepBytes.f kj16 t401 t402 t403 t404 t405 t406).bind fun bt410 => ((impl_StepText.f kj16 t401 t402 t403 t404 t405 t406).bind fun bt412 => ((spec_StepText.f kj16 t401 t402 t403 t404 t405 t406).bind fun bt414 => ((spec_DrawSlotsOf.f kj16 l1).bind fun t416 => ((impl_SlotsOf.f kj16 t416).bind fun bt419 => ((spec_SlotsOf.f kj16 t416).bind fun bt423 => (if (bt408.2 == bt410.2) = true then (if bt408.1.toList = bt410.1.toList then (if (bt412.2 == bt414.2) = true then (if bt412.1.toList = bt414.1.toList then (if (bt419.2 == bt423.2) = true then ((laws_sameInts.f kj16 bt419.1 bt423.1).bind fun t427 => (if t427 = true then (some (bt408.2 == bt412.2)) else (none))) else (none)) else (none)) else (none)) else (none)) else (none))))))))) = some r := H
       have A28 := Aside0.mk A280
       clear A280
       replace H := Option.bind_eq_some_iff.mp H
       obtain ⟨⟨t408, t409⟩, A290, H⟩ := H
       replace H : ((spec_StepBytes.f kj16 t401 t402 t403 t404 t405 t406).bind fun bt410 => ((impl_StepText.f kj16 t401 t402 t403 t404 t405 t406).bind fun bt412 => ((spec_StepText.f kj16 t401 t402 t403 t404 t405 t406).bind fun bt414 => ((spec_DrawSlotsOf.f kj16 l1).bind fun t416 => ((impl_SlotsOf.f kj16 t416).bind fun bt419 => ((spec_SlotsOf.f kj16 t416).bind fun bt423 => (if (t409 == bt410.2) = true then (if t408.toList = bt410.1.toList then (if (bt412.2 == bt414.2) = true then (if bt412.1.toList = bt414.1.toList then (if (bt419.2 == bt423.2) = true then ((laws_sameInts.f kj16 bt419.1 bt423.1).bind fun t427 => (if t427 = true then (some (t409 == bt412.2)) else (none))) else (none)) else (none)) else (none)) else (none)) else (none)))))))) = some r := H
       have A29 := Aside0.mk A290
       clear A290
       replace H := Option.bind_eq_some_iff.mp H
       obtain ⟨⟨t410, t411⟩, A300, H⟩ := H
       replace H : ((impl_StepText.f kj16 t401 t402 t403 t404 t405 t406).bind fun bt412 => ((spec_StepText.f kj16 t401 t402 t403 t404 t405 t406).bind fun bt414 => ((spec_DrawSlotsOf.f kj16 l1).bind fun t416 => ((impl_SlotsOf.f kj16 t416).bind fun bt419 => ((spec_SlotsOf.f kj16 t416).bind fun bt423 => (if (t409 == t411) = true then (if t408.toList = t410.toList then (if (bt412.2 == bt414.2) = true then (if bt412.1.toList = bt414.1.toList then (if (bt419.2 == bt423.2) = true then ((laws_sameInts.f kj16 bt419.1 bt423.1).bind fun t427 => (if t427 = true then (some (t409 == bt412.2)) else (none))) else (none)) else (none)) else (none)) else (none)) else (none))))))) = some r := H
       have A30 := Aside0.mk A300
       clear A300
       replace H := Option.bind_eq_some_iff.mp H
       obtain ⟨⟨t412, t413⟩, A310, H⟩ := H
       replace H : ((spec_StepText.f kj16 t401 t402 t403 t404 t405 t406).bind fun bt414 => ((spec_DrawSlotsOf.f kj16 l1).bind fun t416 => ((impl_SlotsOf.f kj16 t416).bind fun bt419 => ((spec_SlotsOf.f kj16 t416).bind fun bt423 => (if (t409 == t411) = true then (if t408.toList = t410.toList then (if (t413 == bt414.2) = true then (if t412.toList = bt414.1.toList then (if (bt419.2 == bt423.2) = true then ((laws_sameInts.f kj16 bt419.1 bt423.1).bind fun t427 => (if t427 = true then (some (t409 == t413)) else (none))) else (none)) else (none)) else (none)) else (none)) else (none)))))) = some r := H
       have A31 := Aside0.mk A310
       clear A310
       replace H := Option.bind_eq_some_iff.mp H
       obtain ⟨⟨t414, t415⟩, A320, H⟩ := H
       replace H : ((spec_DrawSlotsOf.f kj16 l1).bind fun t416 => ((impl_SlotsOf.f kj16 t416).bind fun bt419 => ((spec_SlotsOf.f kj16 t416).bind fun bt423 => (if (t409 == t411) = true then (if t408.toList = t410.toList then (if (t413 == t415) = true then (if t412.toList = t414.toList then (if (bt419.2 == bt423.2) = true then ((laws_sameInts.f kj16 bt419.1 bt423.1).bind fun t427 => (if t427 = true then (some (t409 == t413)) else (none))) else (none)) else (none)) else (none)) else (none)) else (none))))) = some r := H
       have A32 := Aside0.mk A320
       clear A320
       replace H := Option.bind_eq_some_iff.mp H
       obtain ⟨t416, A330, H⟩ := H
       replace H : ((impl_SlotsOf.f kj16 t416).bind fun bt419 => ((spec_SlotsOf.f kj16 t416).bind fun bt423 => (if (t409 == t411) = true then (if t408.toList = t410.toList then (if (t413 == t415) = true then (if t412.toList = t414.toList then (if (bt419.2 == bt423.2) = true then ((laws_sameInts.f kj16 bt419.1 bt423.1).bind fun t427 => (if t427 = true then (some (t409 == t413)) else (none))) else (none)) else (none)) else (none)) else (none)) else (none)))) = some r := H
       have A33 := Aside0.mk A330
       clear A330
       replace H := Option.bind_eq_some_iff.mp H
       obtain ⟨⟨t419, t420⟩, A340, H⟩ := H
       replace H : ((spec_SlotsOf.f kj16 t416).bind fun bt423 => (if (t409 == t411) = true then (if t408.toList = t410.toList then (if (t413 == t415) = true then (if t412.toList = t414.toList then (if (t420 == bt423.2) = true then ((laws_sameInts.f kj16 t419 bt423.1).bind fun t427 => (if t427 = true then (some (t409 == t413)) else (none))) else (none)) else (none)) else (none)) else (none)) else (none))) = some r := H
       have A34 := Aside0.mk A340
       clear A340
       replace H := Option.bind_eq_some_iff.mp H
       obtain ⟨⟨t423, t424⟩, A350, H⟩ := H
       replace H : (if (t409 == t411) = true then (if t408.toList = t410.toList then (if (t413 == t415) = true then (if t412.toList = t414.toList then (if (t420 == t424) = true then ((laws_sameInts.f kj16 t419 t423).bind fun t427 => (if t427 = true then (some (t409 == t413)) else (none))) else (none)) else (none)) else (none)) else (none)) else (none)) = some r := H
       have A35 := Aside0.mk A350
       clear A350
       by_cases c36 : (t409 == t411) = true
       ·rw [if_pos c36] at H
        have c36b0 : (t409 == t411) = true := c36
        (try (have c36b1 : decide (t409 = t411) = true := by simpa using c36))
        (try (have c36b2 : (t409 == t411) = true := by simpa using c36))
        clear c36
        by_cases c37 : t408.toList = t410.toList
        ·rw [if_pos c37] at H
         have c37b0 : (t408.toList == t410.toList) = true := beq_iff_eq.mpr c37
         have c37b1 : (t408.toList != t410.toList) = false := bne_eq_false_iff_eq.mpr c37
         clear c37
         by_cases c38 : (t413 == t415) = true
         ·rw [if_pos c38] at H
          have c38b0 : (t413 == t415) = true := c38
          (try (have c38b1 : decide (t413 = t415) = true := by simpa using c38))
          (try (have c38b2 : (t413 == t415) = true := by simpa using c38))
          clear c38
          by_cases c39 : t412.toList = t414.toList
          ·rw [if_pos c39] at H
           have c39b0 : (t412.toList == t414.toList) = true := beq_iff_eq.mpr c39
           have c39b1 : (t412.toList != t414.toList) = false := bne_eq_false_iff_eq.mpr c39
           clear c39
           by_cases c40 : (t420 == t424) = true
           ·rw [if_pos c40] at H
            have c40b0 : (t420 == t424) = true := c40
            (try (have c40b1 : decide (t420 = t424) = true := by simpa using c40))
            (try (have c40b2 : (t420 == t424) = true := by simpa using c40))
            clear c40
            replace H := Option.bind_eq_some_iff.mp H
            obtain ⟨t427, A410, H⟩ := H
            replace H : (if t427 = true then (some (t409 == t413)) else (none)) = some r := H
            have A41 := Aside0.mk A410
            clear A410
            by_cases c42 : t427 = true
            ·subst c42
             have H1 : (some (t409 == t413)) = some r := by rw [if_pos rfl] at H; exact H
             clear H
             have H := H1
             clear H1
             obtain rfl := Option.some.inj H
             go_wp2_with (first | ((with_reducible refine gate_callee (f := 8) rfl ?_); refine goesL_ (some 87) rfl rfl Tryd.func8 (by kernel_rfl) rfl #[.slice A1 l1.length c1] rfl (by simp only [zA_, zB_, zD_] <;> rfl) ?_; (with_reducible refine (spec_DrawStepBytes.calls kj16 _ _ l1 t401 t402 t403 t404 t405 t406 _ ?side1 ?side2 A28.out).mono ?_); (case side1 => exact zC_ (Kd.C_below HR1.out HB.out)); (case side2 => exact HC1.out); rintro e w43 ⟨rfl, hb⟩; refine ⟨_, rfl, ?_⟩; have n0_ := Aside0.mk (below_step (zb_ HB.out) hb); clear HB; have HB := n0_; clear n0_; (try clear hb); (try clear hb2); (try clear hk); (try clear hi)) | ((with_reducible refine gate_dst (N := 13) rfl ?_); (try (refine gate_guard (by rfl) ?_; dsimp only)); refine box_event ?hg (N := 13) ?hd (cs := #[.int .i64 0, .int .i64 0, .int .i64 0, .int .i64 0, .int .i64 0, .int .i64 0]) (t := 31) ?hr ?_; (case hd => rfl); (case hg => rfl); (case hr => first | (go_simp; done) | (go_simp; rfl)); intro gb407 hg w44 hbox hb; have n0_ := Aside0.mk (Nat.zero_le w44.heap.size); have n1_ := Aside0.mk (below_step (zb_ HB.out) hb); have n2_ := Aside0.mk (hbox); have n3_ := Aside0.mk ((by rw [hg]; exact (below_size (zb_ HB.out)) : w.heap.size ≤ gb407)); have n4_ := Aside0.mk ((by rw [hg]; exact (below_size (zb_ HB.out)) : w.heap.size ≤ gb407)); clear HTop; clear HB; have HTop := n0_; have HB := n1_; have BK407 := n2_; have GW407 := n3_; have GE407 := n4_; clear n0_ n1_ n2_ n3_ n4_; clear hb hbox hg; have hcz45_0 : w44.cell? ⟨gb407, 0, none⟩ = some (.int .i64 0) := (blk_cell BK407.out 0).trans rfl; have hcz45_1 : w44.cell? ⟨gb407, 1, none⟩ = some (.int .i64 0) := (blk_cell BK407.out 1).trans rfl; have hcz45_2 : w44.cell? ⟨gb407, 2, none⟩ = some (.int .i64 0) := (blk_cell BK407.out 2).trans rfl; have hcz45_3 : w44.cell? ⟨gb407, 3, none⟩ = some (.int .i64 0) := (blk_cell BK407.out 3).trans rfl; have hcz45_4 : w44.cell? ⟨gb407, 4, none⟩ = some (.int .i64 0) := (blk_cell BK407.out 4).trans rfl; have hcz45_5 : w44.cell? ⟨gb407, 5, none⟩ = some (.int .i64 0) := (blk_cell BK407.out 5).trans rfl; have hfz45_0 := blk_frozen BK407.out 0; have hfz45_1 := blk_frozen BK407.out 1; have hfz45_2 := blk_frozen BK407.out 2; have hfz45_3 := blk_frozen BK407.out 3; have hfz45_4 := blk_frozen BK407.out 4; have hfz45_5 := blk_frozen BK407.out 5) | ((with_reducible refine gate_callee (f := 9) rfl ?_); refine goesL_ (some 90) rfl rfl Tryd.func9 (by kernel_rfl) rfl #[.agg #[.int .i64 t401, .int .i64 t402, .int .i64 t403, .int .i64 t404, .int .i64 t405, .int .i64 t406]] rfl (by simp only [zA_, zB_, zD_] <;> rfl) ?_; (with_reducible refine (impl_StepBytes.calls kj16 t401 t402 t403 t404 t405 t406 t408 t409 _ A29.out).mono ?_); rintro e w46 ⟨rfl, hb⟩; refine ⟨_, rfl, ?_⟩; have n0_ := Aside0.mk (blk_below (g := gb407) (o := .cells #[.int .i64 t401, .int .i64 t402, .int .i64 t403, .int .i64 t404, .int .i64 t405, .int .i64 t406] 31 (0, 0)) (by (with_reducible repeat (first | refine blk_drewN ?_ _ | refine blk_drew ?_ | refine blk_alloc ?_ _)); refine blk_put (cs := #[.int .i64 t401, .int .i64 t402, .int .i64 t403, .int .i64 t404, .int .i64 t405, .int .i64 0]) ?_ 5 _ rfl; (with_reducible repeat (first | refine blk_drewN ?_ _ | refine blk_drew ?_ | refine blk_alloc ?_ _)); refine blk_put (cs := #[.int .i64 t401, .int .i64 t402, .int .i64 t403, .int .i64 t404, .int .i64 0, .int .i64 0]) ?_ 4 _ rfl; (with_reducible repeat (first | refine blk_drewN ?_ _ | refine blk_drew ?_ | refine blk_alloc ?_ _)); refine blk_put (cs := #[.int .i64 t401, .int .i64 t402, .int .i64 t403, .int .i64 0, .int .i64 0, .int .i64 0]) ?_ 3 _ rfl; (with_reducible repeat (first | refine blk_drewN ?_ _ | refine blk_drew ?_ | refine blk_alloc ?_ _)); refine blk_put (cs := #[.int .i64 t401, .int .i64 t402, .int .i64 0, .int .i64 0, .int .i64 0, .int .i64 0]) ?_ 2 _ rfl; (with_reducible repeat (first | refine blk_drewN ?_ _ | refine blk_drew ?_ | refine blk_alloc ?_ _)); refine blk_put (cs := #[.int .i64 t401, .int .i64 0, .int .i64 0, .int .i64 0, .int .i64 0, .int .i64 0]) ?_ 1 _ rfl; (with_reducible repeat (first | refine blk_drewN ?_ _ | refine blk_drew ?_ | refine blk_alloc ?_ _)); refine blk_put (cs := #[.int .i64 0, .int .i64 0, .int .i64 0, .int .i64 0, .int .i64 0, .int .i64 0]) ?_ 0 _ rfl; (with_reducible repeat (first | refine blk_drewN ?_ _ | refine blk_drew ?_ | refine blk_alloc ?_ _)); exact BK407.out) hb); have n1_ := Aside0.mk (below_step (by repeat (first | (with_reducible first | exact HB.out | apply below_alloc | apply pw_below_drewN | apply below_drew1 | refine below_set ?_ GE407.out) | exact HB.out)) hb); clear BK407; clear HB; have BK407 := n0_; have HB := n1_; clear n0_ n1_; (try clear hb); (try clear hb2); (try clear hk); (try clear hi); have hcz47_0 : w46.cell? ⟨gb407, 0, none⟩ = some (.int .i64 t401) := (blk_cell BK407.out 0).trans rfl; have hcz47_1 : w46.cell? ⟨gb407, 1, none⟩ = some (.int .i64 t402) := (blk_cell BK407.out 1).trans rfl; have hcz47_2 : w46.cell? ⟨gb407, 2, none⟩ = some (.int .i64 t403) := (blk_cell BK407.out 2).trans rfl; have hcz47_3 : w46.cell? ⟨gb407, 3, none⟩ = some (.int .i64 t404) := (blk_cell BK407.out 3).trans rfl; have hcz47_4 : w46.cell? ⟨gb407, 4, none⟩ = some (.int .i64 t405) := (blk_cell BK407.out 4).trans rfl; have hcz47_5 : w46.cell? ⟨gb407, 5, none⟩ = some (.int .i64 t406) := (blk_cell BK407.out 5).trans rfl; have hfz47_0 := blk_frozen BK407.out 0; have hfz47_1 := blk_frozen BK407.out 1; have hfz47_2 := blk_frozen BK407.out 2; have hfz47_3 := blk_frozen BK407.out 3; have hfz47_4 := blk_frozen BK407.out 4; have hfz47_5 := blk_frozen BK407.out 5) | ((with_reducible refine gate_callee (f := 10) rfl ?_); refine goesL_ (some 95) rfl rfl Tryd.func10 (by kernel_rfl) rfl #[.agg #[.int .i64 t401, .int .i64 t402, .int .i64 t403, .int .i64 t404, .int .i64 t405, .int .i64 t406]] rfl (by simp only [zA_, zB_, zD_] <;> rfl) ?_; (with_reducible refine (spec_StepBytes.calls kj16 t401 t402 t403 t404 t405 t406 t410 t411 _ A30.out).mono ?_); rintro e w48 ⟨rfl, hb⟩; refine ⟨_, rfl, ?_⟩; have n0_ := Aside0.mk (blk_below (g := gb407) (o := .cells #[.int .i64 t401, .int .i64 t402, .int .i64 t403, .int .i64 t404, .int .i64 t405, .int .i64 t406] 31 (0, 0)) (by (with_reducible repeat (first | refine blk_drewN ?_ _ | refine blk_drew ?_ | refine blk_alloc ?_ _)); exact BK407.out) hb); have n1_ := Aside0.mk (below_step (by repeat (first | (with_reducible first | exact HB.out | apply below_alloc | apply pw_below_drewN | apply below_drew1 | refine below_set ?_ GE407.out) | exact HB.out)) hb); clear BK407; clear HB; have BK407 := n0_; have HB := n1_; clear n0_ n1_; (try clear hb); (try clear hb2); (try clear hk); (try clear hi); have hcz49_0 : w48.cell? ⟨gb407, 0, none⟩ = some (.int .i64 t401) := (blk_cell BK407.out 0).trans rfl; have hcz49_1 : w48.cell? ⟨gb407, 1, none⟩ = some (.int .i64 t402) := (blk_cell BK407.out 1).trans rfl; have hcz49_2 : w48.cell? ⟨gb407, 2, none⟩ = some (.int .i64 t403) := (blk_cell BK407.out 2).trans rfl; have hcz49_3 : w48.cell? ⟨gb407, 3, none⟩ = some (.int .i64 t404) := (blk_cell BK407.out 3).trans rfl; have hcz49_4 : w48.cell? ⟨gb407, 4, none⟩ = some (.int .i64 t405) := (blk_cell BK407.out 4).trans rfl; have hcz49_5 : w48.cell? ⟨gb407, 5, none⟩ = some (.int .i64 t406) := (blk_cell BK407.out 5).trans rfl; have hfz49_0 := blk_frozen BK407.out 0; have hfz49_1 := blk_frozen BK407.out 1; have hfz49_2 := blk_frozen BK407.out 2; have hfz49_3 := blk_frozen BK407.out 3; have hfz49_4 := blk_frozen BK407.out 4; have hfz49_5 := blk_frozen BK407.out 5) | ((with_reducible refine gate_callee (f := 11) rfl ?_); refine goesL_ (some 100) rfl rfl Tryd.func11 (by kernel_rfl) rfl #[.agg #[.int .i64 t401, .int .i64 t402, .int .i64 t403, .int .i64 t404, .int .i64 t405, .int .i64 t406]] rfl (by simp only [zA_, zB_, zD_] <;> rfl) ?_; (with_reducible refine (impl_StepText.calls kj16 t401 t402 t403 t404 t405 t406 t412 t413 _ A31.out (HT.out _ (by repeat (first | (with_reducible first | exact HB.out | apply below_alloc | apply pw_below_drewN | apply below_drew1 | (refine below_set ?_ _; assumption)) | exact HB.out)))).mono ?_); rintro e w50 ⟨rfl, hb⟩; refine ⟨_, rfl, ?_⟩; have n0_ := Aside0.mk (blk_below (g := gb407) (o := .cells #[.int .i64 t401, .int .i64 t402, .int .i64 t403, .int .i64 t404, .int .i64 t405, .int .i64 t406] 31 (0, 0)) (by (with_reducible repeat (first | refine blk_drewN ?_ _ | refine blk_drew ?_ | refine blk_alloc ?_ _)); exact BK407.out) hb); have n1_ := Aside0.mk (below_step (by repeat (first | (with_reducible first | exact HB.out | apply below_alloc | apply pw_below_drewN | apply below_drew1 | refine below_set ?_ GE407.out) | exact HB.out)) hb); clear BK407; clear HB; have BK407 := n0_; have HB := n1_; clear n0_ n1_; (try clear hb); (try clear hb2); (try clear hk); (try clear hi); have hcz51_0 : w50.cell? ⟨gb407, 0, none⟩ = some (.int .i64 t401) := (blk_cell BK407.out 0).trans rfl; have hcz51_1 : w50.cell? ⟨gb407, 1, none⟩ = some (.int .i64 t402) := (blk_cell BK407.out 1).trans rfl; have hcz51_2 : w50.cell? ⟨gb407, 2, none⟩ = some (.int .i64 t403) := (blk_cell BK407.out 2).trans rfl; have hcz51_3 : w50.cell? ⟨gb407, 3, none⟩ = some (.int .i64 t404) := (blk_cell BK407.out 3).trans rfl; have hcz51_4 : w50.cell? ⟨gb407, 4, none⟩ = some (.int .i64 t405) := (blk_cell BK407.out 4).trans rfl; have hcz51_5 : w50.cell? ⟨gb407, 5, none⟩ = some (.int .i64 t406) := (blk_cell BK407.out 5).trans rfl; have hfz51_0 := blk_frozen BK407.out 0; have hfz51_1 := blk_frozen BK407.out 1; have hfz51_2 := blk_frozen BK407.out 2; have hfz51_3 := blk_frozen BK407.out 3; have hfz51_4 := blk_frozen BK407.out 4; have hfz51_5 := blk_frozen BK407.out 5) | ((with_reducible refine gate_callee (f := 12) rfl ?_); refine goesL_ (some 105) rfl rfl Tryd.func12 (by kernel_rfl) rfl #[.agg #[.int .i64 t401, .int .i64 t402, .int .i64 t403, .int .i64 t404, .int .i64 t405, .int .i64 t406]] rfl (by simp only [zA_, zB_, zD_] <;> rfl) ?_; (with_reducible refine (spec_StepText.calls kj16 t401 t402 t403 t404 t405 t406 t414 t415 _ A32.out).mono ?_); rintro e w52 ⟨rfl, hb⟩; refine ⟨_, rfl, ?_⟩; have n0_ := Aside0.mk (blk_below (g := gb407) (o := .cells #[.int .i64 t401, .int .i64 t402, .int .i64 t403, .int .i64 t404, .int .i64 t405, .int .i64 t406] 31 (0, 0)) (by (with_reducible repeat (first | refine blk_drewN ?_ _ | refine blk_drew ?_ | refine blk_alloc ?_ _)); exact BK407.out) hb); have n1_ := Aside0.mk (below_step (by repeat (first | (with_reducible first | exact HB.out | apply below_alloc | apply pw_below_drewN | apply below_drew1 | refine below_set ?_ GE407.out) | exact HB.out)) hb); clear BK407; clear HB; have BK407 := n0_; have HB := n1_; clear n0_ n1_; (try clear hb); (try clear hb2); (try clear hk); (try clear hi)) | ((with_reducible refine gate_callee (f := 13) rfl ?_); refine goesL_ (some 109) rfl rfl Tryd.func13 (by kernel_rfl) rfl #[.slice A1 l1.length c1] rfl (by simp only [zA_, zB_, zD_] <;> rfl) ?_; (with_reducible refine (spec_DrawSlotsOf.calls kj16 _ _ l1 t416 _ ?side1 ?side2 A33.out).mono ?_); (case side1 => exact zC_ (Kd.C_below HR1.out HB.out)); (case side2 => exact HC1.out); rintro e w53 ⟨v417, rfl, ho0, hb⟩; refine ⟨_, rfl, ?_⟩; have n0_ := Aside0.mk (Kd.R_mono (ok' := fun _ => True) (Kd.R_lower ho0 (below_size (by repeat (first | (with_reducible first | exact HB.out | apply below_alloc | apply pw_below_drewN | apply below_drew1 | refine below_set ?_ GE407.out) | exact HB.out)))) (fun _ _ => trivial)); have n1_ := Aside0.mk (blk_below (g := gb407) (o := .cells #[.int .i64 t401, .int .i64 t402, .int .i64 t403, .int .i64 t404, .int .i64 t405, .int .i64 t406] 31 (0, 0)) (by (with_reducible repeat (first | refine blk_drewN ?_ _ | refine blk_drew ?_ | refine blk_alloc ?_ _)); exact BK407.out) hb); have n2_ := Aside0.mk (below_step (by repeat (first | (with_reducible first | exact HB.out | apply below_alloc | apply pw_below_drewN | apply below_drew1 | refine below_set ?_ GE407.out) | exact HB.out)) hb); clear BK407; clear HB; have HO418 := n0_; have BK407 := n1_; have HB := n2_; clear n0_ n1_ n2_; (try clear hb); (try clear hb2); (try clear hk); (try clear hi); (try clear ho0); obtain ⟨Ao54, co54, eo54⟩ := Kd.R_slice HO418.out; subst eo54) | ((with_reducible refine gate_callee (f := 14) rfl ?_); refine goesL_ (some 112) rfl rfl Tryd.func14 (by kernel_rfl) rfl #[.slice Ao54 t416.length co54] rfl (by simp only [zA_, zB_, zD_] <;> rfl) ?_; (with_reducible refine (impl_SlotsOf.calls kj16 _ _ t416 t419 t420 _ ?side1 ?side2 A34.out).mono ?_); (case side1 => exact zC_ (Kd.R_reads' HO418.out).2.2); (case side2 => exact (Kd.R_reads' HO418.out).2.1); rintro e w55 ⟨v421, rfl, ho0, hb⟩; refine ⟨_, rfl, ?_⟩; have n0_ := Aside0.mk (Kd.R_below (zR_ HO418.out) hb); have n1_ := Aside0.mk (Kd.R_mono (ok' := fun _ => True) (Kd.R_lower ho0 (below_size (by repeat (first | (with_reducible first | exact HB.out | apply below_alloc | apply pw_below_drewN | apply below_drew1 | refine below_set ?_ GE407.out) | exact HB.out)))) (fun _ _ => trivial)); have n2_ := Aside0.mk (blk_below (g := gb407) (o := .cells #[.int .i64 t401, .int .i64 t402, .int .i64 t403, .int .i64 t404, .int .i64 t405, .int .i64 t406] 31 (0, 0)) (by (with_reducible repeat (first | refine blk_drewN ?_ _ | refine blk_drew ?_ | refine blk_alloc ?_ _)); exact BK407.out) hb); have n3_ := Aside0.mk (below_step (by repeat (first | (with_reducible first | exact HB.out | apply below_alloc | apply pw_below_drewN | apply below_drew1 | refine below_set ?_ GE407.out) | exact HB.out)) hb); clear HO418; clear BK407; clear HB; have HO418 := n0_; have HO422 := n1_; have BK407 := n2_; have HB := n3_; clear n0_ n1_ n2_ n3_; (try clear hb); (try clear hb2); (try clear hk); (try clear hi); (try clear ho0)) | ((with_reducible refine gate_callee (f := 15) rfl ?_); refine goesL_ (some 117) rfl rfl Tryd.func15 (by kernel_rfl) rfl #[.slice Ao54 t416.length co54] rfl (by simp only [zA_, zB_, zD_] <;> rfl) ?_; (with_reducible refine (spec_SlotsOf.calls kj16 _ _ t416 t423 t424 _ ?side1 ?side2 A35.out).mono ?_); (case side1 => exact zC_ (Kd.R_reads' HO418.out).2.2); (case side2 => exact (Kd.R_reads' HO418.out).2.1); rintro e w56 ⟨v425, rfl, ho0, hb⟩; refine ⟨_, rfl, ?_⟩; have n0_ := Aside0.mk (Kd.R_below (zR_ HO418.out) hb); have n1_ := Aside0.mk (Kd.R_below (zR_ HO422.out) hb); have n2_ := Aside0.mk (Kd.R_mono (ok' := fun _ => True) (Kd.R_lower ho0 (below_size (by repeat (first | (with_reducible first | exact HB.out | apply below_alloc | apply pw_below_drewN | apply below_drew1 | refine below_set ?_ GE407.out) | exact HB.out)))) (fun _ _ => trivial)); have n3_ := Aside0.mk (blk_below (g := gb407) (o := .cells #[.int .i64 t401, .int .i64 t402, .int .i64 t403, .int .i64 t404, .int .i64 t405, .int .i64 t406] 31 (0, 0)) (by (with_reducible repeat (first | refine blk_drewN ?_ _ | refine blk_drew ?_ | refine blk_alloc ?_ _)); exact BK407.out) hb); have n4_ := Aside0.mk (below_step (by repeat (first | (with_reducible first | exact HB.out | apply below_alloc | apply pw_below_drewN | apply below_drew1 | refine below_set ?_ GE407.out) | exact HB.out)) hb); clear HO418; clear HO422; clear BK407; clear HB; have HO418 := n0_; have HO422 := n1_; have HO426 := n2_; have BK407 := n3_; have HB := n4_; clear n0_ n1_ n2_ n3_ n4_; (try clear hb); (try clear hb2); (try clear hk); (try clear hi); (try clear ho0); obtain ⟨Ao57, co57, eo57⟩ := Kd.R_slice HO422.out; subst eo57; obtain ⟨Ao58, co58, eo58⟩ := Kd.R_slice HO426.out; subst eo58) | (go_at_call 7; (with_reducible refine (laws_sameInts.calls kj16 _ _ t419 _ _ t423 true _ ?side1 ?side2 ?side3 ?side4 A41.out).mono ?_); (case side1 => exact zC_ (Kd.R_reads' HO422.out).2.2); (case side2 => exact (Kd.R_reads' HO422.out).2.1); (case side3 => exact zC_ (Kd.R_reads' HO426.out).2.2); (case side4 => exact (Kd.R_reads' HO426.out).2.1); rintro e w' ⟨rfl, ⟨nd, rfl⟩⟩))
             go_ret
             exact ⟨by first | rfl | (simp [errW_none, errW_some] <;> rfl) | (simp [*, errW_none, errW_some] <;> rfl), by repeat (first | (with_reducible first | exact HB.out | apply below_alloc | apply pw_below_drewN | apply below_drew1 | refine below_set ?_ GE407.out) | exact HB.out)⟩
            ·replace c42 := Bool.eq_false_iff.mpr c42
             subst c42
             have H1 : (none) = some r := by rw [if_neg (show ¬ (false = true) by decide)] at H; exact H
             clear H
             have H := H1
             clear H1
             exact absurd H (by simp)
           ·rw [if_neg c40] at H
            exact absurd H (by simp)
          ·rw [if_neg c39] at H
           exact absurd H (by simp)
         ·rw [if_neg c38] at H
          exact absurd H (by simp)
        ·rw [if_neg c37] at H
         exact absurd H (by simp)
       ·rw [if_neg c36] at H
        exact absurd H (by simp)
/-- THE ONE PURE STATEMENT of laws_FnNexts: yours. -/
def laws_FnNexts.Pure : Prop := ∀ (l0 : List Int) (l1 : List Int), l0.length ≤ maxLen → l0.length * 1 ≤ 140737488351232 → (∀ x ∈ l0, (Lit.int .u8 x).wf = true) → l1.length ≤ maxLen → l1.length * 1 ≤ 140737488351232 → (∀ x ∈ l1, (Lit.int .u8 x).wf = true) → ∃ k, laws_FnNexts.f k l0 l1 = some true
theorem laws_FnNexts.walk (P : laws_FnNexts.Pure) (a0 : Option Addr) (len0 cap0 : Nat) (z0 : List Int) (a1 : Option Addr) (len1 cap1 : Nat) (z1 : List Int) (w : World) (w0 : (a0 = none ∧ len0 = 0 ∧ cap0 = 0 ∧ z0 = []) ∨ ∃ x, a0 = some x ∧ len0 ≤ cap0 ∧ cap0 ≤ maxLen ∧ z0.length = cap0 ∧ (∀ i, i < z0.length → w.cell? (x.add i) = some (.int .u8 (z0.getD i 0))) ∧ ∀ n ∈ z0, (Lit.int .u8 n).wf = true) (y0 : len0 * 1 ≤ 140737488351232) (w1 : (a1 = none ∧ len1 = 0 ∧ cap1 = 0 ∧ z1 = []) ∨ ∃ x, a1 = some x ∧ len1 ≤ cap1 ∧ cap1 ≤ maxLen ∧ z1.length = cap1 ∧ (∀ i, i < z1.length → w.cell? (x.add i) = some (.int .u8 (z1.getD i 0))) ∧ ∀ n ∈ z1, (Lit.int .u8 n).wf = true) (y1 : len1 * 1 ≤ 140737488351232) (htab : TabP_ w) :
  Calls Tryd.prog 3 #[.slice a0 len0 cap0, .slice a1 len1 cap1] w fun e w' => e = .returned (.bool true) ∧ Below w.heap.size w w' := by
 obtain ⟨l0, rfl, hr0, hm0, hw0, hc0⟩ := ReadsInt.ofRowC w0
 obtain ⟨l1, rfl, hr1, hm1, hw1, hc1⟩ := ReadsInt.ofRowC w1
 obtain ⟨k, h⟩ := P l0 l1 hm0 y0 hw0 hm1 y1 hw1
 refine (laws_FnNexts.calls k _ _ l0 _ _ l1 true w (Kd.C_of_reads (d := (0 : Int)) (h1 := fun _ => rfl) hr0) hc0 (Kd.C_of_reads (d := (0 : Int)) (h1 := fun _ => rfl) hr1) hc1 h htab).mono ?_
 rintro e w' ⟨rfl, hd⟩
 exact ⟨rfl, hd⟩
end Go.Proofs.YtpkbjgmeejlchaaDoor.PFnNexts
-- squeezed
