-- Made by a program of this session (wip/tools), which leans on the kit's print: checked by Lean alone.
import Derived.Test.YtpkbjgmeejlchaaPFnProvedx0
import Derived.Test.YtpkbjgmeejlchaaPFnProvedx3
import Derived.Test.YtpkbjgmeejlchaaPFnProvedx6
import Derived.Test.YtpkbjgmeejlchaaPFnProvedx8
import Derived.Test.YtpkbjgmeejlchaaPFnProvedx9
import Derived.Test.YtpkbjgmeejlchaaPFnProvedx10
import Derived.Test.YtpkbjgmeejlchaaPFnProvedx11
namespace Go.Proofs.Ytpkbjgmeejlchaa.PFnProved
open Go.RowKit Go.Proofs.YtpkbjgmeejlchaaW.PrintWords Go.Proofs.YtpkbjgmeejlchaaW.PrintLast Go.Proofs.YtpkbjgmeejlchaaW.PrintMore
attribute [local go_sem] max2_int min2_int max_two min_two max_three min_three max_four min_four   -- for this text's walks alone
set_option linter.unusedVariables false
set_option linter.unusedSimpArgs false

/-! ### laws_FnProved: function 6 -/
mutual
def laws_FnProved.j0 : Nat → List Int → Int → List (List Int) → List (List Int) → Bool → Int → Bool → Bool → Option (Bool)
 | 0, _, _, _, _, _, _, _, _ => none
 | k + 1, x1, x5, x6, x7, x8, x9, x10, x72 => if x72 = true then (none) else (if x10 = true then ((impl_CountModels.f k x5 x6).bind fun bt450 => (if bt450.2 = true then (if x8 = true then (if bt450.1 > 0 then (none) else (if x9 > (x7.length : Int) then (none) else (laws_FnProved.j1 k x1))) else (if x9 > (x7.length : Int) then (none) else (laws_FnProved.j1 k x1))) else (none))) else (laws_FnProved.j1 k x1))
def laws_FnProved.j1 : Nat → List Int → Option (Bool)
 | 0, _ => none
 | k + 1, x1 => (spec_DrawRefuteBy.f k x1).bind fun bt452 => ((impl_RefuteBy.f k bt452.1 bt452.2).bind fun bt456 => ((spec_RefuteBy.f k bt452.1 bt452.2).bind fun bt458 => ((impl_ProofOf.f k bt452.1 bt452.2).bind fun bt460 => ((spec_ProofOf.f k bt452.1 bt452.2).bind fun bt464 => (if (bt456.2 != bt458.2) = true then (laws_FnProved.j2 k bt452.1 bt452.2 bt456.1 bt456.2 bt460.1 bt460.2 true) else (if (bt456.1 != bt458.1) = true then (laws_FnProved.j2 k bt452.1 bt452.2 bt456.1 bt456.2 bt460.1 bt460.2 true) else (if (bt460.2 != bt464.2) = true then (laws_FnProved.j2 k bt452.1 bt452.2 bt456.1 bt456.2 bt460.1 bt460.2 true) else ((laws_sameRows.f k bt460.1 bt464.1).bind fun t468 => (laws_FnProved.j2 k bt452.1 bt452.2 bt456.1 bt456.2 bt460.1 bt460.2 (!t468))))))))))
def laws_FnProved.j2 : Nat → Int → List (List Int) → Bool → Bool → List (List Int) → Bool → Bool → Option (Bool)
 | 0, _, _, _, _, _, _, _ => none
 | k + 1, x16, x17, x18, x19, x22, x23, x142 => if x142 = true then (none) else (if x19 = true then ((impl_CountModels.f k x16 x17).bind fun bt469 => (if bt469.2 = true then (if (x18 != (bt469.1 == 0)) = true then (laws_FnProved.j3 k x22 true) else (laws_FnProved.j3 k x22 (x23 != x18))) else (laws_FnProved.j3 k x22 true))) else ((impl_ProofSize.f k x22).bind fun bt475 => ((spec_ProofSize.f k x22).bind fun bt477 => (if (bt475.2 == bt477.2) = true then (some (bt475.1 == bt477.1)) else (none)))))
def laws_FnProved.j3 : Nat → List (List Int) → Bool → Option (Bool)
 | 0, _, _ => none
 | k + 1, x22, x162 => if x162 = true then (none) else ((impl_ProofSize.f k x22).bind fun bt471 => ((spec_ProofSize.f k x22).bind fun bt473 => (if (bt471.2 == bt473.2) = true then (some (bt471.1 == bt473.1)) else (none))))
end
def laws_FnProved.f (k : Nat) (l0 : List Int) (l1 : List Int) : Option (Bool) := if (wrap64 ((l0.length : Int) + (l1.length : Int))) > 1048576 then (some true) else ((spec_DrawCheckProof.f k l0).bind fun bt437 => ((impl_CheckProof.f k bt437.1 bt437.2.1 bt437.2.2).bind fun bt444 => ((spec_CheckProof.f k bt437.1 bt437.2.1 bt437.2.2).bind fun bt447 => (if (bt444.2.2 != bt447.2.2) = true then (laws_FnProved.j0 k l1 bt437.1 bt437.2.1 bt437.2.2 bt444.1 bt444.2.1 bt444.2.2 true) else (if (bt444.1 != bt447.1) = true then (laws_FnProved.j0 k l1 bt437.1 bt437.2.1 bt437.2.2 bt444.1 bt444.2.1 bt444.2.2 true) else (laws_FnProved.j0 k l1 bt437.1 bt437.2.1 bt437.2.2 bt444.1 bt444.2.1 bt444.2.2 (bt444.2.1 != bt447.2.1)))))))
theorem laws_FnProved.mono_l : ∀ k, (∀ y0 y1 y2 y3 y4 y5 y6 y7, LeO (laws_FnProved.j0 k y0 y1 y2 y3 y4 y5 y6 y7) (laws_FnProved.j0 (k + 1) y0 y1 y2 y3 y4 y5 y6 y7)) ∧ (∀ y0, LeO (laws_FnProved.j1 k y0) (laws_FnProved.j1 (k + 1) y0)) ∧ (∀ y0 y1 y2 y3 y4 y5 y6, LeO (laws_FnProved.j2 k y0 y1 y2 y3 y4 y5 y6) (laws_FnProved.j2 (k + 1) y0 y1 y2 y3 y4 y5 y6)) ∧ (∀ y0 y1, LeO (laws_FnProved.j3 k y0 y1) (laws_FnProved.j3 (k + 1) y0 y1))
 | 0 => ⟨fun _ _ _ _ _ _ _ _ r h => by simp [laws_FnProved.j0] at h, fun _ r h => by simp [laws_FnProved.j1] at h, fun _ _ _ _ _ _ _ r h => by simp [laws_FnProved.j2] at h, fun _ _ r h => by simp [laws_FnProved.j3] at h⟩
 | k + 1 => by
  obtain ⟨ih0, ih1, ih2, ih3⟩ := laws_FnProved.mono_l k
  refine ⟨?_, ?_, ?_, ?_⟩
  ·intro y0 y1 y2 y3 y4 y5 y6 y7
   unfold laws_FnProved.j0
   repeat' first
   | (with_reducible exact ih0 _ _ _ _ _ _ _ _)
   | (with_reducible exact ih1 _)
   | (with_reducible exact ih2 _ _ _ _ _ _ _)
   | (with_reducible exact ih3 _ _)
   | (with_reducible exact impl_CheckProof.mono _ _ _ _)
   | (with_reducible exact impl_CountModels.mono _ _ _)
   | (with_reducible exact impl_ProofOf.mono _ _ _)
   | (with_reducible exact impl_ProofSize.mono _ _)
   | (with_reducible exact impl_RefuteBy.mono _ _ _)
   | (with_reducible exact laws_sameRows.mono _ _ _)
   | (with_reducible exact spec_CheckProof.mono _ _ _ _)
   | (with_reducible exact spec_DrawCheckProof.mono _ _)
   | (with_reducible exact spec_DrawRefuteBy.mono _ _)
   | (with_reducible exact spec_ProofOf.mono _ _ _)
   | (with_reducible exact spec_ProofSize.mono _ _)
   | (with_reducible exact spec_RefuteBy.mono _ _ _)
   | (with_reducible exact LeO.refl _)
   | (with_reducible exact LeO.none _)
   | (with_reducible refine LeO.ite ?_ ?_)
   | (with_reducible refine LeO.bind ?_ (fun _ => ?_))
   | exact ih0 _ _ _ _ _ _ _ _
   | exact ih1 _
   | exact ih2 _ _ _ _ _ _ _
   | exact ih3 _ _
   | exact impl_CheckProof.mono _ _ _ _
   | exact impl_CountModels.mono _ _ _
   | exact impl_ProofOf.mono _ _ _
   | exact impl_ProofSize.mono _ _
   | exact impl_RefuteBy.mono _ _ _
   | exact laws_sameRows.mono _ _ _
   | exact spec_CheckProof.mono _ _ _ _
   | exact spec_DrawCheckProof.mono _ _
   | exact spec_DrawRefuteBy.mono _ _
   | exact spec_ProofOf.mono _ _ _
   | exact spec_ProofSize.mono _ _
   | exact spec_RefuteBy.mono _ _ _
   | exact LeO.none _
   | refine LeO.ite ?_ ?_
   | refine LeO.bind ?_ (fun _ => ?_)
  ·intro y0
   unfold laws_FnProved.j1
   repeat' first
   | (with_reducible exact ih0 _ _ _ _ _ _ _ _)
   | (with_reducible exact ih1 _)
   | (with_reducible exact ih2 _ _ _ _ _ _ _)
   | (with_reducible exact ih3 _ _)
   | (with_reducible exact impl_CheckProof.mono _ _ _ _)
   | (with_reducible exact impl_CountModels.mono _ _ _)
   | (with_reducible exact impl_ProofOf.mono _ _ _)
   | (with_reducible exact impl_ProofSize.mono _ _)
   | (with_reducible exact impl_RefuteBy.mono _ _ _)
   | (with_reducible exact laws_sameRows.mono _ _ _)
   | (with_reducible exact spec_CheckProof.mono _ _ _ _)
   | (with_reducible exact spec_DrawCheckProof.mono _ _)
   | (with_reducible exact spec_DrawRefuteBy.mono _ _)
   | (with_reducible exact spec_ProofOf.mono _ _ _)
   | (with_reducible exact spec_ProofSize.mono _ _)
   | (with_reducible exact spec_RefuteBy.mono _ _ _)
   | (with_reducible exact LeO.refl _)
   | (with_reducible exact LeO.none _)
   | (with_reducible refine LeO.ite ?_ ?_)
   | (with_reducible refine LeO.bind ?_ (fun _ => ?_))
   | exact ih0 _ _ _ _ _ _ _ _
   | exact ih1 _
   | exact ih2 _ _ _ _ _ _ _
   | exact ih3 _ _
   | exact impl_CheckProof.mono _ _ _ _
   | exact impl_CountModels.mono _ _ _
   | exact impl_ProofOf.mono _ _ _
   | exact impl_ProofSize.mono _ _
   | exact impl_RefuteBy.mono _ _ _
   | exact laws_sameRows.mono _ _ _
   | exact spec_CheckProof.mono _ _ _ _
   | exact spec_DrawCheckProof.mono _ _
   | exact spec_DrawRefuteBy.mono _ _
   | exact spec_ProofOf.mono _ _ _
   | exact spec_ProofSize.mono _ _
   | exact spec_RefuteBy.mono _ _ _
   | exact LeO.none _
   | refine LeO.ite ?_ ?_
   | refine LeO.bind ?_ (fun _ => ?_)
  ·intro y0 y1 y2 y3 y4 y5 y6
   unfold laws_FnProved.j2
   repeat' first
   | (with_reducible exact ih0 _ _ _ _ _ _ _ _)
   | (with_reducible exact ih1 _)
   | (with_reducible exact ih2 _ _ _ _ _ _ _)
   | (with_reducible exact ih3 _ _)
   | (with_reducible exact impl_CheckProof.mono _ _ _ _)
   | (with_reducible exact impl_CountModels.mono _ _ _)
   | (with_reducible exact impl_ProofOf.mono _ _ _)
   | (with_reducible exact impl_ProofSize.mono _ _)
   | (with_reducible exact impl_RefuteBy.mono _ _ _)
   | (with_reducible exact laws_sameRows.mono _ _ _)
   | (with_reducible exact spec_CheckProof.mono _ _ _ _)
   | (with_reducible exact spec_DrawCheckProof.mono _ _)
   | (with_reducible exact spec_DrawRefuteBy.mono _ _)
   | (with_reducible exact spec_ProofOf.mono _ _ _)
   | (with_reducible exact spec_ProofSize.mono _ _)
   | (with_reducible exact spec_RefuteBy.mono _ _ _)
   | (with_reducible exact LeO.refl _)
   | (with_reducible exact LeO.none _)
   | (with_reducible refine LeO.ite ?_ ?_)
   | (with_reducible refine LeO.bind ?_ (fun _ => ?_))
   | exact ih0 _ _ _ _ _ _ _ _
   | exact ih1 _
   | exact ih2 _ _ _ _ _ _ _
   | exact ih3 _ _
   | exact impl_CheckProof.mono _ _ _ _
   | exact impl_CountModels.mono _ _ _
   | exact impl_ProofOf.mono _ _ _
   | exact impl_ProofSize.mono _ _
   | exact impl_RefuteBy.mono _ _ _
   | exact laws_sameRows.mono _ _ _
   | exact spec_CheckProof.mono _ _ _ _
   | exact spec_DrawCheckProof.mono _ _
   | exact spec_DrawRefuteBy.mono _ _
   | exact spec_ProofOf.mono _ _ _
   | exact spec_ProofSize.mono _ _
   | exact spec_RefuteBy.mono _ _ _
   | exact LeO.none _
   | refine LeO.ite ?_ ?_
   | refine LeO.bind ?_ (fun _ => ?_)
  ·intro y0 y1
   unfold laws_FnProved.j3
   repeat' first
   | (with_reducible exact ih0 _ _ _ _ _ _ _ _)
   | (with_reducible exact ih1 _)
   | (with_reducible exact ih2 _ _ _ _ _ _ _)
   | (with_reducible exact ih3 _ _)
   | (with_reducible exact impl_CheckProof.mono _ _ _ _)
   | (with_reducible exact impl_CountModels.mono _ _ _)
   | (with_reducible exact impl_ProofOf.mono _ _ _)
   | (with_reducible exact impl_ProofSize.mono _ _)
   | (with_reducible exact impl_RefuteBy.mono _ _ _)
   | (with_reducible exact laws_sameRows.mono _ _ _)
   | (with_reducible exact spec_CheckProof.mono _ _ _ _)
   | (with_reducible exact spec_DrawCheckProof.mono _ _)
   | (with_reducible exact spec_DrawRefuteBy.mono _ _)
   | (with_reducible exact spec_ProofOf.mono _ _ _)
   | (with_reducible exact spec_ProofSize.mono _ _)
   | (with_reducible exact spec_RefuteBy.mono _ _ _)
   | (with_reducible exact LeO.refl _)
   | (with_reducible exact LeO.none _)
   | (with_reducible refine LeO.ite ?_ ?_)
   | (with_reducible refine LeO.bind ?_ (fun _ => ?_))
   | exact ih0 _ _ _ _ _ _ _ _
   | exact ih1 _
   | exact ih2 _ _ _ _ _ _ _
   | exact ih3 _ _
   | exact impl_CheckProof.mono _ _ _ _
   | exact impl_CountModels.mono _ _ _
   | exact impl_ProofOf.mono _ _ _
   | exact impl_ProofSize.mono _ _
   | exact impl_RefuteBy.mono _ _ _
   | exact laws_sameRows.mono _ _ _
   | exact spec_CheckProof.mono _ _ _ _
   | exact spec_DrawCheckProof.mono _ _
   | exact spec_DrawRefuteBy.mono _ _
   | exact spec_ProofOf.mono _ _ _
   | exact spec_ProofSize.mono _ _
   | exact spec_RefuteBy.mono _ _ _
   | exact LeO.none _
   | refine LeO.ite ?_ ?_
   | refine LeO.bind ?_ (fun _ => ?_)
theorem laws_FnProved.mono : ∀ a0 a1 k, LeO (laws_FnProved.f k a0 a1) (laws_FnProved.f (k + 1) a0 a1) := by
 intro a0 a1 k
 obtain ⟨ih0, ih1, ih2, ih3⟩ := laws_FnProved.mono_l k
 unfold laws_FnProved.f
 repeat' first
   | (with_reducible exact ih0 _ _ _ _ _ _ _ _)
   | (with_reducible exact ih1 _)
   | (with_reducible exact ih2 _ _ _ _ _ _ _)
   | (with_reducible exact ih3 _ _)
   | (with_reducible exact impl_CheckProof.mono _ _ _ _)
   | (with_reducible exact impl_CountModels.mono _ _ _)
   | (with_reducible exact impl_ProofOf.mono _ _ _)
   | (with_reducible exact impl_ProofSize.mono _ _)
   | (with_reducible exact impl_RefuteBy.mono _ _ _)
   | (with_reducible exact laws_sameRows.mono _ _ _)
   | (with_reducible exact spec_CheckProof.mono _ _ _ _)
   | (with_reducible exact spec_DrawCheckProof.mono _ _)
   | (with_reducible exact spec_DrawRefuteBy.mono _ _)
   | (with_reducible exact spec_ProofOf.mono _ _ _)
   | (with_reducible exact spec_ProofSize.mono _ _)
   | (with_reducible exact spec_RefuteBy.mono _ _ _)
   | (with_reducible exact LeO.refl _)
   | (with_reducible exact LeO.none _)
   | (with_reducible refine LeO.ite ?_ ?_)
   | (with_reducible refine LeO.bind ?_ (fun _ => ?_))
   | exact ih0 _ _ _ _ _ _ _ _
   | exact ih1 _
   | exact ih2 _ _ _ _ _ _ _
   | exact ih3 _ _
   | exact impl_CheckProof.mono _ _ _ _
   | exact impl_CountModels.mono _ _ _
   | exact impl_ProofOf.mono _ _ _
   | exact impl_ProofSize.mono _ _
   | exact impl_RefuteBy.mono _ _ _
   | exact laws_sameRows.mono _ _ _
   | exact spec_CheckProof.mono _ _ _ _
   | exact spec_DrawCheckProof.mono _ _
   | exact spec_DrawRefuteBy.mono _ _
   | exact spec_ProofOf.mono _ _ _
   | exact spec_ProofSize.mono _ _
   | exact spec_RefuteBy.mono _ _ _
   | exact LeO.none _
   | refine LeO.ite ?_ ?_
   | refine LeO.bind ?_ (fun _ => ?_)
set_option maxHeartbeats 8000000 in
set_option maxRecDepth 100000 in
theorem laws_FnProved.calls (k : Nat) (A0 : Option Addr) (c0 : Nat) (l0 : List Int) (A1 : Option Addr) (c1 : Nat) (l1 : List Int) (r : Bool) (w : World) (hr0 : Kd.C (Kd.int .u8) w A0 l0.length l0) (hc0 : l0.length ≤ c0) (hr1 : Kd.C (Kd.int .u8) w A1 l1.length l1) (hc1 : l1.length ≤ c1) (h : laws_FnProved.f k l0 l1 = some r) :
  Calls Try.prog 6 #[.slice A0 l0.length c0, .slice A1 l1.length c1] w fun e w' => e = .returned (.bool r) ∧ Below w.heap.size w w' := by
 have HR0 := Aside0.mk hr0
 have HC0 := Aside0.mk hc0
 clear hr0 hc0
 have HR1 := Aside0.mk hr1
 have HC1 := Aside0.mk hc1
 clear hr1 hc1
 have HB := Aside0.mk (Below.refl w.heap.size w)
 have HTop := Aside0.mk (Nat.zero_le w.heap.size)
 have H : (if (wrap64 ((l0.length : Int) + (l1.length : Int))) > 1048576 then (some true) else ((spec_DrawCheckProof.f k l0).bind fun bt437 => ((impl_CheckProof.f k bt437.1 bt437.2.1 bt437.2.2).bind fun bt444 => ((spec_CheckProof.f k bt437.1 bt437.2.1 bt437.2.2).bind fun bt447 => (if (bt444.2.2 != bt447.2.2) = true then (laws_FnProved.j0 k l1 bt437.1 bt437.2.1 bt437.2.2 bt444.1 bt444.2.1 bt444.2.2 true) else (if (bt444.1 != bt447.1) = true then (laws_FnProved.j0 k l1 bt437.1 bt437.2.1 bt437.2.2 bt444.1 bt444.2.1 bt444.2.2 true) else (laws_FnProved.j0 k l1 bt437.1 bt437.2.1 bt437.2.2 bt444.1 bt444.2.1 bt444.2.2 (bt444.2.1 != bt447.2.1)))))))) = some r := h
 clear h
 by_cases c3 : (wrap64 ((l0.length : Int) + (l1.length : Int))) > 1048576
 ·rw [if_pos c3] at H
  have c3b0 : decide (1048576 < (wrap64 ((l0.length : Int) + (l1.length : Int)))) = true := decide_eq_true c3
  clear c3
  obtain rfl := Option.some.inj H
  go_enter Try.func6, Try.ntmps6
  go_wp2
  go_ret
  exact ⟨by first | rfl | (simp [errW_none, errW_some] <;> rfl) | (simp [*, errW_none, errW_some] <;> rfl), zb_ HB.out⟩
 ·rw [if_neg c3] at H
  have c3b0 : decide (1048576 < (wrap64 ((l0.length : Int) + (l1.length : Int)))) = false := decide_eq_false c3
  clear c3
  replace H := Option.bind_eq_some_iff.mp H
  obtain ⟨⟨t437, t438, t441⟩, A40, H⟩ := H
  (try dsimp only at H)
  have A4 := Aside0.mk A40
  clear A40
  replace H := Option.bind_eq_some_iff.mp H
  obtain ⟨⟨t444, t445, t446⟩, A50, H⟩ := H
  (try dsimp only at H)
  have A5 := Aside0.mk A50
  clear A50
  replace H := Option.bind_eq_some_iff.mp H
  obtain ⟨⟨t447, t448, t449⟩, A60, H⟩ := H
  (try dsimp only at H)
  have A6 := Aside0.mk A60
  clear A60
  have HC7 := Aside0.mk H
  clear H
  go_enter Try.func6, Try.ntmps6
  go_upto_region 6 with (first | ((with_reducible refine gate_callee (f := 39) rfl ?_); refine goesL_ (some 40) rfl rfl Try.func39 (by kernel_rfl) rfl #[.slice A0 l0.length c0] rfl (by (try simp only [List.map_toArray, List.map_cons, List.map_nil]); first | done | rfl | (simp only [List.length_drop, List.length_take]; rfl)) ?_; (with_reducible refine (spec_DrawCheckProof.calls k _ _ l0 t437 t438 t441 _ ?side1 ?side2 A4.out).mono ?_); (case side1 => exact zC_ HR0.out); (case side2 => exact HC0.out); rintro e w8 ⟨v439, v442, rfl, ho0, ho1, hb⟩; refine ⟨_, rfl, ?_⟩; obtain ⟨lo1, hi1, EL1, EH1, LE1⟩ := iv_ hb; have OR1 := Aside0.mk (show 0 ≤ lo1 ∧ lo1 ≤ hi1 from ⟨Nat.zero_le _, LE1⟩); have n0_ := Aside0.mk (Kd.N_lower (by first | exact ho0 | exact Kd.S_N ho0 | exact Kd.R_N ho0) (below_size (zb_ HB.out))); have n1_ := Aside0.mk (Kd.N_lower (by first | exact ho1 | exact Kd.S_N ho1 | exact Kd.R_N ho1) (below_size (zb_ HB.out))); have n2_ := Aside0.mk (Nat.le_of_eq EH1.symm); have n3_ := Aside0.mk (below_step (zb_ HB.out) hb); clear HTop; clear HB; have HO440 := n0_; have HO443 := n1_; have HTop := n2_; have HB := n3_; clear n0_ n1_ n2_ n3_; (try clear hb); (try clear hb2); (try clear hk); (try clear hi); (try clear ho0); (try clear ho1); (try clear EL1); (try clear EH1); (try clear LE1); obtain ⟨Ao9, co9, eo9⟩ := Kd.N_slice HO440.out; subst eo9; obtain ⟨Ao10, co10, eo10⟩ := Kd.N_slice HO443.out; subst eo10) | ((with_reducible refine gate_callee (f := 40) rfl ?_); refine goesL_ (some 48) rfl rfl Try.func40 (by kernel_rfl) rfl #[.int .i64 t437, .slice Ao9 t438.length co9, .slice Ao10 t441.length co10] rfl (by (try simp only [List.map_toArray, List.map_cons, List.map_nil]); first | done | rfl | (simp only [List.length_drop, List.length_take]; rfl)) ?_; (with_reducible refine (impl_CheckProof.calls k t437 _ _ t438 _ _ t441 t444 t445 t446 _ ?side1 ?side2 ?side3 ?side4 A5.out).mono ?_); (case side1 => exact zC_ (Kd.N_reads' HO440.out).2.2); (case side2 => exact (Kd.N_reads' HO440.out).2.1); (case side3 => exact zC_ (Kd.N_reads' HO443.out).2.2); (case side4 => exact (Kd.N_reads' HO443.out).2.1); rintro e w11 ⟨rfl, hb⟩; refine ⟨_, rfl, ?_⟩; obtain ⟨lo2, hi2, EL2, EH2, LE2⟩ := iv_ hb; have OR2 := Aside0.mk (show hi1 ≤ lo2 ∧ lo2 ≤ hi2 from ⟨Nat.le_trans HTop.out (Nat.le_of_eq EL2), LE2⟩); have n0_ := Aside0.mk (Kd.N_below (zN_ HO440.out) hb); have n1_ := Aside0.mk (Kd.N_below (zN_ HO443.out) hb); have n2_ := Aside0.mk (Nat.le_of_eq EH2.symm); have n3_ := Aside0.mk (below_step (zb_ HB.out) hb); clear HO440; clear HO443; clear HTop; clear HB; have HO440 := n0_; have HO443 := n1_; have HTop := n2_; have HB := n3_; clear n0_ n1_ n2_ n3_; (try clear hb); (try clear hb2); (try clear hk); (try clear hi); (try clear EL2); (try clear EH2); (try clear LE2)) | ((with_reducible refine gate_callee (f := 41) rfl ?_); refine goesL_ (some 56) rfl rfl Try.func41 (by kernel_rfl) rfl #[.int .i64 t437, .slice Ao9 t438.length co9, .slice Ao10 t441.length co10] rfl (by (try simp only [List.map_toArray, List.map_cons, List.map_nil]); first | done | rfl | (simp only [List.length_drop, List.length_take]; rfl)) ?_; (with_reducible refine (spec_CheckProof.calls k t437 _ _ t438 _ _ t441 t447 t448 t449 _ ?side1 ?side2 ?side3 ?side4 A6.out).mono ?_); (case side1 => exact zC_ (Kd.N_reads' HO440.out).2.2); (case side2 => exact (Kd.N_reads' HO440.out).2.1); (case side3 => exact zC_ (Kd.N_reads' HO443.out).2.2); (case side4 => exact (Kd.N_reads' HO443.out).2.1); rintro e w12 ⟨rfl, hb⟩; refine ⟨_, rfl, ?_⟩; obtain ⟨lo3, hi3, EL3, EH3, LE3⟩ := iv_ hb; have OR3 := Aside0.mk (show hi2 ≤ lo3 ∧ lo3 ≤ hi3 from ⟨Nat.le_trans HTop.out (Nat.le_of_eq EL3), LE3⟩); have n0_ := Aside0.mk (Kd.N_below (zN_ HO440.out) hb); have n1_ := Aside0.mk (Kd.N_below (zN_ HO443.out) hb); have n2_ := Aside0.mk (Nat.le_of_eq EH3.symm); have n3_ := Aside0.mk (below_step (zb_ HB.out) hb); clear HO440; clear HO443; clear HTop; clear HB; have HO440 := n0_; have HO443 := n1_; have HTop := n2_; have HB := n3_; clear n0_ n1_ n2_ n3_; (try clear hb); (try clear hb2); (try clear hk); (try clear hi); (try clear EL3); (try clear EH3); (try clear LE3)))
  (try simp only [Act.put, List.setIfInBounds_toArray, List.set_cons_zero, List.set_cons_succ])
  go_cut [72] (fun v72 wc => ∃ (kq : Nat) (x72_6 : Bool), v72 = .bool x72_6 ∧ Aside0 (laws_FnProved.j0 kq l1 t437 t438 t441 t444 t445 t446 x72_6 = some r) ∧ Aside0 (kq ≤ k) ∧ Aside0 (Kd.N (Kd.slice 3 (Kd.int .i64)) 42 wc w.heap.size (fun _ => True) (.slice Ao9 t438.length co9) t438) ∧ Aside0 (Kd.N (Kd.slice 3 (Kd.int .i64)) 42 wc w.heap.size (fun _ => True) (.slice Ao10 t441.length co10) t441) ∧ Aside0 (Below w.heap.size w wc))
  case first =>
   have H := HC7.out
   clear HC7
   by_cases c13 : (t446 != t449) = true
   ·rw [if_pos c13] at H
    have c13b0 : (t446 != t449) = true := c13
    (try (have c13b1 : decide (t446 = t449) = false := by simpa using c13))
    (try (have c13b2 : (t446 == t449) = false := by simpa using c13))
    (try (have c13b3 : ¬ (t446 = t449) := by simpa using c13))
    clear c13
    (first | rw [c13b0] | (simp only [i64_w, i32_w]; rw [c13b0]) | skip)
    have H' := Aside0.mk H
    clear H
    go_wp2
    go_meet
    case rel => exact ⟨_, (true), (by first | rfl | (simp; done) | (simp [*]; done)), H', ⟨by first | omega | exact Nat.le_refl _⟩, ⟨Kd.N_mono (zN_ HO440.out) (fun _ _ => trivial)⟩, ⟨Kd.N_mono (zN_ HO443.out) (fun _ _ => trivial)⟩, ⟨zb_ HB.out⟩⟩
   ·rw [if_neg c13] at H
    have c13b0 : (t446 != t449) = false := by simpa using c13
    (try (have c13b1 : decide (t446 = t449) = true := by simpa using c13))
    (try (have c13b2 : (t446 == t449) = true := by simpa using c13))
    clear c13
    (first | rw [c13b0] | (simp only [i64_w, i32_w]; rw [c13b0]) | skip)
    by_cases c14 : (t444 != t447) = true
    ·rw [if_pos c14] at H
     have c14b0 : (t444 != t447) = true := c14
     (try (have c14b1 : decide (t444 = t447) = false := by simpa using c14))
     (try (have c14b2 : (t444 == t447) = false := by simpa using c14))
     (try (have c14b3 : ¬ (t444 = t447) := by simpa using c14))
     clear c14
     have H' := Aside0.mk H
     clear H
     go_wp2
     go_meet
     case rel => exact ⟨_, (true), (by first | rfl | (simp; done) | (simp [*]; done)), H', ⟨by first | omega | exact Nat.le_refl _⟩, ⟨Kd.N_mono (zN_ HO440.out) (fun _ _ => trivial)⟩, ⟨Kd.N_mono (zN_ HO443.out) (fun _ _ => trivial)⟩, ⟨zb_ HB.out⟩⟩
    ·rw [if_neg c14] at H
     have c14b0 : (t444 != t447) = false := by simpa using c14
     (try (have c14b1 : decide (t444 = t447) = true := by simpa using c14))
     (try (have c14b2 : (t444 == t447) = true := by simpa using c14))
     clear c14
     have H' := Aside0.mk H
     clear H
     go_wp2
     go_meet
     case rel => exact ⟨_, ((t445 != t448)), (by first | rfl | (simp; done) | (simp [*]; done)), H', ⟨by first | omega | exact Nat.le_refl _⟩, ⟨Kd.N_mono (zN_ HO440.out) (fun _ _ => trivial)⟩, ⟨Kd.N_mono (zN_ HO443.out) (fun _ _ => trivial)⟩, ⟨zb_ HB.out⟩⟩
  case rest =>
   clear HC7
   try clear c1
   try clear p2
   try clear c3
   try clear c3b0
   try clear c4
   try clear c6
   try clear p6
   try clear c13
   try clear c13b0
   try clear c13b1
   try clear c13b2
   try clear c14
   try clear c14b0
   try clear c14b1
   try clear c14b2
   obtain ⟨kq, x72_6, rfl, HA, HJ6, HO_6, HO_7, HB⟩ := hcut
   cases kq with
   | zero => exact absurd HA.out (by simp [laws_FnProved.j0])
   | succ kj6 =>
    have H := HA.out
    clear HA
    simp only [laws_FnProved.j0] at H
    by_cases c15 : x72_6 = true
    ·subst c15
     have H1 : (none) = some r := by rw [if_pos rfl] at H; exact H
     clear H
     have H := H1
     clear H1
     exact absurd H (by simp)
    ·replace c15 := Bool.eq_false_iff.mpr c15
     subst c15
     have H1 : (if t446 = true then ((impl_CountModels.f kj6 t437 t438).bind fun bt450 => (if bt450.2 = true then (if t444 = true then (if bt450.1 > 0 then (none) else (if t445 > (t441.length : Int) then (none) else (laws_FnProved.j1 kj6 l1))) else (if t445 > (t441.length : Int) then (none) else (laws_FnProved.j1 kj6 l1))) else (none))) else (laws_FnProved.j1 kj6 l1)) = some r := by rw [if_neg (show ¬ (false = true) by decide)] at H; exact H
     clear H
     have H := H1
     clear H1
     have HC16 := Aside0.mk H
     clear H
     go_upto_if 73 with (fail)
     go_cut [] (fun wc => ∃ (kq : Nat), Aside0 (laws_FnProved.j1 kq l1 = some r) ∧ Aside0 (kq ≤ kj6) ∧ Aside0 (Below w.heap.size w wc))
     case first =>
      have H := HC16.out
      clear HC16
      by_cases c17 : t446 = true
      ·subst c17
       have H1 : ((impl_CountModels.f kj6 t437 t438).bind fun bt450 => (if bt450.2 = true then (if t444 = true then (if bt450.1 > 0 then (none) else (if t445 > (t441.length : Int) then (none) else (laws_FnProved.j1 kj6 l1))) else (if t445 > (t441.length : Int) then (none) else (laws_FnProved.j1 kj6 l1))) else (none))) = some r := by rw [if_pos rfl] at H; exact H
       clear H
       have H := H1
       clear H1
       replace H := Option.bind_eq_some_iff.mp H
       obtain ⟨⟨t450, t451⟩, A180, H⟩ := H
       (try dsimp only at H)
       have A18 := Aside0.mk A180
       clear A180
       by_cases c19 : t451 = true
       ·subst c19
        have H1 : (if t444 = true then (if t450 > 0 then (none) else (if t445 > (t441.length : Int) then (none) else (laws_FnProved.j1 kj6 l1))) else (if t445 > (t441.length : Int) then (none) else (laws_FnProved.j1 kj6 l1))) = some r := by rw [if_pos rfl] at H; exact H
        clear H
        have H := H1
        clear H1
        by_cases c20 : t444 = true
        ·subst c20
         have H1 : (if t450 > 0 then (none) else (if t445 > (t441.length : Int) then (none) else (laws_FnProved.j1 kj6 l1))) = some r := by rw [if_pos rfl] at H; exact H
         clear H
         have H := H1
         clear H1
         by_cases c21 : t450 > 0
         ·rw [if_pos c21] at H
          exact absurd H (by simp)
         ·rw [if_neg c21] at H
          have c21b0 : decide (0 < t450) = false := decide_eq_false c21
          clear c21
          (first | rw [c21b0] | (simp only [i64_w, i32_w]; rw [c21b0]) | skip)
          by_cases c22 : t445 > (t441.length : Int)
          ·rw [if_pos c22] at H
           exact absurd H (by simp)
          ·rw [if_neg c22] at H
           have c22b0 : decide ((t441.length : Int) < t445) = false := decide_eq_false c22
           clear c22
           have H' := Aside0.mk H
           clear H
           go_wp2_with (first | ((with_reducible refine gate_callee (f := 42) rfl ?_); refine goesL_ (some 77) rfl rfl Try.func42 (by kernel_rfl) rfl #[.int .i64 t437, .slice Ao9 t438.length co9] rfl (by (try simp only [List.map_toArray, List.map_cons, List.map_nil]); first | done | rfl | (simp only [List.length_drop, List.length_take]; rfl)) ?_; (with_reducible refine (impl_CountModels.calls kj6 t437 _ _ t438 t450 true _ ?side1 ?side2 A18.out).mono ?_); (case side1 => exact zC_ (Kd.N_reads' HO_6.out).2.2); (case side2 => exact (Kd.N_reads' HO_6.out).2.1); rintro e w23 ⟨rfl, hb⟩; refine ⟨_, rfl, ?_⟩; obtain ⟨lo1, hi1, EL1, EH1, LE1⟩ := iv_ hb; have OR1 := Aside0.mk (show 0 ≤ lo1 ∧ lo1 ≤ hi1 from ⟨Nat.zero_le _, LE1⟩); have n0_ := Aside0.mk (Kd.N_below (zN_ HO_6.out) hb); have n1_ := Aside0.mk (Kd.N_below (zN_ HO_7.out) hb); have n2_ := Aside0.mk (Nat.le_of_eq EH1.symm); have n3_ := Aside0.mk (below_step (zb_ HB.out) hb); clear HO_6; clear HO_7; clear HTop; clear HB; have HO_6 := n0_; have HO_7 := n1_; have HTop := n2_; have HB := n3_; clear n0_ n1_ n2_ n3_; (try clear hb); (try clear hb2); (try clear hk); (try clear hi); (try clear EL1); (try clear EH1); (try clear LE1)))
           go_meet
           case rel => exact ⟨_, H', ⟨by have := HJ6.out; first | omega | exact Nat.le_refl _⟩, ⟨zb_ HB.out⟩⟩
        ·replace c20 := Bool.eq_false_iff.mpr c20
         subst c20
         have H1 : (if t445 > (t441.length : Int) then (none) else (laws_FnProved.j1 kj6 l1)) = some r := by rw [if_neg (show ¬ (false = true) by decide)] at H; exact H
         clear H
         have H := H1
         clear H1
         by_cases c24 : t445 > (t441.length : Int)
         ·rw [if_pos c24] at H
          exact absurd H (by simp)
         ·rw [if_neg c24] at H
          have c24b0 : decide ((t441.length : Int) < t445) = false := decide_eq_false c24
          clear c24
          have H' := Aside0.mk H
          clear H
          go_wp2_with (first | ((with_reducible refine gate_callee (f := 42) rfl ?_); refine goesL_ (some 77) rfl rfl Try.func42 (by kernel_rfl) rfl #[.int .i64 t437, .slice Ao9 t438.length co9] rfl (by (try simp only [List.map_toArray, List.map_cons, List.map_nil]); first | done | rfl | (simp only [List.length_drop, List.length_take]; rfl)) ?_; (with_reducible refine (impl_CountModels.calls kj6 t437 _ _ t438 t450 true _ ?side1 ?side2 A18.out).mono ?_); (case side1 => exact zC_ (Kd.N_reads' HO_6.out).2.2); (case side2 => exact (Kd.N_reads' HO_6.out).2.1); rintro e w25 ⟨rfl, hb⟩; refine ⟨_, rfl, ?_⟩; obtain ⟨lo1, hi1, EL1, EH1, LE1⟩ := iv_ hb; have OR1 := Aside0.mk (show 0 ≤ lo1 ∧ lo1 ≤ hi1 from ⟨Nat.zero_le _, LE1⟩); have n0_ := Aside0.mk (Kd.N_below (zN_ HO_6.out) hb); have n1_ := Aside0.mk (Kd.N_below (zN_ HO_7.out) hb); have n2_ := Aside0.mk (Nat.le_of_eq EH1.symm); have n3_ := Aside0.mk (below_step (zb_ HB.out) hb); clear HO_6; clear HO_7; clear HTop; clear HB; have HO_6 := n0_; have HO_7 := n1_; have HTop := n2_; have HB := n3_; clear n0_ n1_ n2_ n3_; (try clear hb); (try clear hb2); (try clear hk); (try clear hi); (try clear EL1); (try clear EH1); (try clear LE1)))
          go_meet
          case rel => exact ⟨_, H', ⟨by have := HJ6.out; first | omega | exact Nat.le_refl _⟩, ⟨zb_ HB.out⟩⟩
       ·replace c19 := Bool.eq_false_iff.mpr c19
        subst c19
        have H1 : (none) = some r := by rw [if_neg (show ¬ (false = true) by decide)] at H; exact H
        clear H
        have H := H1
        clear H1
        exact absurd H (by simp)
      ·replace c17 := Bool.eq_false_iff.mpr c17
       subst c17
       have H1 : (laws_FnProved.j1 kj6 l1) = some r := by rw [if_neg (show ¬ (false = true) by decide)] at H; exact H
       clear H
       have H := H1
       clear H1
       have H' := Aside0.mk H
       clear H
       go_wp2
       go_meet
       case rel => exact ⟨_, H', ⟨by have := HJ6.out; first | omega | exact Nat.le_refl _⟩, ⟨zb_ HB.out⟩⟩
     case rest =>
      clear HC16
      try clear c1
      try clear c2
      try clear p2
      try clear c3
      try clear c3b0
      try clear c4
      try clear c6
      try clear p6
      try clear c13
      try clear c13b0
      try clear c13b1
      try clear c13b2
      try clear c14
      try clear c14b0
      try clear c14b1
      try clear c14b2
      try clear c15
      try clear c17
      try clear c19
      try clear c20
      try clear c21
      try clear c21b0
      try clear c22
      try clear c22b0
      try clear c24
      try clear c24b0
      try clear p2
      try clear p6
      obtain ⟨kq, HA, HJ15, HB⟩ := hcut
      cases kq with
      | zero => exact absurd HA.out (by simp [laws_FnProved.j1])
      | succ kj15 =>
       have H := HA.out
       clear HA
       simp only [laws_FnProved.j1] at H
       replace H := Option.bind_eq_some_iff.mp H
       obtain ⟨⟨t452, t453⟩, A260, H⟩ := H
       (try dsimp only at H)
       have A26 := Aside0.mk A260
       clear A260
       replace H := Option.bind_eq_some_iff.mp H
       obtain ⟨⟨t456, t457⟩, A270, H⟩ := H
       (try dsimp only at H)
       have A27 := Aside0.mk A270
       clear A270
       replace H := Option.bind_eq_some_iff.mp H
       obtain ⟨⟨t458, t459⟩, A280, H⟩ := H
       (try dsimp only at H)
       have A28 := Aside0.mk A280
       clear A280
       replace H := Option.bind_eq_some_iff.mp H
       obtain ⟨⟨t460, t461⟩, A290, H⟩ := H
       (try dsimp only at H)
       have A29 := Aside0.mk A290
       clear A290
       replace H := Option.bind_eq_some_iff.mp H
       obtain ⟨⟨t464, t465⟩, A300, H⟩ := H
       (try dsimp only at H)
       have A30 := Aside0.mk A300
       clear A300
       have HC31 := Aside0.mk H
       clear H
       go_upto_region 17 with (first | ((with_reducible refine gate_callee (f := 43) rfl ?_); refine goesL_ (some 97) rfl rfl Try.func43 (by kernel_rfl) rfl #[.slice A1 l1.length c1] rfl (by (try simp only [List.map_toArray, List.map_cons, List.map_nil]); first | done | rfl | (simp only [List.length_drop, List.length_take]; rfl)) ?_; (with_reducible refine (spec_DrawRefuteBy.calls kj15 _ _ l1 t452 t453 _ ?side1 ?side2 A26.out).mono ?_); (case side1 => exact zC_ (Kd.C_below HR1.out HB.out)); (case side2 => exact HC1.out); rintro e w32 ⟨v454, rfl, ho0, hb⟩; refine ⟨_, rfl, ?_⟩; obtain ⟨lo1, hi1, EL1, EH1, LE1⟩ := iv_ hb; have OR1 := Aside0.mk (show 0 ≤ lo1 ∧ lo1 ≤ hi1 from ⟨Nat.zero_le _, LE1⟩); have n0_ := Aside0.mk (Kd.N_lower (by first | exact ho0 | exact Kd.S_N ho0 | exact Kd.R_N ho0) (below_size (zb_ HB.out))); have n1_ := Aside0.mk (Nat.le_of_eq EH1.symm); have n2_ := Aside0.mk (below_step (zb_ HB.out) hb); clear HTop; clear HB; have HO455 := n0_; have HTop := n1_; have HB := n2_; clear n0_ n1_ n2_; (try clear hb); (try clear hb2); (try clear hk); (try clear hi); (try clear ho0); (try clear EL1); (try clear EH1); (try clear LE1); obtain ⟨Ao33, co33, eo33⟩ := Kd.N_slice HO455.out; subst eo33) | ((with_reducible refine gate_callee (f := 44) rfl ?_); refine goesL_ (some 103) rfl rfl Try.func44 (by kernel_rfl) rfl #[.int .i64 t452, .slice Ao33 t453.length co33] rfl (by (try simp only [List.map_toArray, List.map_cons, List.map_nil]); first | done | rfl | (simp only [List.length_drop, List.length_take]; rfl)) ?_; (with_reducible refine (impl_RefuteBy.calls kj15 t452 _ _ t453 t456 t457 _ ?side1 ?side2 A27.out).mono ?_); (case side1 => exact zC_ (Kd.N_reads' HO455.out).2.2); (case side2 => exact (Kd.N_reads' HO455.out).2.1); rintro e w34 ⟨rfl, hb⟩; refine ⟨_, rfl, ?_⟩; obtain ⟨lo2, hi2, EL2, EH2, LE2⟩ := iv_ hb; have OR2 := Aside0.mk (show hi1 ≤ lo2 ∧ lo2 ≤ hi2 from ⟨Nat.le_trans HTop.out (Nat.le_of_eq EL2), LE2⟩); have n0_ := Aside0.mk (Kd.N_below (zN_ HO455.out) hb); have n1_ := Aside0.mk (Nat.le_of_eq EH2.symm); have n2_ := Aside0.mk (below_step (zb_ HB.out) hb); clear HO455; clear HTop; clear HB; have HO455 := n0_; have HTop := n1_; have HB := n2_; clear n0_ n1_ n2_; (try clear hb); (try clear hb2); (try clear hk); (try clear hi); (try clear EL2); (try clear EH2); (try clear LE2)) | ((with_reducible refine gate_callee (f := 45) rfl ?_); refine goesL_ (some 109) rfl rfl Try.func45 (by kernel_rfl) rfl #[.int .i64 t452, .slice Ao33 t453.length co33] rfl (by (try simp only [List.map_toArray, List.map_cons, List.map_nil]); first | done | rfl | (simp only [List.length_drop, List.length_take]; rfl)) ?_; (with_reducible refine (spec_RefuteBy.calls kj15 t452 _ _ t453 t458 t459 _ ?side1 ?side2 A28.out).mono ?_); (case side1 => exact zC_ (Kd.N_reads' HO455.out).2.2); (case side2 => exact (Kd.N_reads' HO455.out).2.1); rintro e w35 ⟨rfl, hb⟩; refine ⟨_, rfl, ?_⟩; obtain ⟨lo3, hi3, EL3, EH3, LE3⟩ := iv_ hb; have OR3 := Aside0.mk (show hi2 ≤ lo3 ∧ lo3 ≤ hi3 from ⟨Nat.le_trans HTop.out (Nat.le_of_eq EL3), LE3⟩); have n0_ := Aside0.mk (Kd.N_below (zN_ HO455.out) hb); have n1_ := Aside0.mk (Nat.le_of_eq EH3.symm); have n2_ := Aside0.mk (below_step (zb_ HB.out) hb); clear HO455; clear HTop; clear HB; have HO455 := n0_; have HTop := n1_; have HB := n2_; clear n0_ n1_ n2_; (try clear hb); (try clear hb2); (try clear hk); (try clear hi); (try clear EL3); (try clear EH3); (try clear LE3)) | ((with_reducible refine gate_callee (f := 46) rfl ?_); refine goesL_ (some 115) rfl rfl Try.func46 (by kernel_rfl) rfl #[.int .i64 t452, .slice Ao33 t453.length co33] rfl (by (try simp only [List.map_toArray, List.map_cons, List.map_nil]); first | done | rfl | (simp only [List.length_drop, List.length_take]; rfl)) ?_; (with_reducible refine (impl_ProofOf.calls kj15 t452 _ _ t453 t460 t461 _ ?side1 ?side2 A29.out).mono ?_); (case side1 => exact zC_ (Kd.N_reads' HO455.out).2.2); (case side2 => exact (Kd.N_reads' HO455.out).2.1); rintro e w36 ⟨v462, rfl, ho0, hb⟩; refine ⟨_, rfl, ?_⟩; obtain ⟨lo4, hi4, EL4, EH4, LE4⟩ := iv_ hb; have OR4 := Aside0.mk (show hi3 ≤ lo4 ∧ lo4 ≤ hi4 from ⟨Nat.le_trans HTop.out (Nat.le_of_eq EL4), LE4⟩); have n0_ := Aside0.mk (Kd.N_below (zN_ HO455.out) hb); have n1_ := Aside0.mk (Kd.N_lower (by first | exact ho0 | exact Kd.S_N ho0 | exact Kd.R_N ho0) (below_size (zb_ HB.out))); have n2_ := Aside0.mk (Nat.le_of_eq EH4.symm); have n3_ := Aside0.mk (below_step (zb_ HB.out) hb); clear HO455; clear HTop; clear HB; have HO455 := n0_; have HO463 := n1_; have HTop := n2_; have HB := n3_; clear n0_ n1_ n2_ n3_; (try clear hb); (try clear hb2); (try clear hk); (try clear hi); (try clear ho0); (try clear EL4); (try clear EH4); (try clear LE4)) | ((with_reducible refine gate_callee (f := 47) rfl ?_); refine goesL_ (some 121) rfl rfl Try.func47 (by kernel_rfl) rfl #[.int .i64 t452, .slice Ao33 t453.length co33] rfl (by (try simp only [List.map_toArray, List.map_cons, List.map_nil]); first | done | rfl | (simp only [List.length_drop, List.length_take]; rfl)) ?_; (with_reducible refine (spec_ProofOf.calls kj15 t452 _ _ t453 t464 t465 _ ?side1 ?side2 A30.out).mono ?_); (case side1 => exact zC_ (Kd.N_reads' HO455.out).2.2); (case side2 => exact (Kd.N_reads' HO455.out).2.1); rintro e w37 ⟨v466, rfl, ho0, hb⟩; refine ⟨_, rfl, ?_⟩; obtain ⟨lo5, hi5, EL5, EH5, LE5⟩ := iv_ hb; have OR5 := Aside0.mk (show hi4 ≤ lo5 ∧ lo5 ≤ hi5 from ⟨Nat.le_trans HTop.out (Nat.le_of_eq EL5), LE5⟩); have n0_ := Aside0.mk (Kd.N_below (zN_ HO455.out) hb); have n1_ := Aside0.mk (Kd.N_below (zN_ HO463.out) hb); have n2_ := Aside0.mk (Kd.N_lower (by first | exact ho0 | exact Kd.S_N ho0 | exact Kd.R_N ho0) (below_size (zb_ HB.out))); have n3_ := Aside0.mk (Nat.le_of_eq EH5.symm); have n4_ := Aside0.mk (below_step (zb_ HB.out) hb); clear HO455; clear HO463; clear HTop; clear HB; have HO455 := n0_; have HO463 := n1_; have HO467 := n2_; have HTop := n3_; have HB := n4_; clear n0_ n1_ n2_ n3_ n4_; (try clear hb); (try clear hb2); (try clear hk); (try clear hi); (try clear ho0); (try clear EL5); (try clear EH5); (try clear LE5)))
       (try simp only [Act.put, List.setIfInBounds_toArray, List.set_cons_zero, List.set_cons_succ])
       go_cut [142] (fun v142 wc => ∃ (kq : Nat) (x142_30 : Bool), v142 = .bool x142_30 ∧ Aside0 (laws_FnProved.j2 kq t452 t453 t456 t457 t460 t461 x142_30 = some r) ∧ Aside0 (kq ≤ kj15) ∧ Aside0 (Kd.N (Kd.slice 3 (Kd.int .i64)) 42 wc w.heap.size (fun _ => True) (.slice Ao33 t453.length co33) t453) ∧ Aside0 (Kd.N (Kd.slice 3 (Kd.int .i64)) 42 wc w.heap.size (fun _ => True) v462 t460) ∧ Aside0 (Below w.heap.size w wc))
       case first =>
        have H := HC31.out
        clear HC31
        by_cases c38 : (t457 != t459) = true
        ·rw [if_pos c38] at H
         have c38b0 : (t457 != t459) = true := c38
         (try (have c38b1 : decide (t457 = t459) = false := by simpa using c38))
         (try (have c38b2 : (t457 == t459) = false := by simpa using c38))
         (try (have c38b3 : ¬ (t457 = t459) := by simpa using c38))
         clear c38
         (first | rw [c38b0] | (simp only [i64_w, i32_w]; rw [c38b0]) | skip)
         have H' := Aside0.mk H
         clear H
         go_wp2
         go_meet
         case rel => exact ⟨_, (true), (by first | rfl | (simp; done) | (simp [*]; done)), H', ⟨by have := HJ6.out; have := HJ15.out; first | omega | exact Nat.le_refl _⟩, ⟨Kd.N_mono (zN_ HO455.out) (fun _ _ => trivial)⟩, ⟨Kd.N_mono (zN_ HO463.out) (fun _ _ => trivial)⟩, ⟨zb_ HB.out⟩⟩
        ·rw [if_neg c38] at H
         have c38b0 : (t457 != t459) = false := by simpa using c38
         (try (have c38b1 : decide (t457 = t459) = true := by simpa using c38))
         (try (have c38b2 : (t457 == t459) = true := by simpa using c38))
         clear c38
         (first | rw [c38b0] | (simp only [i64_w, i32_w]; rw [c38b0]) | skip)
         by_cases c39 : (t456 != t458) = true
         ·rw [if_pos c39] at H
          have c39b0 : (t456 != t458) = true := c39
          (try (have c39b1 : decide (t456 = t458) = false := by simpa using c39))
          (try (have c39b2 : (t456 == t458) = false := by simpa using c39))
          (try (have c39b3 : ¬ (t456 = t458) := by simpa using c39))
          clear c39
          have H' := Aside0.mk H
          clear H
          go_wp2
          go_meet
          case rel => exact ⟨_, (true), (by first | rfl | (simp; done) | (simp [*]; done)), H', ⟨by have := HJ6.out; have := HJ15.out; first | omega | exact Nat.le_refl _⟩, ⟨Kd.N_mono (zN_ HO455.out) (fun _ _ => trivial)⟩, ⟨Kd.N_mono (zN_ HO463.out) (fun _ _ => trivial)⟩, ⟨zb_ HB.out⟩⟩
         ·rw [if_neg c39] at H
          have c39b0 : (t456 != t458) = false := by simpa using c39
          (try (have c39b1 : decide (t456 = t458) = true := by simpa using c39))
          (try (have c39b2 : (t456 == t458) = true := by simpa using c39))
          clear c39
          by_cases c40 : (t461 != t465) = true
          ·rw [if_pos c40] at H
           have c40b0 : (t461 != t465) = true := c40
           (try (have c40b1 : decide (t461 = t465) = false := by simpa using c40))
           (try (have c40b2 : (t461 == t465) = false := by simpa using c40))
           (try (have c40b3 : ¬ (t461 = t465) := by simpa using c40))
           clear c40
           have H' := Aside0.mk H
           clear H
           go_wp2
           go_meet
           case rel => exact ⟨_, (true), (by first | rfl | (simp; done) | (simp [*]; done)), H', ⟨by have := HJ6.out; have := HJ15.out; first | omega | exact Nat.le_refl _⟩, ⟨Kd.N_mono (zN_ HO455.out) (fun _ _ => trivial)⟩, ⟨Kd.N_mono (zN_ HO463.out) (fun _ _ => trivial)⟩, ⟨zb_ HB.out⟩⟩
          ·rw [if_neg c40] at H
           have c40b0 : (t461 != t465) = false := by simpa using c40
           (try (have c40b1 : decide (t461 = t465) = true := by simpa using c40))
           (try (have c40b2 : (t461 == t465) = true := by simpa using c40))
           clear c40
           replace H := Option.bind_eq_some_iff.mp H
           obtain ⟨t468, A410, H⟩ := H
           (try dsimp only at H)
           have A41 := Aside0.mk A410
           clear A410
           have H' := Aside0.mk H
           clear H
           obtain ⟨Ao42, co42, eo42⟩ := Kd.N_slice HO463.out
           subst eo42
           obtain ⟨Ao43, co43, eo43⟩ := Kd.N_slice HO467.out
           subst eo43
           go_wp2_with (first | (go_at_call 48; (with_reducible refine (laws_sameRows.calls kj15 _ _ t460 _ _ t464 t468 _ ?side1 ?side2 ?side3 ?side4 A41.out).mono ?_); (case side1 => exact zC_ (Kd.N_reads' HO463.out).2.2); (case side2 => exact (Kd.N_reads' HO463.out).2.1); (case side3 => exact zC_ (Kd.N_reads' HO467.out).2.2); (case side4 => exact (Kd.N_reads' HO467.out).2.1); rintro e w' ⟨rfl, ⟨nd, rfl⟩⟩))
           go_meet
           case rel => exact ⟨_, (!t468), (by first | rfl | (simp; done) | (simp [*]; done)), H', ⟨by have := HJ6.out; have := HJ15.out; first | omega | exact Nat.le_refl _⟩, ⟨Kd.N_mono (zN_ HO455.out) (fun _ _ => trivial)⟩, ⟨Kd.N_mono (zN_ HO463.out) (fun _ _ => trivial)⟩, ⟨zb_ HB.out⟩⟩
       case rest =>
        clear HC31
        try clear c1
        try clear c2
        try clear p2
        try clear c3
        try clear c3b0
        try clear c4
        try clear c6
        try clear p6
        try clear c13
        try clear c13b0
        try clear c13b1
        try clear c13b2
        try clear c14
        try clear c14b0
        try clear c14b1
        try clear c14b2
        try clear c15
        try clear c17
        try clear c19
        try clear c20
        try clear c21
        try clear c21b0
        try clear c22
        try clear c22b0
        try clear c24
        try clear c24b0
        try clear c38
        try clear c38b0
        try clear c38b1
        try clear c38b2
        try clear c39
        try clear c39b0
        try clear c39b1
        try clear c39b2
        try clear c40
        try clear c40b0
        try clear c40b1
        try clear c40b2
        try clear c41
        try clear c42
        try clear c43
        try clear p2
        try clear p6
        obtain ⟨kq, x142_30, rfl, HA, HJ30, HO_17, HO_22, HB⟩ := hcut
        cases kq with
        | zero => exact absurd HA.out (by simp [laws_FnProved.j2])
        | succ kj30 =>
         have H := HA.out
         clear HA
         simp only [laws_FnProved.j2] at H
         by_cases c44 : x142_30 = true
         ·subst c44
          have H1 : (none) = some r := by rw [if_pos rfl] at H; exact H
          clear H
          have H := H1
          clear H1
          exact absurd H (by simp)
         ·replace c44 := Bool.eq_false_iff.mpr c44
          subst c44
          have H1 : (if t457 = true then ((impl_CountModels.f kj30 t452 t453).bind fun bt469 => (if bt469.2 = true then (if (t456 != (bt469.1 == 0)) = true then (laws_FnProved.j3 kj30 t460 true) else (laws_FnProved.j3 kj30 t460 (t461 != t456))) else (laws_FnProved.j3 kj30 t460 true))) else ((impl_ProofSize.f kj30 t460).bind fun bt475 => ((spec_ProofSize.f kj30 t460).bind fun bt477 => (if (bt475.2 == bt477.2) = true then (some (bt475.1 == bt477.1)) else (none))))) = some r := by rw [if_neg (show ¬ (false = true) by decide)] at H; exact H
          clear H
          have H := H1
          clear H1
          by_cases c45 : t457 = true
          ·subst c45
           have H1 : ((impl_CountModels.f kj30 t452 t453).bind fun bt469 => (if bt469.2 = true then (if (t456 != (bt469.1 == 0)) = true then (laws_FnProved.j3 kj30 t460 true) else (laws_FnProved.j3 kj30 t460 (t461 != t456))) else (laws_FnProved.j3 kj30 t460 true))) = some r := by rw [if_pos rfl] at H; exact H
           clear H
           have H := H1
           clear H1
           replace H := Option.bind_eq_some_iff.mp H
           obtain ⟨⟨t469, t470⟩, A460, H⟩ := H
           (try dsimp only at H)
           have A46 := Aside0.mk A460
           clear A460
           have HC47 := Aside0.mk H
           clear H
           go_upto_region 21 with (first | ((with_reducible refine gate_callee (f := 42) rfl ?_); refine goesL_ (some 147) rfl rfl Try.func42 (by kernel_rfl) rfl #[.int .i64 t452, .slice Ao33 t453.length co33] rfl (by (try simp only [List.map_toArray, List.map_cons, List.map_nil]); first | done | rfl | (simp only [List.length_drop, List.length_take]; rfl)) ?_; (with_reducible refine (impl_CountModels.calls kj30 t452 _ _ t453 t469 t470 _ ?side1 ?side2 A46.out).mono ?_); (case side1 => exact zC_ (Kd.N_reads' HO_17.out).2.2); (case side2 => exact (Kd.N_reads' HO_17.out).2.1); rintro e w48 ⟨rfl, hb⟩; refine ⟨_, rfl, ?_⟩; obtain ⟨lo1, hi1, EL1, EH1, LE1⟩ := iv_ hb; have OR1 := Aside0.mk (show 0 ≤ lo1 ∧ lo1 ≤ hi1 from ⟨Nat.zero_le _, LE1⟩); have n0_ := Aside0.mk (Kd.N_below (zN_ HO_17.out) hb); have n1_ := Aside0.mk (Kd.N_below (zN_ HO_22.out) hb); have n2_ := Aside0.mk (Nat.le_of_eq EH1.symm); have n3_ := Aside0.mk (below_step (zb_ HB.out) hb); clear HO_17; clear HO_22; clear HTop; clear HB; have HO_17 := n0_; have HO_22 := n1_; have HTop := n2_; have HB := n3_; clear n0_ n1_ n2_ n3_; (try clear hb); (try clear hb2); (try clear hk); (try clear hi); (try clear EL1); (try clear EH1); (try clear LE1)))
           (try simp only [Act.put, List.setIfInBounds_toArray, List.set_cons_zero, List.set_cons_succ])
           go_cut [162] (fun v162 wc => ∃ (kq : Nat) (x162_46 : Bool), v162 = .bool x162_46 ∧ Aside0 (laws_FnProved.j3 kq t460 x162_46 = some r) ∧ Aside0 (kq ≤ kj30) ∧ Aside0 (Kd.N (Kd.slice 3 (Kd.int .i64)) 42 wc w.heap.size (fun _ => True) v462 t460) ∧ Aside0 (Below w.heap.size w wc))
           case first =>
            have H := HC47.out
            clear HC47
            by_cases c49 : t470 = true
            ·subst c49
             have H1 : (if (t456 != (t469 == 0)) = true then (laws_FnProved.j3 kj30 t460 true) else (laws_FnProved.j3 kj30 t460 (t461 != t456))) = some r := by rw [if_pos rfl] at H; exact H
             clear H
             have H := H1
             clear H1
             by_cases c50 : (t456 != (t469 == 0)) = true
             ·rw [if_pos c50] at H
              have c50b0 : (t456 != (t469 == 0)) = true := c50
              (try (have c50b1 : decide (t456 = (t469 == 0)) = false := by simpa using c50))
              (try (have c50b2 : (t456 == (t469 == 0)) = false := by simpa using c50))
              (try (have c50b3 : ¬ (t456 = (t469 == 0)) := by simpa using c50))
              clear c50
              (first | rw [c50b0] | (simp only [i64_w, i32_w]; rw [c50b0]) | skip)
              have H' := Aside0.mk H
              clear H
              go_wp2
              go_meet
              case rel => exact ⟨_, (true), (by first | rfl | (simp; done) | (simp [*]; done)), H', ⟨by have := HJ6.out; have := HJ15.out; have := HJ30.out; first | omega | exact Nat.le_refl _⟩, ⟨Kd.N_mono (zN_ HO_22.out) (fun _ _ => trivial)⟩, ⟨zb_ HB.out⟩⟩
             ·rw [if_neg c50] at H
              have c50b0 : (t456 != (t469 == 0)) = false := by simpa using c50
              (try (have c50b1 : decide (t456 = (t469 == 0)) = true := by simpa using c50))
              (try (have c50b2 : (t456 == (t469 == 0)) = true := by simpa using c50))
              clear c50
              (first | rw [c50b0] | (simp only [i64_w, i32_w]; rw [c50b0]) | skip)
              have H' := Aside0.mk H
              clear H
              go_wp2
              go_meet
              case rel => exact ⟨_, ((t461 != t456)), (by first | rfl | (simp; done) | (simp [*]; done)), H', ⟨by have := HJ6.out; have := HJ15.out; have := HJ30.out; first | omega | exact Nat.le_refl _⟩, ⟨Kd.N_mono (zN_ HO_22.out) (fun _ _ => trivial)⟩, ⟨zb_ HB.out⟩⟩
            ·replace c49 := Bool.eq_false_iff.mpr c49
             subst c49
             have H1 : (laws_FnProved.j3 kj30 t460 true) = some r := by rw [if_neg (show ¬ (false = true) by decide)] at H; exact H
             clear H
             have H := H1
             clear H1
             have H' := Aside0.mk H
             clear H
             go_wp2
             go_meet
             case rel => exact ⟨_, (true), (by first | rfl | (simp; done) | (simp [*]; done)), H', ⟨by have := HJ6.out; have := HJ15.out; have := HJ30.out; first | omega | exact Nat.le_refl _⟩, ⟨Kd.N_mono (zN_ HO_22.out) (fun _ _ => trivial)⟩, ⟨zb_ HB.out⟩⟩
           case rest =>
            clear HC47
            try clear c1
            try clear c2
            try clear p2
            try clear c3
            try clear c3b0
            try clear c4
            try clear c5
            try clear c6
            try clear p6
            try clear c13
            try clear c13b0
            try clear c13b1
            try clear c13b2
            try clear c14
            try clear c14b0
            try clear c14b1
            try clear c14b2
            try clear c15
            try clear c17
            try clear c19
            try clear c20
            try clear c21
            try clear c21b0
            try clear c22
            try clear c22b0
            try clear c24
            try clear c24b0
            try clear c38
            try clear c38b0
            try clear c38b1
            try clear c38b2
            try clear c39
            try clear c39b0
            try clear c39b1
            try clear c39b2
            try clear c40
            try clear c40b0
            try clear c40b1
            try clear c40b2
            try clear c41
            try clear c42
            try clear c43
            try clear c44
            try clear c45
            try clear c46
            try clear c47
            try clear c49
            try clear c50
            try clear c50b0
            try clear c50b1
            try clear c50b2
            try clear p2
            try clear p6
            obtain ⟨kq, x162_46, rfl, HA, HJ46, HO_22, HB⟩ := hcut
            cases kq with
            | zero => exact absurd HA.out (by simp [laws_FnProved.j3])
            | succ kj46 =>
             have H := HA.out
             clear HA
             simp only [laws_FnProved.j3] at H
             by_cases c51 : x162_46 = true
             ·subst c51
              have H1 : (none) = some r := by rw [if_pos rfl] at H; exact H
              clear H
              have H := H1
              clear H1
              exact absurd H (by simp)
             ·replace c51 := Bool.eq_false_iff.mpr c51
              subst c51
              have H1 : ((impl_ProofSize.f kj46 t460).bind fun bt471 => ((spec_ProofSize.f kj46 t460).bind fun bt473 => (if (bt471.2 == bt473.2) = true then (some (bt471.1 == bt473.1)) else (none)))) = some r := by rw [if_neg (show ¬ (false = true) by decide)] at H; exact H
              clear H
              have H := H1
              clear H1
              replace H := Option.bind_eq_some_iff.mp H
              obtain ⟨⟨t471, t472⟩, A520, H⟩ := H
              (try dsimp only at H)
              have A52 := Aside0.mk A520
              clear A520
              replace H := Option.bind_eq_some_iff.mp H
              obtain ⟨⟨t473, t474⟩, A530, H⟩ := H
              (try dsimp only at H)
              have A53 := Aside0.mk A530
              clear A530
              by_cases c54 : (t472 == t474) = true
              ·rw [if_pos c54] at H
               have c54b0 : (t472 == t474) = true := c54
               (try (have c54b1 : decide (t472 = t474) = true := by simpa using c54))
               (try (have c54b2 : (t472 == t474) = true := by simpa using c54))
               clear c54
               obtain rfl := Option.some.inj H
               obtain ⟨Ao55, co55, eo55⟩ := Kd.N_slice HO_22.out
               subst eo55
               go_wp2_with (first | ((with_reducible refine gate_callee (f := 49) rfl ?_); refine goesL_ (some 165) rfl rfl Try.func49 (by kernel_rfl) rfl #[.slice Ao55 t460.length co55] rfl (by (try simp only [List.map_toArray, List.map_cons, List.map_nil]); first | done | rfl | (simp only [List.length_drop, List.length_take]; rfl)) ?_; (with_reducible refine (impl_ProofSize.calls kj46 _ _ t460 t471 t472 _ ?side1 ?side2 A52.out).mono ?_); (case side1 => exact zC_ (Kd.N_reads' HO_22.out).2.2); (case side2 => exact (Kd.N_reads' HO_22.out).2.1); rintro e w' ⟨rfl, ⟨nd, rfl⟩⟩; refine ⟨_, rfl, ?_⟩) | ((with_reducible refine gate_callee (f := 50) rfl ?_); refine goesL_ (some 170) rfl rfl Try.func50 (by kernel_rfl) rfl #[.slice Ao55 t460.length co55] rfl (by (try simp only [List.map_toArray, List.map_cons, List.map_nil]); first | done | rfl | (simp only [List.length_drop, List.length_take]; rfl)) ?_; (with_reducible refine (spec_ProofSize.calls kj46 _ _ t460 t473 t474 _ ?side1 ?side2 A53.out).mono ?_); (case side1 => exact zC_ (Kd.N_reads' HO_22.out).2.2); (case side2 => exact (Kd.N_reads' HO_22.out).2.1); rintro e w' ⟨rfl, ⟨nd, rfl⟩⟩; refine ⟨_, rfl, ?_⟩))
               go_ret
               exact ⟨by first | rfl | (simp [errW_none, errW_some] <;> rfl) | (simp [*, errW_none, errW_some] <;> rfl), zb_ HB.out⟩
              ·rw [if_neg c54] at H
               exact absurd H (by simp)
          ·replace c45 := Bool.eq_false_iff.mpr c45
           subst c45
           have H1 : ((impl_ProofSize.f kj30 t460).bind fun bt475 => ((spec_ProofSize.f kj30 t460).bind fun bt477 => (if (bt475.2 == bt477.2) = true then (some (bt475.1 == bt477.1)) else (none)))) = some r := by rw [if_neg (show ¬ (false = true) by decide)] at H; exact H
           clear H
           have H := H1
           clear H1
           replace H := Option.bind_eq_some_iff.mp H
           obtain ⟨⟨t475, t476⟩, A560, H⟩ := H
           (try dsimp only at H)
           have A56 := Aside0.mk A560
           clear A560
           replace H := Option.bind_eq_some_iff.mp H
           obtain ⟨⟨t477, t478⟩, A570, H⟩ := H
           (try dsimp only at H)
           have A57 := Aside0.mk A570
           clear A570
           by_cases c58 : (t476 == t478) = true
           ·rw [if_pos c58] at H
            have c58b0 : (t476 == t478) = true := c58
            (try (have c58b1 : decide (t476 = t478) = true := by simpa using c58))
            (try (have c58b2 : (t476 == t478) = true := by simpa using c58))
            clear c58
            obtain rfl := Option.some.inj H
            obtain ⟨Ao59, co59, eo59⟩ := Kd.N_slice HO_22.out
            subst eo59
            go_wp2_with (first | ((with_reducible refine gate_callee (f := 49) rfl ?_); refine goesL_ (some 165) rfl rfl Try.func49 (by kernel_rfl) rfl #[.slice Ao59 t460.length co59] rfl (by (try simp only [List.map_toArray, List.map_cons, List.map_nil]); first | done | rfl | (simp only [List.length_drop, List.length_take]; rfl)) ?_; (with_reducible refine (impl_ProofSize.calls kj30 _ _ t460 t475 t476 _ ?side1 ?side2 A56.out).mono ?_); (case side1 => exact zC_ (Kd.N_reads' HO_22.out).2.2); (case side2 => exact (Kd.N_reads' HO_22.out).2.1); rintro e w' ⟨rfl, ⟨nd, rfl⟩⟩; refine ⟨_, rfl, ?_⟩) | ((with_reducible refine gate_callee (f := 50) rfl ?_); refine goesL_ (some 170) rfl rfl Try.func50 (by kernel_rfl) rfl #[.slice Ao59 t460.length co59] rfl (by (try simp only [List.map_toArray, List.map_cons, List.map_nil]); first | done | rfl | (simp only [List.length_drop, List.length_take]; rfl)) ?_; (with_reducible refine (spec_ProofSize.calls kj30 _ _ t460 t477 t478 _ ?side1 ?side2 A57.out).mono ?_); (case side1 => exact zC_ (Kd.N_reads' HO_22.out).2.2); (case side2 => exact (Kd.N_reads' HO_22.out).2.1); rintro e w' ⟨rfl, ⟨nd, rfl⟩⟩; refine ⟨_, rfl, ?_⟩))
            go_ret
            exact ⟨by first | rfl | (simp [errW_none, errW_some] <;> rfl) | (simp [*, errW_none, errW_some] <;> rfl), zb_ HB.out⟩
           ·rw [if_neg c58] at H
            exact absurd H (by simp)

/-- THE ONE PURE STATEMENT of laws_FnProved: yours. -/
def laws_FnProved.Pure : Prop := ∀ (l0 : List Int) (l1 : List Int), l0.length ≤ maxLen → l0.length * 1 ≤ 140737488351232 → (∀ x ∈ l0, (Lit.int .u8 x).wf = true) → l1.length ≤ maxLen → l1.length * 1 ≤ 140737488351232 → (∀ x ∈ l1, (Lit.int .u8 x).wf = true) → ∃ k, laws_FnProved.f k l0 l1 = some true
theorem laws_FnProved.walk (P : laws_FnProved.Pure) (a0 : Option Addr) (len0 cap0 : Nat) (z0 : List Int) (a1 : Option Addr) (len1 cap1 : Nat) (z1 : List Int) (w : World) (w0 : (a0 = none ∧ len0 = 0 ∧ cap0 = 0 ∧ z0 = []) ∨ ∃ x, a0 = some x ∧ len0 ≤ cap0 ∧ cap0 ≤ maxLen ∧ z0.length = cap0 ∧ (∀ i, i < z0.length → w.cell? (x.add i) = some (.int .u8 (z0.getD i 0))) ∧ ∀ n ∈ z0, (Lit.int .u8 n).wf = true) (y0 : len0 * 1 ≤ 140737488351232) (w1 : (a1 = none ∧ len1 = 0 ∧ cap1 = 0 ∧ z1 = []) ∨ ∃ x, a1 = some x ∧ len1 ≤ cap1 ∧ cap1 ≤ maxLen ∧ z1.length = cap1 ∧ (∀ i, i < z1.length → w.cell? (x.add i) = some (.int .u8 (z1.getD i 0))) ∧ ∀ n ∈ z1, (Lit.int .u8 n).wf = true) (y1 : len1 * 1 ≤ 140737488351232) :
  Calls Try.prog 6 #[.slice a0 len0 cap0, .slice a1 len1 cap1] w fun e w' => e = .returned (.bool true) ∧ Below w.heap.size w w' := by
 obtain ⟨l0, rfl, hr0, hm0, hw0, hc0⟩ := ReadsInt.ofRowC w0
 obtain ⟨l1, rfl, hr1, hm1, hw1, hc1⟩ := ReadsInt.ofRowC w1
 obtain ⟨k, h⟩ := P l0 l1 hm0 y0 hw0 hm1 y1 hw1
 refine (laws_FnProved.calls k _ _ l0 _ _ l1 true w (Kd.C_of_reads (d := (0 : Int)) (h1 := fun _ => rfl) hr0) hc0 (Kd.C_of_reads (d := (0 : Int)) (h1 := fun _ => rfl) hr1) hc1 h).mono ?_
 rintro e w' ⟨rfl, hd⟩
 exact ⟨rfl, hd⟩

end Go.Proofs.Ytpkbjgmeejlchaa.PFnProved
-- squeezed
