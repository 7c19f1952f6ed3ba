-- Made by a program of this session (wip/tools), which leans on the kit's print: checked by Lean alone.
import Derived.Test.YtjopmdogdmdanaaPFnExactTraceOfx0
import Derived.Test.YtjopmdogdmdanaaPFnExactTraceOfx9
namespace Go.Proofs.Ytjopmdogdmdanaa.PFnExactTraceOf
open Go.RowKit Go.Proofs.YtjopmdogdmdanaaW.PrintWords Go.Proofs.YtjopmdogdmdanaaW.PrintLast Go.Proofs.YtjopmdogdmdanaaW.PrintMore
attribute [local go_sem] max2_int min2_int max_two min_two max_three min_three max_four min_four   -- for this text's walks alone
set_option linter.unusedVariables false
set_option linter.unusedSimpArgs false
def impl_do.f (a0 : Int) (a1 : Int) (a2 : Int) : Option (Int) := if a0 = 1 then ((impl_WordOf.f (wrap64 (a1 + a2))).bind fun t247 => (some t247)) else (if a0 = 2 then ((impl_WordOf.f (wrap64 (a1 - a2))).bind fun t248 => (some t248)) else (if a0 = 3 then ((impl_WordOf.f (wrap64 (a1 * a2))).bind fun t249 => (some t249)) else (if a0 = 4 then (if a2 = 0 then (some 0) else (some (wrap64 (Int.tdiv a1 a2)))) else (if a0 = 5 then (if a2 = 0 then (some a1) else (some (Int.tmod a1 a2))) else (if a0 = 6 then (some (Go.bits .and .i64 a1 a2)) else (if a0 = 7 then (some (Go.bits .or .i64 a1 a2)) else (if a0 = 8 then (some (Go.bits .xor .i64 a1 a2)) else (if a0 = 9 then (if 0 ≤ (Int.tmod a2 16) then ((impl_WordOf.f (shl .i64 a1 (Int.tmod a2 16))).bind fun t250 => (some t250)) else (none)) else (if 0 ≤ (Int.tmod a2 16) then (some (shr .i64 a1 (Int.tmod a2 16))) else (none))))))))))
set_option maxHeartbeats 8000000 in
set_option maxRecDepth 100000 in
theorem impl_do.calls (a0 : Int) (a1 : Int) (a2 : Int) (r : Int) (w : World) (h : impl_do.f a0 a1 a2 = some r) :
  Calls Try.prog 103 #[.int .i64 a0, .int .i64 a1, .int .i64 a2] w fun e w' => e = .returned (.int .i64 r) ∧ Drawn0 w w' := by
 have H : (if a0 = 1 then ((impl_WordOf.f (wrap64 (a1 + a2))).bind fun t247 => (some t247)) else (if a0 = 2 then ((impl_WordOf.f (wrap64 (a1 - a2))).bind fun t248 => (some t248)) else (if a0 = 3 then ((impl_WordOf.f (wrap64 (a1 * a2))).bind fun t249 => (some t249)) else (if a0 = 4 then (if a2 = 0 then (some 0) else (some (wrap64 (Int.tdiv a1 a2)))) else (if a0 = 5 then (if a2 = 0 then (some a1) else (some (Int.tmod a1 a2))) else (if a0 = 6 then (some (Go.bits .and .i64 a1 a2)) else (if a0 = 7 then (some (Go.bits .or .i64 a1 a2)) else (if a0 = 8 then (some (Go.bits .xor .i64 a1 a2)) else (if a0 = 9 then (if 0 ≤ (Int.tmod a2 16) then ((impl_WordOf.f (shl .i64 a1 (Int.tmod a2 16))).bind fun t250 => (some t250)) else (none)) else (if 0 ≤ (Int.tmod a2 16) then (some (shr .i64 a1 (Int.tmod a2 16))) else (none))))))))))) = some r := h
 clear h
 by_cases c4 : a0 = 1
 ·rw [if_pos c4] at H
  have c4b0 : (a0 == 1) = true := beq_iff_eq.mpr c4
  have c4b1 : (a0 != 1) = false := bne_eq_false_iff_eq.mpr c4
  clear c4
  replace H := Option.bind_eq_some_iff.mp H
  obtain ⟨t247, A50, H⟩ := H
  (try dsimp only at H)
  have A5 := Aside0.mk A50
  clear A50
  obtain rfl := Option.some.inj H
  go_enter Try.func103, Try.ntmps103
  go_wp2_with (first | ((with_reducible refine gate_callee (f := 105) rfl ?_); refine goesL_ (some 13) rfl rfl Try.func105 (by kernel_rfl) rfl #[.int .i64 (wrap64 (a1 + a2))] rfl (by simp only [zA_, zB_, zD_] <;> rfl) ?_; (with_reducible refine (impl_WordOf.calls (wrap64 (a1 + a2)) t247 _ A5.out).mono ?_); rintro e w' ⟨rfl, ⟨nd, rfl⟩⟩; refine ⟨_, rfl, ?_⟩))
  go_ret
  exact ⟨by first | rfl | (simp; done) | (simp [*]; done), by repeat (first | exact Drawn0.refl _ | apply Drawn0.step)⟩
 rw [if_neg c4] at H
 have c4b0 : (a0 == 1) = false := beq_eq_false_iff_ne.mpr c4
 have c4b1 : (a0 != 1) = true := bne_iff_ne.mpr c4
 by_cases c6 : a0 = 2
 ·rw [if_pos c6] at H
  have c6b0 : (a0 == 2) = true := beq_iff_eq.mpr c6
  have c6b1 : (a0 != 2) = false := bne_eq_false_iff_eq.mpr c6
  clear c6
  replace H := Option.bind_eq_some_iff.mp H
  obtain ⟨t248, A70, H⟩ := H
  (try dsimp only at H)
  have A7 := Aside0.mk A70
  clear A70
  obtain rfl := Option.some.inj H
  go_enter Try.func103, Try.ntmps103
  go_wp2_with (first | ((with_reducible refine gate_callee (f := 105) rfl ?_); refine goesL_ (some 19) rfl rfl Try.func105 (by kernel_rfl) rfl #[.int .i64 (wrap64 (a1 - a2))] rfl (by simp only [zA_, zB_, zD_] <;> rfl) ?_; (with_reducible refine (impl_WordOf.calls (wrap64 (a1 - a2)) t248 _ A7.out).mono ?_); rintro e w' ⟨rfl, ⟨nd, rfl⟩⟩; refine ⟨_, rfl, ?_⟩))
  go_ret
  exact ⟨by first | rfl | (simp; done) | (simp [*]; done), by repeat (first | exact Drawn0.refl _ | apply Drawn0.step)⟩
 rw [if_neg c6] at H
 have c6b0 : (a0 == 2) = false := beq_eq_false_iff_ne.mpr c6
 have c6b1 : (a0 != 2) = true := bne_iff_ne.mpr c6
 by_cases c8 : a0 = 3
 ·rw [if_pos c8] at H
  have c8b0 : (a0 == 3) = true := beq_iff_eq.mpr c8
  have c8b1 : (a0 != 3) = false := bne_eq_false_iff_eq.mpr c8
  clear c8
  replace H := Option.bind_eq_some_iff.mp H
  obtain ⟨t249, A90, H⟩ := H
  (try dsimp only at H)
  have A9 := Aside0.mk A90
  clear A90
  obtain rfl := Option.some.inj H
  go_enter Try.func103, Try.ntmps103
  go_wp2_with (first | ((with_reducible refine gate_callee (f := 105) rfl ?_); refine goesL_ (some 25) rfl rfl Try.func105 (by kernel_rfl) rfl #[.int .i64 (wrap64 (a1 * a2))] rfl (by simp only [zA_, zB_, zD_] <;> rfl) ?_; (with_reducible refine (impl_WordOf.calls (wrap64 (a1 * a2)) t249 _ A9.out).mono ?_); rintro e w' ⟨rfl, ⟨nd, rfl⟩⟩; refine ⟨_, rfl, ?_⟩))
  go_ret
  exact ⟨by first | rfl | (simp; done) | (simp [*]; done), by repeat (first | exact Drawn0.refl _ | apply Drawn0.step)⟩
 rw [if_neg c8] at H
 have c8b0 : (a0 == 3) = false := beq_eq_false_iff_ne.mpr c8
 have c8b1 : (a0 != 3) = true := bne_iff_ne.mpr c8
 by_cases c10 : a0 = 4
 ·rw [if_pos c10] at H
  have c10b0 : (a0 == 4) = true := beq_iff_eq.mpr c10
  have c10b1 : (a0 != 4) = false := bne_eq_false_iff_eq.mpr c10
  clear c10
  by_cases c11 : a2 = 0
  ·rw [if_pos c11] at H
   have c11b0 : (a2 == 0) = true := beq_iff_eq.mpr c11
   have c11b1 : (a2 != 0) = false := bne_eq_false_iff_eq.mpr c11
   clear c11
   obtain rfl := Option.some.inj H
   go_enter Try.func103, Try.ntmps103
   go_wp2
   go_ret
   exact ⟨by first | rfl | (simp; done) | (simp [*]; done), by repeat (first | exact Drawn0.refl _ | apply Drawn0.step)⟩
  rw [if_neg c11] at H
  have c11b0 : (a2 == 0) = false := beq_eq_false_iff_ne.mpr c11
  have c11b1 : (a2 != 0) = true := bne_iff_ne.mpr c11
  obtain rfl := Option.some.inj H
  go_enter Try.func103, Try.ntmps103
  go_wp2
  go_ret
  exact ⟨by first | rfl | (simp; done) | (simp [*]; done), by repeat (first | exact Drawn0.refl _ | apply Drawn0.step)⟩
 rw [if_neg c10] at H
 have c10b0 : (a0 == 4) = false := beq_eq_false_iff_ne.mpr c10
 have c10b1 : (a0 != 4) = true := bne_iff_ne.mpr c10
 by_cases c12 : a0 = 5
 ·rw [if_pos c12] at H
  have c12b0 : (a0 == 5) = true := beq_iff_eq.mpr c12
  have c12b1 : (a0 != 5) = false := bne_eq_false_iff_eq.mpr c12
  clear c12
  by_cases c13 : a2 = 0
  ·rw [if_pos c13] at H
   have c13b0 : (a2 == 0) = true := beq_iff_eq.mpr c13
   have c13b1 : (a2 != 0) = false := bne_eq_false_iff_eq.mpr c13
   clear c13
   obtain rfl := Option.some.inj H
   go_enter Try.func103, Try.ntmps103
   go_wp2
   go_ret
   exact ⟨by first | rfl | (simp; done) | (simp [*]; done), by repeat (first | exact Drawn0.refl _ | apply Drawn0.step)⟩
  rw [if_neg c13] at H
  have c13b0 : (a2 == 0) = false := beq_eq_false_iff_ne.mpr c13
  have c13b1 : (a2 != 0) = true := bne_iff_ne.mpr c13
  obtain rfl := Option.some.inj H
  go_enter Try.func103, Try.ntmps103
  go_wp2
  go_ret
  exact ⟨by first | rfl | (simp; done) | (simp [*]; done), by repeat (first | exact Drawn0.refl _ | apply Drawn0.step)⟩
 rw [if_neg c12] at H
 have c12b0 : (a0 == 5) = false := beq_eq_false_iff_ne.mpr c12
 have c12b1 : (a0 != 5) = true := bne_iff_ne.mpr c12
 by_cases c14 : a0 = 6
 ·rw [if_pos c14] at H
  have c14b0 : (a0 == 6) = true := beq_iff_eq.mpr c14
  have c14b1 : (a0 != 6) = false := bne_eq_false_iff_eq.mpr c14
  clear c14
  obtain rfl := Option.some.inj H
  go_enter Try.func103, Try.ntmps103
  go_wp2
  go_ret
  exact ⟨by first | rfl | (simp; done) | (simp [*]; done), by repeat (first | exact Drawn0.refl _ | apply Drawn0.step)⟩
 rw [if_neg c14] at H
 have c14b0 : (a0 == 6) = false := beq_eq_false_iff_ne.mpr c14
 have c14b1 : (a0 != 6) = true := bne_iff_ne.mpr c14
 by_cases c15 : a0 = 7
 ·rw [if_pos c15] at H
  have c15b0 : (a0 == 7) = true := beq_iff_eq.mpr c15
  have c15b1 : (a0 != 7) = false := bne_eq_false_iff_eq.mpr c15
  clear c15
  obtain rfl := Option.some.inj H
  go_enter Try.func103, Try.ntmps103
  go_wp2
  go_ret
  exact ⟨by first | rfl | (simp; done) | (simp [*]; done), by repeat (first | exact Drawn0.refl _ | apply Drawn0.step)⟩
 rw [if_neg c15] at H
 have c15b0 : (a0 == 7) = false := beq_eq_false_iff_ne.mpr c15
 have c15b1 : (a0 != 7) = true := bne_iff_ne.mpr c15
 by_cases c16 : a0 = 8
 ·rw [if_pos c16] at H
  have c16b0 : (a0 == 8) = true := beq_iff_eq.mpr c16
  have c16b1 : (a0 != 8) = false := bne_eq_false_iff_eq.mpr c16
  clear c16
  obtain rfl := Option.some.inj H
  go_enter Try.func103, Try.ntmps103
  go_wp2
  go_ret
  exact ⟨by first | rfl | (simp; done) | (simp [*]; done), by repeat (first | exact Drawn0.refl _ | apply Drawn0.step)⟩
 rw [if_neg c16] at H
 have c16b0 : (a0 == 8) = false := beq_eq_false_iff_ne.mpr c16
 have c16b1 : (a0 != 8) = true := bne_iff_ne.mpr c16
 by_cases c17 : a0 = 9
 ·rw [if_pos c17] at H
  have c17b0 : (a0 == 9) = true := beq_iff_eq.mpr c17
  have c17b1 : (a0 != 9) = false := bne_eq_false_iff_eq.mpr c17
  clear c17
  obtain ⟨ji18, hji18⟩ : ∃ j_ : Int, (Int.tmod a2 16) = j_ := ⟨_, rfl⟩
  replace H : (if 0 ≤ (ji18) then ((impl_WordOf.f (shl .i64 a1 (ji18))).bind fun t250 => (some t250)) else (none)) = some r := by first | (rw [hji18] at H; exact H) | (simp only [hji18] at H ⊢; exact H)
  by_cases c19 : 0 ≤ (ji18)
  ·rw [if_pos c19] at H
   have c19b0 := eq_true c19
   have c19b1 : decide (0 ≤ (ji18)) = true := decide_eq_true c19
   clear c19
   obtain ⟨ji20, hji20⟩ : ∃ j_ : Int, (shl .i64 a1 (ji18)) = j_ := ⟨_, rfl⟩
   replace H : ((impl_WordOf.f (ji20)).bind fun t250 => (some t250)) = some r := by first | (rw [hji20] at H; exact H) | (simp only [hji20] at H ⊢; exact H)
   have hji20_ : (IntKind.i64.wrap (a1 * 2 ^ min (ji18).toNat 64)) = ji20 := hji20
   have hji20z : (ji18) ≤ 64 → (IntKind.i64.wrap (a1 * 2 ^ (ji18).toNat)) = ji20 := shl_small hji20
   have hji20y : (wrap64 (a1 * 2 ^ min (ji18).toNat 64)) = ji20 := (i64_w _).symm.trans hji20_
   have hji20x : (ji18) ≤ 64 → (wrap64 (a1 * 2 ^ (ji18).toNat)) = ji20 := fun h_ => (i64_w _).symm.trans (hji20z h_)
   replace H := Option.bind_eq_some_iff.mp H
   obtain ⟨t250, A210, H⟩ := H
   (try dsimp only at H)
   have A21 := Aside0.mk A210
   clear A210
   obtain rfl := Option.some.inj H
   go_enter Try.func103, Try.ntmps103
   go_wp2_with (first | ((with_reducible refine gate_callee (f := 105) rfl ?_); refine goesL_ (some 62) rfl rfl Try.func105 (by kernel_rfl) rfl #[.int .i64 ji20] rfl (by (try simp only [List.map_toArray, List.map_cons, List.map_nil]); first | done | (simp only [hji20]; rfl) | rfl | (simp only [List.length_drop, List.length_take]; rfl)) ?_; (with_reducible refine (impl_WordOf.calls ji20 t250 _ A21.out).mono ?_); rintro e w' ⟨rfl, ⟨nd, rfl⟩⟩; refine ⟨_, rfl, ?_⟩))
   go_ret
   exact ⟨by first | rfl | (simp; done) | (simp only [← hji18, ← hji20] <;> (first | rfl | simp)) | (simp [*]; done), by repeat (first | exact Drawn0.refl _ | apply Drawn0.step)⟩
  rw [if_neg c19] at H
  exact absurd H (by simp)
 rw [if_neg c17] at H
 have c17b0 : (a0 == 9) = false := beq_eq_false_iff_ne.mpr c17
 have c17b1 : (a0 != 9) = true := bne_iff_ne.mpr c17
 obtain ⟨ji22, hji22⟩ : ∃ j_ : Int, (Int.tmod a2 16) = j_ := ⟨_, rfl⟩
 replace H : (if 0 ≤ (ji22) then (some (shr .i64 a1 (ji22))) else (none)) = some r := by first | (rw [hji22] at H; exact H) | (simp only [hji22] at H ⊢; exact H)
 by_cases c23 : 0 ≤ (ji22)
 ·rw [if_pos c23] at H
  have c23b0 := eq_true c23
  have c23b1 : decide (0 ≤ (ji22)) = true := decide_eq_true c23
  clear c23
  obtain ⟨ji24, hji24⟩ : ∃ j_ : Int, (shr .i64 a1 (ji22)) = j_ := ⟨_, rfl⟩
  replace H : (some ji24) = some r := by first | (rw [hji24] at H; exact H) | (simp only [hji24] at H ⊢; exact H)
  have hji24_ : (a1 / 2 ^ min (ji22).toNat 64) = ji24 := hji24
  have hji24z : (ji22) ≤ 64 → (a1 / 2 ^ (ji22).toNat) = ji24 := shr_small hji24
  obtain rfl := Option.some.inj H
  go_enter Try.func103, Try.ntmps103
  go_wp2
  go_ret
  exact ⟨by first | rfl | (simp; done) | (simp only [← hji22, ← hji24] <;> (first | rfl | simp)) | (simp [*]; done), by repeat (first | exact Drawn0.refl _ | apply Drawn0.step)⟩
 rw [if_neg c23] at H
 exact absurd H (by simp)
end Go.Proofs.Ytjopmdogdmdanaa.PFnExactTraceOf
-- squeezed
