-- Made by a program of this session (wip/tools), which leans on the kit's print: checked by Lean alone.
import Derived.Test.YtpkbjgmeejlchaaPFnProgramx0
import Derived.Test.YtpkbjgmeejlchaaPFnProgramx7
import Derived.Test.YtpkbjgmeejlchaaPFnProgramx8
namespace Go.Proofs.Ytpkbjgmeejlchaa.PFnProgram
open Go.RowKit Go.Proofs.YtpkbjgmeejlchaaW.PrintWords Go.Proofs.YtpkbjgmeejlchaaW.PrintLast Go.Proofs.YtpkbjgmeejlchaaW.PrintMore
attribute [local go_sem] max2_int min2_int max_two min_two max_three min_three max_four min_four   -- for this text's walks alone
set_option linter.unusedVariables false
set_option linter.unusedSimpArgs false
mutual
def spec_ReadProgram.l0 : Nat → ByteArray → List (S48) → Int → Option ((List (S48)) × Int × Bool)
 | 0, _, _, _ => none
 | k + 1, x0, x5, x6 => if x6 < (x0.size : Int) then (if (wrap64 ((x0.size : Int) - x6)) < 4 then (some (([] : List (S48)), 1, false)) else (if 0 ≤ x6 then (if 0 ≤ (wrap64 (x6 + 1)) then (if (wrap64 (x6 + 1)) < (x0.size : Int) then (if 0 ≤ (wrap64 (x6 + 2)) then (if (wrap64 (x6 + 2)) < (x0.size : Int) then (if 0 ≤ (wrap64 (x6 + 3)) then (if (wrap64 (x6 + 3)) < (x0.size : Int) then (if (Int.tmod (wrap64 (bt x0 x6)) 16) = 4 then (if (wrap64 ((x0.size : Int) - x6)) < 8 then (some (([] : List (S48)), 1, false)) else (if 0 ≤ (wrap64 (x6 + 7)) then (if (wrap64 (x6 + 7)) < (x0.size : Int) then (spec_ReadProgram.j1 k x0 x5 x6 8 (Int.tmod (wrap64 (bt x0 x6)) 16) (wrap64 (Int.tdiv (wrap64 (bt x0 x6)) 16)) (wrap64 (Int.tdiv (wrap64 (bt x0 (wrap64 (x6 + 1)))) 16)) (Int.tmod (wrap64 (bt x0 (wrap64 (x6 + 1)))) 16) (wrap64 ((wrap64 (bt x0 (wrap64 (x6 + 3)))) + (wrap64 (256 * (wrap64 (bt x0 (wrap64 (x6 + 7)))))))) (wrap64 (bt x0 (wrap64 (x6 + 2))))) else (none)) else (none))) else (spec_ReadProgram.j1 k x0 x5 x6 4 (Int.tmod (wrap64 (bt x0 x6)) 16) (wrap64 (Int.tdiv (wrap64 (bt x0 x6)) 16)) (wrap64 (Int.tdiv (wrap64 (bt x0 (wrap64 (x6 + 1)))) 16)) (Int.tmod (wrap64 (bt x0 (wrap64 (x6 + 1)))) 16) (wrap64 (bt x0 (wrap64 (x6 + 3)))) (wrap64 (bt x0 (wrap64 (x6 + 2)))))) else (none)) else (none)) else (none)) else (none)) else (none)) else (none)) else (none))) else ((spec_GoodProgram.f k x5).bind fun t350 => (if t350 = true then (some (x5, 0, true)) else (some (([] : List (S48)), 3, false))))
def spec_ReadProgram.j1 : Nat → ByteArray → List (S48) → Int → Int → Int → Int → Int → Int → Int → Int → Option ((List (S48)) × Int × Bool)
 | 0, _, _, _, _, _, _, _, _, _, _ => none
 | k + 1, x0, x5, x6, x8, x352000, x352001, x352002, x352003, x352004, x352005 => (spec_l2Step.f k x352000 x352001 x352002 x352003 x352004 x352005).bind fun t352 => (if t352 = true then ((spec_l2Bytes.f x352000 x352001 x352002 x352003 x352004 x352005).bind fun t353 => (if 0 ≤ x6 then (if x6 ≤ (wrap64 (x6 + x8)) then (if (wrap64 (x6 + x8)) ≤ (x0.size : Int) then (if t353.toList = (x0.extract (x6 : Int).toNat ((wrap64 (x6 + x8)) : Int).toNat).toList then (if x5.length < 2932031007402 then (spec_ReadProgram.l0 k x0 (x5 ++ [(⟨x352000, x352001, x352002, x352003, x352004, x352005⟩ : S48)]) (wrap64 (x6 + x8))) else (none)) else (some (([] : List (S48)), 2, false))) else (none)) else (none)) else (none))) else (some (([] : List (S48)), 2, false)))
end
def spec_ReadProgram.f (k : Nat) (a0 : ByteArray) : Option ((List (S48)) × Int × Bool) := if (a0.size : Int) > 160 then (some (([] : List (S48)), 0, false)) else (spec_ReadProgram.l0 k a0 ([] : List (S48)) 0)
theorem spec_ReadProgram.mono_l : ∀ k, (∀ y0 y1 y2, LeO (spec_ReadProgram.l0 k y0 y1 y2) (spec_ReadProgram.l0 (k + 1) y0 y1 y2)) ∧ (∀ y0 y1 y2 y3 y4 y5 y6 y7 y8 y9, LeO (spec_ReadProgram.j1 k y0 y1 y2 y3 y4 y5 y6 y7 y8 y9) (spec_ReadProgram.j1 (k + 1) y0 y1 y2 y3 y4 y5 y6 y7 y8 y9))
 | 0 => ⟨fun _ _ _ r h => by simp [spec_ReadProgram.l0] at h, fun _ _ _ _ _ _ _ _ _ _ r h => by simp [spec_ReadProgram.j1] at h⟩
 | k + 1 => by
  obtain ⟨ih0, ih1⟩ := spec_ReadProgram.mono_l k
  refine ⟨?_, ?_⟩
  ·intro y0 y1 y2
   unfold spec_ReadProgram.l0
   repeat' first
   | (with_reducible exact ih0 _ _ _)
   | (with_reducible exact ih1 _ _ _ _ _ _ _ _ _ _)
   | (with_reducible exact spec_GoodProgram.mono _ _)
   | (with_reducible exact spec_l2Step.mono _ _ _ _ _ _ _)
   | (with_reducible exact LeO.refl _)
   | (with_reducible exact LeO.none _)
   | (with_reducible refine LeO.ite ?_ ?_)
   | (with_reducible refine LeO.bind ?_ (fun _ => ?_))
   | exact ih0 _ _ _
   | exact ih1 _ _ _ _ _ _ _ _ _ _
   | exact spec_GoodProgram.mono _ _
   | exact spec_l2Step.mono _ _ _ _ _ _ _
   | exact LeO.none _
   | refine LeO.ite ?_ ?_
   | refine LeO.bind ?_ (fun _ => ?_)
  ·intro y0 y1 y2 y3 y4 y5 y6 y7 y8 y9
   unfold spec_ReadProgram.j1
   repeat' first
   | (with_reducible exact ih0 _ _ _)
   | (with_reducible exact ih1 _ _ _ _ _ _ _ _ _ _)
   | (with_reducible exact spec_GoodProgram.mono _ _)
   | (with_reducible exact spec_l2Step.mono _ _ _ _ _ _ _)
   | (with_reducible exact LeO.refl _)
   | (with_reducible exact LeO.none _)
   | (with_reducible refine LeO.ite ?_ ?_)
   | (with_reducible refine LeO.bind ?_ (fun _ => ?_))
   | exact ih0 _ _ _
   | exact ih1 _ _ _ _ _ _ _ _ _ _
   | exact spec_GoodProgram.mono _ _
   | exact spec_l2Step.mono _ _ _ _ _ _ _
   | exact LeO.none _
   | refine LeO.ite ?_ ?_
   | refine LeO.bind ?_ (fun _ => ?_)
theorem spec_ReadProgram.mono : ∀ a0 k, LeO (spec_ReadProgram.f k a0) (spec_ReadProgram.f (k + 1) a0) := by
 intro a0 k
 obtain ⟨ih0, ih1⟩ := spec_ReadProgram.mono_l k
 unfold spec_ReadProgram.f
 repeat' first
   | (with_reducible exact ih0 _ _ _)
   | (with_reducible exact ih1 _ _ _ _ _ _ _ _ _ _)
   | (with_reducible exact spec_GoodProgram.mono _ _)
   | (with_reducible exact spec_l2Step.mono _ _ _ _ _ _ _)
   | (with_reducible exact LeO.refl _)
   | (with_reducible exact LeO.none _)
   | (with_reducible refine LeO.ite ?_ ?_)
   | (with_reducible refine LeO.bind ?_ (fun _ => ?_))
   | exact ih0 _ _ _
   | exact ih1 _ _ _ _ _ _ _ _ _ _
   | exact spec_GoodProgram.mono _ _
   | exact spec_l2Step.mono _ _ _ _ _ _ _
   | exact LeO.none _
   | refine LeO.ite ?_ ?_
   | refine LeO.bind ?_ (fun _ => ?_)
def spec_ReadProgram.T8 : Bool × List (List Nat × List Nat) := (true, [([], []), ([], []), ([0, 1], [0, 1]), ([2], [2]), ([3], [3]), ([], []), ([], []), ([5, 6], [5, 6]), ([7], [7]), ([8], [8]), ([], []), ([], []), ([11], [11]), ([10, 12], [10, 12]), ([13], [13]), ([14], [14]), ([], []), ([], []), ([17], [17]), ([16, 18], [16, 18]), ([19], [19]), ([20], [20]), ([], []), ([], []), ([23], [23]), ([22, 24], [22, 24]), ([25], [25]), ([], []), ([], []), ([28], [28]), ([27, 29], [27, 29]), ([30], [30]), ([4, 9, 15, 21, 26, 31], [4, 9, 15, 21, 26, 31]), ([], []), ([33, 32, 0, 1, 2, 3, 4, 5, 6, 7, 8, 9, 10, 11, 12, 13, 14, 15, 16, 17, 18, 19, 20, 21, 22, 23, 24, 25, 26, 27, 28, 29, 30, 31, 32, 33], [32, 33])])
def spec_ReadProgram.B8 : List Nat := [0, 0, 3, 7, 15, 0, 0, 96, 224, 480, 0, 0, 2048, 7168, 15360, 31744, 0, 0, 131072, 458752, 983040, 2031616, 0, 0, 8388608, 29360128, 62914560, 0, 0, 268435456, 939524096, 2013265920, 4294967295, 0, 17179869183]
theorem spec_ReadProgram.tab8 : rtab .any (opsOf Try.f38 8) = spec_ReadProgram.T8 := by kernel_rfl
theorem spec_ReadProgram.bits8 : waitsOk spec_ReadProgram.T8.2 spec_ReadProgram.B8 = true := by kernel_rfl
def spec_ReadProgram.T14 : Bool × List (List Nat × List Nat) := (true, [([], []), ([0], [0]), ([], []), ([], []), ([3], [3]), ([2, 4], [2, 4]), ([5], [5]), ([6], [6]), ([1, 7], [1, 7]), ([0, 1, 2, 3, 4, 5, 6, 7, 8], []), ([9, 8, 0, 1, 2, 3, 4, 5, 6, 7, 8], [8, 9])])
def spec_ReadProgram.B14 : List Nat := [0, 1, 0, 0, 8, 28, 60, 124, 255, 511, 1023]
theorem spec_ReadProgram.tab14 : rtab .any (opsOf Try.f38 14) = spec_ReadProgram.T14 := by kernel_rfl
theorem spec_ReadProgram.bits14 : waitsOk spec_ReadProgram.T14.2 spec_ReadProgram.B14 = true := by kernel_rfl
def spec_ReadProgram.T15 : Bool × List (List Nat × List Nat) := (true, [([], []), ([0], [0]), ([1], [1]), ([2, 1], [2]), ([3], [3]), ([4, 3, 3], [3, 4]), ([3], [3]), ([3], [3]), ([3], [3]), ([3], [3]), ([8, 9, 3], [3, 8, 9]), ([6, 7, 10, 3], [3, 6, 7, 10]), ([5, 11, 3], [3, 5, 11]), ([3, 12], [3, 12])])
def spec_ReadProgram.B15 : List Nat := [0, 1, 3, 7, 15, 31, 15, 15, 15, 15, 783, 1999, 4095, 8191]
theorem spec_ReadProgram.tab15 : rtab .any (opsOf Try.f38 15) = spec_ReadProgram.T15 := by kernel_rfl
theorem spec_ReadProgram.bits15 : waitsOk spec_ReadProgram.T15.2 spec_ReadProgram.B15 = true := by kernel_rfl
set_option maxHeartbeats 8000000 in
set_option maxRecDepth 100000 in
theorem spec_ReadProgram.calls (k : Nat) (a0 : ByteArray) (r1 : List (S48)) (r2 : Int) (r3 : Bool) (w : World) (h : spec_ReadProgram.f k a0 = some (r1, r2, r3)) :
  Calls Try.prog 38 #[.string a0] w fun e w' => ∃ v0_ : Value, e = .returned (.tuple #[v0_, .int .i64 r2, .bool r3]) ∧ Kd.R k48 48 w' w.heap.size (fun _ => True) v0_ r1 ∧ Below w.heap.size w w' := by
 have hu48 := Try.underlying48
 have HB := Aside0.mk (Below.refl w.heap.size w)
 have H : (if (a0.size : Int) > 160 then (some (([] : List (S48)), 0, false)) else (spec_ReadProgram.l0 k a0 ([] : List (S48)) 0)) = some (r1, r2, r3) := h
 clear h
 by_cases c2 : (a0.size : Int) > 160
 ·rw [if_pos c2] at H
  have c2b0 : decide (160 < (a0.size : Int)) = true := decide_eq_true c2
  have c2b1 : decide (160 < a0.size) = true := decide_eq_true (by omega)
  clear c2
  simp only [Option.some.injEq, Prod.mk.injEq] at H
  obtain ⟨rfl, rfl, rfl⟩ := H
  go_enter Try.func38, Try.ntmps38
  go_wp2
  go_ret3
  exact ⟨_, by first | rfl | (simp [errW_none, errW_some] <;> rfl) | (simp [*, errW_none, errW_some] <;> rfl), by first | exact Kd.R_nil _ _ _ _ _ | exact Kd.N_nil _ _ _ _ _ | exact Kd.V_nil _ _ _ _ _ | exact Kd.Q_nil _ _ _ _ _ | exact Kd.S_nil _ _ _ _ _, zb_ HB.out⟩
 ·rw [if_neg c2] at H
  have c2b0 : decide (160 < (a0.size : Int)) = false := decide_eq_false c2
  have c2b1 : decide (160 < a0.size) = false := decide_eq_false (by omega)
  clear c2
  have H' := Aside0.mk H
  clear H
  go_enter Try.func38, Try.ntmps38
  go_wp2
  go_loopg [5, 6] k (fun kq v5 v6 w' => ∃ (x5_1 : List (S48)) (x6_1 : Int), v6 = .int .i64 x6_1 ∧ Aside0 (spec_ReadProgram.l0 kq a0 x5_1 x6_1 = some (r1, r2, r3)) ∧ Aside0 (kq ≤ k) ∧ Aside0 (Kd.R k48 48 w' w.heap.size (fun _ => True) v5 x5_1) ∧ Aside0 (Below w.heap.size w w'))
  case atStart => exact ⟨(([] : List (S48))), (0), (by first | rfl | (simp; done) | (simp [*]; done)), H', ⟨Nat.le_refl _⟩, ⟨by first | exact Kd.R_nil _ _ _ _ _ | exact Kd.N_nil _ _ _ _ _ | exact Kd.V_nil _ _ _ _ _ | exact Kd.Q_nil _ _ _ _ _ | exact Kd.S_nil _ _ _ _ _⟩, ⟨zb_ HB.out⟩⟩
  case round =>
   clear H'
   try clear c2
   try clear c2b0
   try clear c2b1
   try clear p2
   obtain ⟨x5_1, x6_1, rfl, HA, HK1, HO_5, HB⟩ := hrel
   cases gk with
   | zero => exact absurd HA.out (by simp [spec_ReadProgram.l0])
   | succ k1 =>
    have H := HA.out
    clear HA
    simp only [spec_ReadProgram.l0] at H
    by_cases c3 : x6_1 < (a0.size : Int)
    ·rw [if_pos c3] at H
     have c3b0 : decide (x6_1 < (a0.size : Int)) = true := decide_eq_true c3
     clear c3
     by_cases c4 : (wrap64 ((a0.size : Int) - x6_1)) < 4
     ·rw [if_pos c4] at H
      have c4b0 : decide ((wrap64 ((a0.size : Int) - x6_1)) < 4) = true := decide_eq_true c4
      clear c4
      simp only [Option.some.injEq, Prod.mk.injEq] at H
      obtain ⟨rfl, rfl, rfl⟩ := H
      go_wp2
      go_ret3
      exact ⟨_, by first | rfl | (simp [errW_none, errW_some] <;> rfl) | (simp [*, errW_none, errW_some] <;> rfl), by first | exact Kd.R_nil _ _ _ _ _ | exact Kd.N_nil _ _ _ _ _ | exact Kd.V_nil _ _ _ _ _ | exact Kd.Q_nil _ _ _ _ _ | exact Kd.S_nil _ _ _ _ _, zb_ HB.out⟩
     ·rw [if_neg c4] at H
      have c4b0 : decide ((wrap64 ((a0.size : Int) - x6_1)) < 4) = false := decide_eq_false c4
      clear c4
      by_cases c5 : 0 ≤ x6_1
      ·rw [if_pos c5] at H
       have c5b0 : decide (0 ≤ x6_1) = true := decide_eq_true c5
       clear c5
       obtain ⟨ji8, hji8⟩ : ∃ j_ : Int, (wrap64 (x6_1 + 1)) = j_ := ⟨_, rfl⟩
       replace H : (if 0 ≤ (ji8) then (if (ji8) < (a0.size : Int) then (if 0 ≤ (wrap64 (x6_1 + 2)) then (if (wrap64 (x6_1 + 2)) < (a0.size : Int) then (if 0 ≤ (wrap64 (x6_1 + 3)) then (if (wrap64 (x6_1 + 3)) < (a0.size : Int) then (if (Int.tmod (wrap64 (bt a0 x6_1)) 16) = 4 then (if (wrap64 ((a0.size : Int) - x6_1)) < 8 then (some (([] : List (S48)), 1, false)) else (if 0 ≤ (wrap64 (x6_1 + 7)) then (if (wrap64 (x6_1 + 7)) < (a0.size : Int) then (spec_ReadProgram.j1 k1 a0 x5_1 x6_1 8 (Int.tmod (wrap64 (bt a0 x6_1)) 16) (wrap64 (Int.tdiv (wrap64 (bt a0 x6_1)) 16)) (wrap64 (Int.tdiv (wrap64 (bt a0 (ji8))) 16)) (Int.tmod (wrap64 (bt a0 (ji8))) 16) (wrap64 ((wrap64 (bt a0 (wrap64 (x6_1 + 3)))) + (wrap64 (256 * (wrap64 (bt a0 (wrap64 (x6_1 + 7)))))))) (wrap64 (bt a0 (wrap64 (x6_1 + 2))))) else (none)) else (none))) else (spec_ReadProgram.j1 k1 a0 x5_1 x6_1 4 (Int.tmod (wrap64 (bt a0 x6_1)) 16) (wrap64 (Int.tdiv (wrap64 (bt a0 x6_1)) 16)) (wrap64 (Int.tdiv (wrap64 (bt a0 (ji8))) 16)) (Int.tmod (wrap64 (bt a0 (ji8))) 16) (wrap64 (bt a0 (wrap64 (x6_1 + 3)))) (wrap64 (bt a0 (wrap64 (x6_1 + 2)))))) else (none)) else (none)) else (none)) else (none)) else (none)) else (none)) = some (r1, r2, r3) := by first | (rw [hji8] at H; exact H) | (simp only [hji8] at H ⊢; exact H)
       have hji8w : (IntKind.i64.wrap (x6_1 + 1)) = ji8 := (i64_w _).trans hji8
       by_cases c9 : 0 ≤ (ji8)
       ·rw [if_pos c9] at H
        have c9b0 : decide (0 ≤ (ji8)) = true := decide_eq_true c9
        clear c9
        by_cases c10 : (ji8) < (a0.size : Int)
        ·rw [if_pos c10] at H
         have c10b0 : decide ((ji8) < (a0.size : Int)) = true := decide_eq_true c10
         clear c10
         obtain ⟨ji13, hji13⟩ : ∃ j_ : Int, (wrap64 (x6_1 + 2)) = j_ := ⟨_, rfl⟩
         replace H : (if 0 ≤ (ji13) then (if (ji13) < (a0.size : Int) then (if 0 ≤ (wrap64 (x6_1 + 3)) then (if (wrap64 (x6_1 + 3)) < (a0.size : Int) then (if (Int.tmod (wrap64 (bt a0 x6_1)) 16) = 4 then (if (wrap64 ((a0.size : Int) - x6_1)) < 8 then (some (([] : List (S48)), 1, false)) else (if 0 ≤ (wrap64 (x6_1 + 7)) then (if (wrap64 (x6_1 + 7)) < (a0.size : Int) then (spec_ReadProgram.j1 k1 a0 x5_1 x6_1 8 (Int.tmod (wrap64 (bt a0 x6_1)) 16) (wrap64 (Int.tdiv (wrap64 (bt a0 x6_1)) 16)) (wrap64 (Int.tdiv (wrap64 (bt a0 (ji8))) 16)) (Int.tmod (wrap64 (bt a0 (ji8))) 16) (wrap64 ((wrap64 (bt a0 (wrap64 (x6_1 + 3)))) + (wrap64 (256 * (wrap64 (bt a0 (wrap64 (x6_1 + 7)))))))) (wrap64 (bt a0 (ji13)))) else (none)) else (none))) else (spec_ReadProgram.j1 k1 a0 x5_1 x6_1 4 (Int.tmod (wrap64 (bt a0 x6_1)) 16) (wrap64 (Int.tdiv (wrap64 (bt a0 x6_1)) 16)) (wrap64 (Int.tdiv (wrap64 (bt a0 (ji8))) 16)) (Int.tmod (wrap64 (bt a0 (ji8))) 16) (wrap64 (bt a0 (wrap64 (x6_1 + 3)))) (wrap64 (bt a0 (ji13))))) else (none)) else (none)) else (none)) else (none)) = some (r1, r2, r3) := by first | (rw [hji13] at H; exact H) | (simp only [hji13] at H ⊢; exact H)
         have hji13w : (IntKind.i64.wrap (x6_1 + 2)) = ji13 := (i64_w _).trans hji13
         by_cases c14 : 0 ≤ (ji13)
         ·rw [if_pos c14] at H
          have c14b0 : decide (0 ≤ (ji13)) = true := decide_eq_true c14
          clear c14
          by_cases c15 : (ji13) < (a0.size : Int)
          ·rw [if_pos c15] at H
           have c15b0 : decide ((ji13) < (a0.size : Int)) = true := decide_eq_true c15
           clear c15
           obtain ⟨ji17, hji17⟩ : ∃ j_ : Int, (wrap64 (x6_1 + 3)) = j_ := ⟨_, rfl⟩
           replace H : (if 0 ≤ (ji17) then (if (ji17) < (a0.size : Int) then (if (Int.tmod (wrap64 (bt a0 x6_1)) 16) = 4 then (if (wrap64 ((a0.size : Int) - x6_1)) < 8 then (some (([] : List (S48)), 1, false)) else (if 0 ≤ (wrap64 (x6_1 + 7)) then (if (wrap64 (x6_1 + 7)) < (a0.size : Int) then (spec_ReadProgram.j1 k1 a0 x5_1 x6_1 8 (Int.tmod (wrap64 (bt a0 x6_1)) 16) (wrap64 (Int.tdiv (wrap64 (bt a0 x6_1)) 16)) (wrap64 (Int.tdiv (wrap64 (bt a0 (ji8))) 16)) (Int.tmod (wrap64 (bt a0 (ji8))) 16) (wrap64 ((wrap64 (bt a0 (ji17))) + (wrap64 (256 * (wrap64 (bt a0 (wrap64 (x6_1 + 7)))))))) (wrap64 (bt a0 (ji13)))) else (none)) else (none))) else (spec_ReadProgram.j1 k1 a0 x5_1 x6_1 4 (Int.tmod (wrap64 (bt a0 x6_1)) 16) (wrap64 (Int.tdiv (wrap64 (bt a0 x6_1)) 16)) (wrap64 (Int.tdiv (wrap64 (bt a0 (ji8))) 16)) (Int.tmod (wrap64 (bt a0 (ji8))) 16) (wrap64 (bt a0 (ji17))) (wrap64 (bt a0 (ji13))))) else (none)) else (none)) = some (r1, r2, r3) := by first | (rw [hji17] at H; exact H) | (simp only [hji17] at H ⊢; exact H)
           have hji17w : (IntKind.i64.wrap (x6_1 + 3)) = ji17 := (i64_w _).trans hji17
           by_cases c18 : 0 ≤ (ji17)
           ·rw [if_pos c18] at H
            have c18b0 : decide (0 ≤ (ji17)) = true := decide_eq_true c18
            clear c18
            by_cases c19 : (ji17) < (a0.size : Int)
            ·rw [if_pos c19] at H
             have c19b0 : decide ((ji17) < (a0.size : Int)) = true := decide_eq_true c19
             clear c19
             have HC21 := Aside0.mk H
             clear H
             try go_wp2
             have n0_ := Aside0.mk (Kd.R_drew HO_5.out)
             have n1_ := Aside0.mk (below_drew1 HB.out)
             clear HO_5
             clear HB
             have HO_5 := n0_
             have HB := n1_
             clear n0_ n1_
             have p6 : 0 ≤ (x6_1 : Int) := of_decide_eq_true (by assumption)
             have q6 : x6_1 < (a0.size : Int) := of_decide_eq_true (by assumption)
             have hx6 := bt_at a0 x6_1
             replace p6 := eq_true p6
             replace q6 := eq_true q6
             have p7 : 0 ≤ (x6_1 : Int) := of_decide_eq_true (by assumption)
             have q7 : x6_1 < (a0.size : Int) := of_decide_eq_true (by assumption)
             have hx7 := bt_at a0 x6_1
             replace p7 := eq_true p7
             replace q7 := eq_true q7
             have p11 : 0 ≤ ((ji8) : Int) := of_decide_eq_true (by assumption)
             have q11 : (ji8) < (a0.size : Int) := of_decide_eq_true (by assumption)
             have hx11 := bt_at a0 (ji8)
             replace p11 := eq_true p11
             replace q11 := eq_true q11
             have p12 : 0 ≤ ((ji8) : Int) := of_decide_eq_true (by assumption)
             have q12 : (ji8) < (a0.size : Int) := of_decide_eq_true (by assumption)
             have hx12 := bt_at a0 (ji8)
             replace p12 := eq_true p12
             replace q12 := eq_true q12
             have p16 : 0 ≤ ((ji13) : Int) := of_decide_eq_true (by assumption)
             have q16 : (ji13) < (a0.size : Int) := of_decide_eq_true (by assumption)
             have hx16 := bt_at a0 (ji13)
             replace p16 := eq_true p16
             replace q16 := eq_true q16
             have p20 : 0 ≤ ((ji17) : Int) := of_decide_eq_true (by assumption)
             have q20 : (ji17) < (a0.size : Int) := of_decide_eq_true (by assumption)
             have hx20 := bt_at a0 (ji17)
             replace p20 := eq_true p20
             replace q20 := eq_true q20
             refine start_ (n := 35) (S := fun w' => True) (ds := []) #[false, false, false, false, false, false, false, false, false, false, false, false, false, false, false, false, false, false, false, false, false, false, false, false, false, false, false, false, false, false, false, false, false, false, false] (by kernel_rfl) rfl rfl trivial (fun hHeld => ?_); refine with_tabW spec_ReadProgram.tab8 spec_ReadProgram.bits8 (fun HT_ HW_ => ?_)
             generalize wr.drew = w22 at HO_5 HB hHeld ⊢
             refine pure_ (i := 0) (N := some 21) (v := ?_) (a' := ?_) #[true, false, false, false, false, false, false, false, false, false, false, false, false, false, false, false, false, false, false, false, false, false, false, false, false, false, false, false, false, false, false, false, false, false, false] rfl rfl (any_of HT_.out (by kernel_rfl)) (fun _ _ _ h => h) (Or.inl ⟨by rfl, ?_⟩) ?_ ?_
             rotate_left
             ·intro w'
              go_simp
              with_reducible rfl
             rotate_left
             ·simp only [Act.put, List.setIfInBounds_toArray, List.set_cons_zero, List.set_cons_succ, i64_w, i32_w]
              rfl
             refine pure_ (i := 1) (N := some 22) (v := ?_) (a' := ?_) #[true, true, false, false, false, false, false, false, false, false, false, false, false, false, false, false, false, false, false, false, false, false, false, false, false, false, false, false, false, false, false, false, false, false, false] rfl rfl (any_of HT_.out (by kernel_rfl)) (fun _ _ _ h => h) (Or.inl ⟨by rfl, ?_⟩) ?_ ?_
             rotate_left
             ·intro w'
              go_simp
              with_reducible rfl
             rotate_left
             ·simp only [Act.put, List.setIfInBounds_toArray, List.set_cons_zero, List.set_cons_succ, i64_w, i32_w]
              rfl
             refine pure_ (i := 5) (N := some 26) (v := ?_) (a' := ?_) #[true, true, false, false, false, true, false, false, false, false, false, false, false, false, false, false, false, false, false, false, false, false, false, false, false, false, false, false, false, false, false, false, false, false, false] rfl rfl (any_of HT_.out (by kernel_rfl)) (fun _ _ _ h => h) (Or.inl ⟨by rfl, ?_⟩) ?_ ?_
             rotate_left
             ·intro w'
              go_simp
              with_reducible rfl
             rotate_left
             ·simp only [Act.put, List.setIfInBounds_toArray, List.set_cons_zero, List.set_cons_succ, i64_w, i32_w]
              rfl
             refine pure_ (i := 6) (N := some 27) (v := ?_) (a' := ?_) #[true, true, false, false, false, true, true, false, false, false, false, false, false, false, false, false, false, false, false, false, false, false, false, false, false, false, false, false, false, false, false, false, false, false, false] rfl rfl (any_of HT_.out (by kernel_rfl)) (fun _ _ _ h => h) (Or.inl ⟨by rfl, ?_⟩) ?_ ?_
             rotate_left
             ·intro w'
              go_simp
              with_reducible rfl
             rotate_left
             ·simp only [Act.put, List.setIfInBounds_toArray, List.set_cons_zero, List.set_cons_succ, i64_w, i32_w]
              rfl
             refine pure_ (i := 10) (N := some 31) (v := ?_) (a' := ?_) #[true, true, false, false, false, true, true, false, false, false, true, false, false, false, false, false, false, false, false, false, false, false, false, false, false, false, false, false, false, false, false, false, false, false, false] rfl rfl (any_of HT_.out (by kernel_rfl)) (fun _ _ _ h => h) (Or.inl ⟨by rfl, ?_⟩) ?_ ?_
             rotate_left
             ·intro w'
              go_simp
              with_reducible rfl
             rotate_left
             ·simp only [Act.put, List.setIfInBounds_toArray, List.set_cons_zero, List.set_cons_succ, i64_w, i32_w]
              rfl
             refine pure_ (i := 11) (N := some 32) (v := ?_) (a' := ?_) #[true, true, false, false, false, true, true, false, false, false, true, true, false, false, false, false, false, false, false, false, false, false, false, false, false, false, false, false, false, false, false, false, false, false, false] rfl rfl (any_of HT_.out (by kernel_rfl)) (fun _ _ _ h => h) (Or.inl ⟨by rfl, ?_⟩) ?_ ?_
             rotate_left
             ·intro w'
              go_simp
              with_reducible rfl
             rotate_left
             ·simp only [Act.put, List.setIfInBounds_toArray, List.set_cons_zero, List.set_cons_succ, i64_w, i32_w]
              rfl
             refine pure_ (i := 12) (N := some 33) (v := ?_) (a' := ?_) #[true, true, false, false, false, true, true, false, false, false, true, true, true, false, false, false, false, false, false, false, false, false, false, false, false, false, false, false, false, false, false, false, false, false, false] rfl rfl (any_of HT_.out (by kernel_rfl)) (fun _ _ _ h => h) (Or.inl ⟨by rfl, ?_⟩) ?_ ?_
             rotate_left
             ·intro w'
              go_simp
              with_reducible rfl
             rotate_left
             ·simp only [Act.put, List.setIfInBounds_toArray, List.set_cons_zero, List.set_cons_succ, i64_w, i32_w]
              rfl
             refine pure_ (i := 16) (N := some 37) (v := ?_) (a' := ?_) #[true, true, false, false, false, true, true, false, false, false, true, true, true, false, false, false, true, false, false, false, false, false, false, false, false, false, false, false, false, false, false, false, false, false, false] rfl rfl (any_of HT_.out (by kernel_rfl)) (fun _ _ _ h => h) (Or.inl ⟨by rfl, ?_⟩) ?_ ?_
             rotate_left
             ·intro w'
              go_simp
              with_reducible rfl
             rotate_left
             ·simp only [Act.put, List.setIfInBounds_toArray, List.set_cons_zero, List.set_cons_succ, i64_w, i32_w]
              rfl
             refine pure_ (i := 17) (N := some 38) (v := ?_) (a' := ?_) #[true, true, false, false, false, true, true, false, false, false, true, true, true, false, false, false, true, true, false, false, false, false, false, false, false, false, false, false, false, false, false, false, false, false, false] rfl rfl (any_of HT_.out (by kernel_rfl)) (fun _ _ _ h => h) (Or.inl ⟨by rfl, ?_⟩) ?_ ?_
             rotate_left
             ·intro w'
              go_simp
              with_reducible rfl
             rotate_left
             ·simp only [Act.put, List.setIfInBounds_toArray, List.set_cons_zero, List.set_cons_succ, i64_w, i32_w]
              rfl
             refine pure_ (i := 18) (N := some 39) (v := ?_) (a' := ?_) #[true, true, false, false, false, true, true, false, false, false, true, true, true, false, false, false, true, true, true, false, false, false, false, false, false, false, false, false, false, false, false, false, false, false, false] rfl rfl (any_of HT_.out (by kernel_rfl)) (fun _ _ _ h => h) (Or.inl ⟨by rfl, ?_⟩) ?_ ?_
             rotate_left
             ·intro w'
              go_simp
              with_reducible rfl
             rotate_left
             ·simp only [Act.put, List.setIfInBounds_toArray, List.set_cons_zero, List.set_cons_succ, i64_w, i32_w]
              rfl
             refine pure_ (i := 22) (N := some 43) (v := ?_) (a' := ?_) #[true, true, false, false, false, true, true, false, false, false, true, true, true, false, false, false, true, true, true, false, false, false, true, false, false, false, false, false, false, false, false, false, false, false, false] rfl rfl (any_of HT_.out (by kernel_rfl)) (fun _ _ _ h => h) (Or.inl ⟨by rfl, ?_⟩) ?_ ?_
             rotate_left
             ·intro w'
              go_simp
              with_reducible rfl
             rotate_left
             ·simp only [Act.put, List.setIfInBounds_toArray, List.set_cons_zero, List.set_cons_succ, i64_w, i32_w]
              rfl
             refine pure_ (i := 23) (N := some 44) (v := ?_) (a' := ?_) #[true, true, false, false, false, true, true, false, false, false, true, true, true, false, false, false, true, true, true, false, false, false, true, true, false, false, false, false, false, false, false, false, false, false, false] rfl rfl (any_of HT_.out (by kernel_rfl)) (fun _ _ _ h => h) (Or.inl ⟨by rfl, ?_⟩) ?_ ?_
             rotate_left
             ·intro w'
              go_simp
              with_reducible rfl
             rotate_left
             ·simp only [Act.put, List.setIfInBounds_toArray, List.set_cons_zero, List.set_cons_succ, i64_w, i32_w]
              rfl
             refine pure_ (i := 24) (N := some 45) (v := ?_) (a' := ?_) #[true, true, false, false, false, true, true, false, false, false, true, true, true, false, false, false, true, true, true, false, false, false, true, true, true, false, false, false, false, false, false, false, false, false, false] rfl rfl (any_of HT_.out (by kernel_rfl)) (fun _ _ _ h => h) (Or.inl ⟨by rfl, ?_⟩) ?_ ?_
             rotate_left
             ·intro w'
              go_simp
              with_reducible rfl
             rotate_left
             ·simp only [Act.put, List.setIfInBounds_toArray, List.set_cons_zero, List.set_cons_succ, i64_w, i32_w]
              rfl
             refine pure_ (i := 27) (N := some 48) (v := ?_) (a' := ?_) #[true, true, false, false, false, true, true, false, false, false, true, true, true, false, false, false, true, true, true, false, false, false, true, true, true, false, false, true, false, false, false, false, false, false, false] rfl rfl (any_of HT_.out (by kernel_rfl)) (fun _ _ _ h => h) (Or.inl ⟨by rfl, ?_⟩) ?_ ?_
             rotate_left
             ·intro w'
              go_simp
              with_reducible rfl
             rotate_left
             ·simp only [Act.put, List.setIfInBounds_toArray, List.set_cons_zero, List.set_cons_succ, i64_w, i32_w]
              rfl
             refine pure_ (i := 28) (N := some 49) (v := ?_) (a' := ?_) #[true, true, false, false, false, true, true, false, false, false, true, true, true, false, false, false, true, true, true, false, false, false, true, true, true, false, false, true, true, false, false, false, false, false, false] rfl rfl (any_of HT_.out (by kernel_rfl)) (fun _ _ _ h => h) (Or.inl ⟨by rfl, ?_⟩) ?_ ?_
             rotate_left
             ·intro w'
              go_simp
              with_reducible rfl
             rotate_left
             ·simp only [Act.put, List.setIfInBounds_toArray, List.set_cons_zero, List.set_cons_succ, i64_w, i32_w]
              rfl
             refine pure_ (i := 29) (N := some 50) (v := ?_) (a' := ?_) #[true, true, false, false, false, true, true, false, false, false, true, true, true, false, false, false, true, true, true, false, false, false, true, true, true, false, false, true, true, true, false, false, false, false, false] rfl rfl (any_of HT_.out (by kernel_rfl)) (fun _ _ _ h => h) (Or.inl ⟨by rfl, ?_⟩) ?_ ?_
             rotate_left
             ·intro w'
              go_simp
              with_reducible rfl
             rotate_left
             ·simp only [Act.put, List.setIfInBounds_toArray, List.set_cons_zero, List.set_cons_succ, i64_w, i32_w]
              rfl
             refine take_ (i := 2) (N := some 23) (v := ?_) (a' := ?_) #[true, true, true, false, false, true, true, false, false, false, true, true, true, false, false, false, true, true, true, false, false, false, true, true, true, false, false, true, true, true, false, false, false, false, false] rfl rfl (take_ofW HT_.out HW_.out (by kernel_rfl)) (fun _ _ _ h => h) (Or.inl ⟨by rfl, ?_⟩) hHeld ?_ ?_
             rotate_left
             ·intro w' _
              go_simp
              with_reducible rfl
             rotate_left
             ·simp only [Act.put, List.setIfInBounds_toArray, List.set_cons_zero, List.set_cons_succ, i64_w, i32_w]
              rfl
             refine pure_ (i := 3) (N := some 24) (v := ?_) (a' := ?_) #[true, true, true, true, false, true, true, false, false, false, true, true, true, false, false, false, true, true, true, false, false, false, true, true, true, false, false, true, true, true, false, false, false, false, false] rfl rfl (any_of HT_.out (by kernel_rfl)) (fun _ _ _ h => h) (Or.inl ⟨by rfl, ?_⟩) ?_ ?_
             rotate_left
             ·intro w'
              go_simp
              with_reducible rfl
             rotate_left
             ·simp only [Act.put, List.setIfInBounds_toArray, List.set_cons_zero, List.set_cons_succ, i64_w, i32_w]
              rfl
             refine pure_ (i := 4) (N := some 25) (v := ?_) (a' := ?_) #[true, true, true, true, true, true, true, false, false, false, true, true, true, false, false, false, true, true, true, false, false, false, true, true, true, false, false, true, true, true, false, false, false, false, false] rfl rfl (any_of HT_.out (by kernel_rfl)) (fun _ _ _ h => h) (Or.inl ⟨by rfl, ?_⟩) ?_ ?_
             rotate_left
             ·intro w'
              go_simp
              with_reducible rfl
             rotate_left
             ·simp only [Act.put, List.setIfInBounds_toArray, List.set_cons_zero, List.set_cons_succ, i64_w, i32_w]
              rfl
             refine take_ (i := 7) (N := some 28) (v := ?_) (a' := ?_) #[true, true, true, true, true, true, true, true, false, false, true, true, true, false, false, false, true, true, true, false, false, false, true, true, true, false, false, true, true, true, false, false, false, false, false] rfl rfl (take_ofW HT_.out HW_.out (by kernel_rfl)) (fun _ _ _ h => h) (Or.inl ⟨by rfl, ?_⟩) hHeld ?_ ?_
             rotate_left
             ·intro w' _
              go_simp
              with_reducible rfl
             rotate_left
             ·simp only [Act.put, List.setIfInBounds_toArray, List.set_cons_zero, List.set_cons_succ, i64_w, i32_w]
              rfl
             refine pure_ (i := 8) (N := some 29) (v := ?_) (a' := ?_) #[true, true, true, true, true, true, true, true, true, false, true, true, true, false, false, false, true, true, true, false, false, false, true, true, true, false, false, true, true, true, false, false, false, false, false] rfl rfl (any_of HT_.out (by kernel_rfl)) (fun _ _ _ h => h) (Or.inl ⟨by rfl, ?_⟩) ?_ ?_
             rotate_left
             ·intro w'
              go_simp
              with_reducible rfl
             rotate_left
             ·simp only [Act.put, List.setIfInBounds_toArray, List.set_cons_zero, List.set_cons_succ, i64_w, i32_w]
              rfl
             refine pure_ (i := 9) (N := some 30) (v := ?_) (a' := ?_) #[true, true, true, true, true, true, true, true, true, true, true, true, true, false, false, false, true, true, true, false, false, false, true, true, true, false, false, true, true, true, false, false, false, false, false] rfl rfl (any_of HT_.out (by kernel_rfl)) (fun _ _ _ h => h) (Or.inl ⟨by rfl, ?_⟩) ?_ ?_
             rotate_left
             ·intro w'
              go_simp
              with_reducible rfl
             rotate_left
             ·simp only [Act.put, List.setIfInBounds_toArray, List.set_cons_zero, List.set_cons_succ, i64_w, i32_w]
              rfl
             refine take_ (i := 13) (N := some 34) (v := ?_) (a' := ?_) #[true, true, true, true, true, true, true, true, true, true, true, true, true, true, false, false, true, true, true, false, false, false, true, true, true, false, false, true, true, true, false, false, false, false, false] rfl rfl (take_ofW HT_.out HW_.out (by kernel_rfl)) (fun _ _ _ h => h) (Or.inl ⟨by rfl, ?_⟩) hHeld ?_ ?_
             rotate_left
             ·intro w' _
              go_simp
              with_reducible rfl
             rotate_left
             ·simp only [Act.put, List.setIfInBounds_toArray, List.set_cons_zero, List.set_cons_succ, i64_w, i32_w]
              rfl
             refine pure_ (i := 14) (N := some 35) (v := ?_) (a' := ?_) #[true, true, true, true, true, true, true, true, true, true, true, true, true, true, true, false, true, true, true, false, false, false, true, true, true, false, false, true, true, true, false, false, false, false, false] rfl rfl (any_of HT_.out (by kernel_rfl)) (fun _ _ _ h => h) (Or.inl ⟨by rfl, ?_⟩) ?_ ?_
             rotate_left
             ·intro w'
              go_simp
              with_reducible rfl
             rotate_left
             ·simp only [Act.put, List.setIfInBounds_toArray, List.set_cons_zero, List.set_cons_succ, i64_w, i32_w]
              rfl
             refine pure_ (i := 15) (N := some 36) (v := ?_) (a' := ?_) #[true, true, true, true, true, true, true, true, true, true, true, true, true, true, true, true, true, true, true, false, false, false, true, true, true, false, false, true, true, true, false, false, false, false, false] rfl rfl (any_of HT_.out (by kernel_rfl)) (fun _ _ _ h => h) (Or.inl ⟨by rfl, ?_⟩) ?_ ?_
             rotate_left
             ·intro w'
              go_simp
              with_reducible rfl
             rotate_left
             ·simp only [Act.put, List.setIfInBounds_toArray, List.set_cons_zero, List.set_cons_succ, i64_w, i32_w]
              rfl
             refine take_ (i := 19) (N := some 40) (v := ?_) (a' := ?_) #[true, true, true, true, true, true, true, true, true, true, true, true, true, true, true, true, true, true, true, true, false, false, true, true, true, false, false, true, true, true, false, false, false, false, false] rfl rfl (take_ofW HT_.out HW_.out (by kernel_rfl)) (fun _ _ _ h => h) (Or.inl ⟨by rfl, ?_⟩) hHeld ?_ ?_
             rotate_left
             ·intro w' _
              go_simp
              with_reducible rfl
             rotate_left
             ·simp only [Act.put, List.setIfInBounds_toArray, List.set_cons_zero, List.set_cons_succ, i64_w, i32_w]
              rfl
             refine pure_ (i := 20) (N := some 41) (v := ?_) (a' := ?_) #[true, true, true, true, true, true, true, true, true, true, true, true, true, true, true, true, true, true, true, true, true, false, true, true, true, false, false, true, true, true, false, false, false, false, false] rfl rfl (any_of HT_.out (by kernel_rfl)) (fun _ _ _ h => h) (Or.inl ⟨by rfl, ?_⟩) ?_ ?_
             rotate_left
             ·intro w'
              go_simp
              with_reducible rfl
             rotate_left
             ·simp only [Act.put, List.setIfInBounds_toArray, List.set_cons_zero, List.set_cons_succ, i64_w, i32_w]
              rfl
             refine pure_ (i := 21) (N := some 42) (v := ?_) (a' := ?_) #[true, true, true, true, true, true, true, true, true, true, true, true, true, true, true, true, true, true, true, true, true, true, true, true, true, false, false, true, true, true, false, false, false, false, false] rfl rfl (any_of HT_.out (by kernel_rfl)) (fun _ _ _ h => h) (Or.inl ⟨by rfl, ?_⟩) ?_ ?_
             rotate_left
             ·intro w'
              go_simp
              with_reducible rfl
             rotate_left
             ·simp only [Act.put, List.setIfInBounds_toArray, List.set_cons_zero, List.set_cons_succ, i64_w, i32_w]
              rfl
             refine take_ (i := 25) (N := some 46) (v := ?_) (a' := ?_) #[true, true, true, true, true, true, true, true, true, true, true, true, true, true, true, true, true, true, true, true, true, true, true, true, true, true, false, true, true, true, false, false, false, false, false] rfl rfl (take_ofW HT_.out HW_.out (by kernel_rfl)) (fun _ _ _ h => h) (Or.inl ⟨by rfl, ?_⟩) hHeld ?_ ?_
             rotate_left
             ·intro w' _
              go_simp
              with_reducible rfl
             rotate_left
             ·simp only [Act.put, List.setIfInBounds_toArray, List.set_cons_zero, List.set_cons_succ, i64_w, i32_w]
              rfl
             refine pure_ (i := 26) (N := some 47) (v := ?_) (a' := ?_) #[true, true, true, true, true, true, true, true, true, true, true, true, true, true, true, true, true, true, true, true, true, true, true, true, true, true, true, true, true, true, false, false, false, false, false] rfl rfl (any_of HT_.out (by kernel_rfl)) (fun _ _ _ h => h) (Or.inl ⟨by rfl, ?_⟩) ?_ ?_
             rotate_left
             ·intro w'
              go_simp
              with_reducible rfl
             rotate_left
             ·simp only [Act.put, List.setIfInBounds_toArray, List.set_cons_zero, List.set_cons_succ, i64_w, i32_w]
              rfl
             refine take_ (i := 30) (N := some 51) (v := ?_) (a' := ?_) #[true, true, true, true, true, true, true, true, true, true, true, true, true, true, true, true, true, true, true, true, true, true, true, true, true, true, true, true, true, true, true, false, false, false, false] rfl rfl (take_ofW HT_.out HW_.out (by kernel_rfl)) (fun _ _ _ h => h) (Or.inl ⟨by rfl, ?_⟩) hHeld ?_ ?_
             rotate_left
             ·intro w' _
              go_simp
              with_reducible rfl
             rotate_left
             ·simp only [Act.put, List.setIfInBounds_toArray, List.set_cons_zero, List.set_cons_succ, i64_w, i32_w]
              rfl
             refine pure_ (i := 31) (N := some 52) (v := ?_) (a' := ?_) #[true, true, true, true, true, true, true, true, true, true, true, true, true, true, true, true, true, true, true, true, true, true, true, true, true, true, true, true, true, true, true, true, false, false, false] rfl rfl (any_of HT_.out (by kernel_rfl)) (fun _ _ _ h => h) (Or.inl ⟨by rfl, ?_⟩) ?_ ?_
             rotate_left
             ·intro w'
              go_simp
              with_reducible rfl
             rotate_left
             ·simp only [Act.put, List.setIfInBounds_toArray, List.set_cons_zero, List.set_cons_succ, i64_w, i32_w]
              rfl
             refine pure_ (i := 32) (N := some 53) (v := ?_) (a' := ?_) #[true, true, true, true, true, true, true, true, true, true, true, true, true, true, true, true, true, true, true, true, true, true, true, true, true, true, true, true, true, true, true, true, true, false, false] rfl rfl (any_of HT_.out (by kernel_rfl)) (fun _ _ _ h => h) (Or.inl ⟨by rfl, ?_⟩) ?_ ?_
             rotate_left
             ·intro w'
              go_simp
              with_reducible rfl
             rotate_left
             ·simp only [Act.put, List.setIfInBounds_toArray, List.set_cons_zero, List.set_cons_succ, i64_w, i32_w]
              rfl
             refine one_ (i := 33) (N := some 7) #[true, true, true, true, true, true, true, true, true, true, true, true, true, true, true, true, true, true, true, true, true, true, true, true, true, true, true, true, true, true, true, true, true, true, false] rfl rfl (one_of HT_.out (by kernel_rfl)) (by decide) (fun K hK => ?_)
             refine box_step ?hg (N := 7) ?hd (cs := #[.int .i64 0, .int .i64 0, .int .i64 0, .int .i64 0, .int .i64 0, .int .i64 0]) (t := 48) ?hr ?_; (case hd => rfl); (case hg => rfl); (case hr => first | (go_simp; done) | (go_simp; rfl))
             intro gb351 hg w23 hbox hb
             have n0_ := Aside0.mk (Kd.R_below (Kd.R_elderB (zR_ HO_5.out) gb351 (Nat.le_of_eq hg.symm)) hb)
             have n1_ := Aside0.mk (below_step (zb_ HB.out) hb)
             have n2_ := Aside0.mk (hbox)
             have n3_ := Aside0.mk ((by rw [hg]; exact (below_size (zb_ HB.out)) : w.heap.size ≤ gb351))
             have n4_ := Aside0.mk ((by rw [hg]; exact (below_size (zb_ HB.out)) : w.heap.size ≤ gb351))
             clear HO_5
             clear HB
             have HO_5 := n0_
             have HB := n1_
             have BK351 := n2_
             have GW351 := n3_
             have GE351 := n4_
             clear n0_ n1_ n2_ n3_ n4_
             clear hb hbox hg
             refine hK.out _ _ trivial (fun hHeld => ?_)
             clear hK K
             refine norm_ (a' := ?_) ?_ ?_
             rotate_left
             ·show Act.put _ (some 7) _ = _
              simp only [Act.put, List.setIfInBounds_toArray, List.set_cons_zero, List.set_cons_succ, i64_w, i32_w]
              rfl
             refine one_ (i := 34) (N := none) #[true, true, true, true, true, true, true, true, true, true, true, true, true, true, true, true, true, true, true, true, true, true, true, true, true, true, true, true, true, true, true, true, true, true, true] rfl rfl (one_of HT_.out (by kernel_rfl)) (by decide) (fun K hK => ?_)
             have hs24 : w23.cell? ⟨gb351, 0, none⟩ = some (.int .i64 0) := (blk_cell BK351.out 0).trans rfl
             have hfs24 := blk_frozen BK351.out 0
             have hs25 : w23.cell? ⟨gb351, 1, none⟩ = some (.int .i64 0) := (blk_cell BK351.out 1).trans rfl
             have hfs25 := blk_frozen BK351.out 1
             have hs26 : w23.cell? ⟨gb351, 2, none⟩ = some (.int .i64 0) := (blk_cell BK351.out 2).trans rfl
             have hfs26 := blk_frozen BK351.out 2
             have hs27 : w23.cell? ⟨gb351, 3, none⟩ = some (.int .i64 0) := (blk_cell BK351.out 3).trans rfl
             have hfs27 := blk_frozen BK351.out 3
             have hs28 : w23.cell? ⟨gb351, 4, none⟩ = some (.int .i64 0) := (blk_cell BK351.out 4).trans rfl
             have hfs28 := blk_frozen BK351.out 4
             have hs29 : w23.cell? ⟨gb351, 5, none⟩ = some (.int .i64 0) := (blk_cell BK351.out 5).trans rfl
             have hfs29 := blk_frozen BK351.out 5
             refine skip_ (w1 := ?_) (by rfl) rfl ?_ ?_
             rotate_left
             ·go_simp
              rfl
             refine hK.out _ _ trivial (fun hHeld => ?_)
             clear hK K
             refine done_ (done_of HT_.out (by kernel_rfl)) ?_
             have hcz30_0 : w23.cell? ⟨gb351, 0, none⟩ = some (.int .i64 0) := (blk_cell BK351.out 0).trans rfl
             have hcz30_1 : w23.cell? ⟨gb351, 1, none⟩ = some (.int .i64 0) := (blk_cell BK351.out 1).trans rfl
             have hcz30_2 : w23.cell? ⟨gb351, 2, none⟩ = some (.int .i64 0) := (blk_cell BK351.out 2).trans rfl
             have hcz30_3 : w23.cell? ⟨gb351, 3, none⟩ = some (.int .i64 0) := (blk_cell BK351.out 3).trans rfl
             have hcz30_4 : w23.cell? ⟨gb351, 4, none⟩ = some (.int .i64 0) := (blk_cell BK351.out 4).trans rfl
             have hcz30_5 : w23.cell? ⟨gb351, 5, none⟩ = some (.int .i64 0) := (blk_cell BK351.out 5).trans rfl
             have hfz30_0 := blk_frozen BK351.out 0
             have hfz30_1 := blk_frozen BK351.out 1
             have hfz30_2 := blk_frozen BK351.out 2
             have hfz30_3 := blk_frozen BK351.out 3
             have hfz30_4 := blk_frozen BK351.out 4
             have hfz30_5 := blk_frozen BK351.out 5
             go_upto_if 56 with (fail)
             go_cut [8] (fun v8 wc => ∃ (kq : Nat) (x8_20 : Int) (x352004_20 : Int), v8 = .int .i64 x8_20 ∧ Aside0 (spec_ReadProgram.j1 kq a0 x5_1 x6_1 x8_20 (Int.tmod (wrap64 (bt a0 x6_1)) 16) (wrap64 (Int.tdiv (wrap64 (bt a0 x6_1)) 16)) (wrap64 (Int.tdiv (wrap64 (bt a0 (ji8))) 16)) (Int.tmod (wrap64 (bt a0 (ji8))) 16) x352004_20 (wrap64 (bt a0 (ji13))) = some (r1, r2, r3)) ∧ Aside0 (kq ≤ k1) ∧ Aside0 (Kd.R k48 48 wc w.heap.size (fun k_ => k_ ≠ gb351) u5 x5_1) ∧ Aside0 (wc.heap[gb351]? = some (.cells #[.int .i64 (Int.tmod (wrap64 (bt a0 x6_1)) 16), .int .i64 (wrap64 (Int.tdiv (wrap64 (bt a0 x6_1)) 16)), .int .i64 (wrap64 (Int.tdiv (wrap64 (bt a0 (ji8))) 16)), .int .i64 (Int.tmod (wrap64 (bt a0 (ji8))) 16), .int .i64 x352004_20, .int .i64 (wrap64 (bt a0 (ji13)))] 48 (0, 0))) ∧ Aside0 (Below w.heap.size w wc))
             case first =>
              have H := HC21.out
              clear HC21
              by_cases c31 : (Int.tmod (wrap64 (bt a0 x6_1)) 16) = 4
              ·rw [if_pos c31] at H
               have c31b0 : ((Int.tmod (wrap64 (bt a0 x6_1)) 16) == 4) = true := beq_iff_eq.mpr c31
               have c31b1 : ((Int.tmod (wrap64 (bt a0 x6_1)) 16) != 4) = false := bne_eq_false_iff_eq.mpr c31
               clear c31
               (first | rw [c31b0] | (simp only [i64_w, i32_w]; rw [c31b0]) | skip)
               by_cases c32 : (wrap64 ((a0.size : Int) - x6_1)) < 8
               ·rw [if_pos c32] at H
                have c32b0 : decide ((wrap64 ((a0.size : Int) - x6_1)) < 8) = true := decide_eq_true c32
                clear c32
                simp only [Option.some.injEq, Prod.mk.injEq] at H
                obtain ⟨rfl, rfl, rfl⟩ := H
                go_wp2
                go_ret3
                exact ⟨_, by first | rfl | (simp [errW_none, errW_some] <;> rfl) | (simp only [← hji8, ← hji13, ← hji17]; first | rfl | (simp [errW_none, errW_some] <;> rfl)) | (simp [*, errW_none, errW_some] <;> rfl), by first | exact Kd.R_nil _ _ _ _ _ | exact Kd.N_nil _ _ _ _ _ | exact Kd.V_nil _ _ _ _ _ | exact Kd.Q_nil _ _ _ _ _ | exact Kd.S_nil _ _ _ _ _, by repeat (first | (with_reducible first | exact HB.out | apply below_alloc | apply pw_below_drewN | apply below_drew1 | refine below_set ?_ GE351.out) | exact HB.out)⟩
               ·rw [if_neg c32] at H
                have c32b0 : decide ((wrap64 ((a0.size : Int) - x6_1)) < 8) = false := decide_eq_false c32
                clear c32
                obtain ⟨ji33, hji33⟩ : ∃ j_ : Int, (wrap64 (x6_1 + 7)) = j_ := ⟨_, rfl⟩
                replace H : (if 0 ≤ (ji33) then (if (ji33) < (a0.size : Int) then (spec_ReadProgram.j1 k1 a0 x5_1 x6_1 8 (Int.tmod (wrap64 (bt a0 x6_1)) 16) (wrap64 (Int.tdiv (wrap64 (bt a0 x6_1)) 16)) (wrap64 (Int.tdiv (wrap64 (bt a0 (ji8))) 16)) (Int.tmod (wrap64 (bt a0 (ji8))) 16) (wrap64 ((wrap64 (bt a0 (ji17))) + (wrap64 (256 * (wrap64 (bt a0 (ji33))))))) (wrap64 (bt a0 (ji13)))) else (none)) else (none)) = some (r1, r2, r3) := by first | (rw [hji33] at H; exact H) | (simp only [hji33] at H ⊢; exact H)
                have hji33w : (IntKind.i64.wrap (x6_1 + 7)) = ji33 := (i64_w _).trans hji33
                by_cases c34 : 0 ≤ (ji33)
                ·rw [if_pos c34] at H
                 have c34b0 : decide (0 ≤ (ji33)) = true := decide_eq_true c34
                 clear c34
                 by_cases c35 : (ji33) < (a0.size : Int)
                 ·rw [if_pos c35] at H
                  have c35b0 : decide ((ji33) < (a0.size : Int)) = true := decide_eq_true c35
                  clear c35
                  have H' := Aside0.mk H
                  clear H
                  try go_wp2
                  have n0_ : Aside0 (Kd.R k48 48 ((((((w23.setCell ⟨gb351, 0, none⟩ (.int .i64 (Int.tmod (wrap64 (bt a0 x6_1)) 16))).setCell ⟨gb351, 1, none⟩ (.int .i64 (wrap64 (Int.tdiv (wrap64 (bt a0 x6_1)) 16)))).setCell ⟨gb351, 2, none⟩ (.int .i64 (wrap64 (Int.tdiv (wrap64 (bt a0 (ji8))) 16)))).setCell ⟨gb351, 3, none⟩ (.int .i64 (Int.tmod (wrap64 (bt a0 (ji8))) 16))).setCell ⟨gb351, 4, none⟩ (.int .i64 (wrap64 (bt a0 (ji17))))).setCell ⟨gb351, 5, none⟩ (.int .i64 (wrap64 (bt a0 (ji13))))) w.heap.size (fun k_ => k_ ≠ gb351) u5 x5_1) := ⟨by (with_reducible repeat (first | apply Kd.R_alloc | apply Kd.R_drewN | apply Kd.R_drew)); exact Kd.R_mono (Kd.R_far (p := ⟨gb351, 5, none⟩) (Kd.R_far (p := ⟨gb351, 4, none⟩) (Kd.R_far (p := ⟨gb351, 3, none⟩) (Kd.R_far (p := ⟨gb351, 2, none⟩) (Kd.R_far (p := ⟨gb351, 1, none⟩) (Kd.R_far (p := ⟨gb351, 0, none⟩) (Kd.R_mono HO_5.out (fun k_ hk => (⟨hk, hk.2⟩ : _ ∧ k_ ≠ gb351))) (fun _ hk => hk.2) (.int .i64 (Int.tmod (wrap64 (bt a0 x6_1)) 16))) (fun _ hk => hk.2) (.int .i64 (wrap64 (Int.tdiv (wrap64 (bt a0 x6_1)) 16)))) (fun _ hk => hk.2) (.int .i64 (wrap64 (Int.tdiv (wrap64 (bt a0 (ji8))) 16)))) (fun _ hk => hk.2) (.int .i64 (Int.tmod (wrap64 (bt a0 (ji8))) 16))) (fun _ hk => hk.2) (.int .i64 (wrap64 (bt a0 (ji17))))) (fun _ hk => hk.2) (.int .i64 (wrap64 (bt a0 (ji13))))) (fun _ hk => hk.1.2)⟩
                  have n1_ : Aside0 (((((((w23.setCell ⟨gb351, 0, none⟩ (.int .i64 (Int.tmod (wrap64 (bt a0 x6_1)) 16))).setCell ⟨gb351, 1, none⟩ (.int .i64 (wrap64 (Int.tdiv (wrap64 (bt a0 x6_1)) 16)))).setCell ⟨gb351, 2, none⟩ (.int .i64 (wrap64 (Int.tdiv (wrap64 (bt a0 (ji8))) 16)))).setCell ⟨gb351, 3, none⟩ (.int .i64 (Int.tmod (wrap64 (bt a0 (ji8))) 16))).setCell ⟨gb351, 4, none⟩ (.int .i64 (wrap64 (bt a0 (ji17))))).setCell ⟨gb351, 5, none⟩ (.int .i64 (wrap64 (bt a0 (ji13))))).heap[gb351]? = some (.cells #[.int .i64 (Int.tmod (wrap64 (bt a0 x6_1)) 16), .int .i64 (wrap64 (Int.tdiv (wrap64 (bt a0 x6_1)) 16)), .int .i64 (wrap64 (Int.tdiv (wrap64 (bt a0 (ji8))) 16)), .int .i64 (Int.tmod (wrap64 (bt a0 (ji8))) 16), .int .i64 (wrap64 (bt a0 (ji17))), .int .i64 (wrap64 (bt a0 (ji13)))] 48 (0, 0))) := ⟨by (with_reducible repeat (first | refine blk_drewN ?_ _ | refine blk_drew ?_ | refine blk_alloc ?_ _)); refine blk_put (cs := #[.int .i64 (Int.tmod (wrap64 (bt a0 x6_1)) 16), .int .i64 (wrap64 (Int.tdiv (wrap64 (bt a0 x6_1)) 16)), .int .i64 (wrap64 (Int.tdiv (wrap64 (bt a0 (ji8))) 16)), .int .i64 (Int.tmod (wrap64 (bt a0 (ji8))) 16), .int .i64 (wrap64 (bt a0 (ji17))), .int .i64 0]) ?_ 5 _ rfl; (with_reducible repeat (first | refine blk_drewN ?_ _ | refine blk_drew ?_ | refine blk_alloc ?_ _)); refine blk_put (cs := #[.int .i64 (Int.tmod (wrap64 (bt a0 x6_1)) 16), .int .i64 (wrap64 (Int.tdiv (wrap64 (bt a0 x6_1)) 16)), .int .i64 (wrap64 (Int.tdiv (wrap64 (bt a0 (ji8))) 16)), .int .i64 (Int.tmod (wrap64 (bt a0 (ji8))) 16), .int .i64 0, .int .i64 0]) ?_ 4 _ rfl; (with_reducible repeat (first | refine blk_drewN ?_ _ | refine blk_drew ?_ | refine blk_alloc ?_ _)); refine blk_put (cs := #[.int .i64 (Int.tmod (wrap64 (bt a0 x6_1)) 16), .int .i64 (wrap64 (Int.tdiv (wrap64 (bt a0 x6_1)) 16)), .int .i64 (wrap64 (Int.tdiv (wrap64 (bt a0 (ji8))) 16)), .int .i64 0, .int .i64 0, .int .i64 0]) ?_ 3 _ rfl; (with_reducible repeat (first | refine blk_drewN ?_ _ | refine blk_drew ?_ | refine blk_alloc ?_ _)); refine blk_put (cs := #[.int .i64 (Int.tmod (wrap64 (bt a0 x6_1)) 16), .int .i64 (wrap64 (Int.tdiv (wrap64 (bt a0 x6_1)) 16)), .int .i64 0, .int .i64 0, .int .i64 0, .int .i64 0]) ?_ 2 _ rfl; (with_reducible repeat (first | refine blk_drewN ?_ _ | refine blk_drew ?_ | refine blk_alloc ?_ _)); refine blk_put (cs := #[.int .i64 (Int.tmod (wrap64 (bt a0 x6_1)) 16), .int .i64 0, .int .i64 0, .int .i64 0, .int .i64 0, .int .i64 0]) ?_ 1 _ rfl; (with_reducible repeat (first | refine blk_drewN ?_ _ | refine blk_drew ?_ | refine blk_alloc ?_ _)); refine blk_put (cs := #[.int .i64 0, .int .i64 0, .int .i64 0, .int .i64 0, .int .i64 0, .int .i64 0]) ?_ 0 _ rfl; (with_reducible repeat (first | refine blk_drewN ?_ _ | refine blk_drew ?_ | refine blk_alloc ?_ _)); exact BK351.out⟩
                  have n2_ : Aside0 (Below w.heap.size w ((((((w23.setCell ⟨gb351, 0, none⟩ (.int .i64 (Int.tmod (wrap64 (bt a0 x6_1)) 16))).setCell ⟨gb351, 1, none⟩ (.int .i64 (wrap64 (Int.tdiv (wrap64 (bt a0 x6_1)) 16)))).setCell ⟨gb351, 2, none⟩ (.int .i64 (wrap64 (Int.tdiv (wrap64 (bt a0 (ji8))) 16)))).setCell ⟨gb351, 3, none⟩ (.int .i64 (Int.tmod (wrap64 (bt a0 (ji8))) 16))).setCell ⟨gb351, 4, none⟩ (.int .i64 (wrap64 (bt a0 (ji17))))).setCell ⟨gb351, 5, none⟩ (.int .i64 (wrap64 (bt a0 (ji13)))))) := ⟨by repeat (first | (with_reducible first | exact HB.out | apply below_alloc | apply pw_below_drewN | apply below_drew1 | refine below_set ?_ GE351.out) | exact HB.out)⟩
                  (try clear HO_5)
                  (try clear BK351)
                  (try clear HB)
                  generalize ((((((w23.setCell ⟨gb351, 0, none⟩ (.int .i64 (Int.tmod (wrap64 (bt a0 x6_1)) 16))).setCell ⟨gb351, 1, none⟩ (.int .i64 (wrap64 (Int.tdiv (wrap64 (bt a0 x6_1)) 16)))).setCell ⟨gb351, 2, none⟩ (.int .i64 (wrap64 (Int.tdiv (wrap64 (bt a0 (ji8))) 16)))).setCell ⟨gb351, 3, none⟩ (.int .i64 (Int.tmod (wrap64 (bt a0 (ji8))) 16))).setCell ⟨gb351, 4, none⟩ (.int .i64 (wrap64 (bt a0 (ji17))))).setCell ⟨gb351, 5, none⟩ (.int .i64 (wrap64 (bt a0 (ji13))))) = w37 at n0_ n1_ n2_ ⊢
                  have HO_5 := n0_
                  have BK351 := n1_
                  have HB := n2_
                  clear n0_ n1_ n2_
                  have n0_ := Aside0.mk (Kd.R_drew HO_5.out)
                  have n1_ := Aside0.mk (blk_drew BK351.out)
                  have n2_ := Aside0.mk (below_drew1 HB.out)
                  clear HO_5
                  clear BK351
                  clear HB
                  have HO_5 := n0_
                  have BK351 := n1_
                  have HB := n2_
                  clear n0_ n1_ n2_
                  have p36 : 0 ≤ ((ji33) : Int) := of_decide_eq_true (by assumption)
                  have q36 : (ji33) < (a0.size : Int) := of_decide_eq_true (by assumption)
                  have hx36 := bt_at a0 (ji33)
                  replace p36 := eq_true p36
                  replace q36 := eq_true q36
                  refine start_ (n := 11) (S := fun w' => w'.cell? ⟨gb351, 0, none⟩ = some (.int .i64 (Int.tmod (wrap64 (bt a0 x6_1)) 16)) ∧ w'.cell? ⟨gb351, 1, none⟩ = some (.int .i64 (wrap64 (Int.tdiv (wrap64 (bt a0 x6_1)) 16))) ∧ w'.cell? ⟨gb351, 2, none⟩ = some (.int .i64 (wrap64 (Int.tdiv (wrap64 (bt a0 (ji8))) 16))) ∧ w'.cell? ⟨gb351, 3, none⟩ = some (.int .i64 (Int.tmod (wrap64 (bt a0 (ji8))) 16)) ∧ w'.cell? ⟨gb351, 4, none⟩ = some (.int .i64 (wrap64 (bt a0 (ji17)))) ∧ w'.cell? ⟨gb351, 5, none⟩ = some (.int .i64 (wrap64 (bt a0 (ji13))))) (ds := [10]) #[false, false, false, false, false, false, false, false, false, false, false] (by kernel_rfl) rfl rfl ⟨(blk_cell BK351.out 0).trans rfl, (blk_cell BK351.out 1).trans rfl, (blk_cell BK351.out 2).trans rfl, (blk_cell BK351.out 3).trans rfl, (blk_cell BK351.out 4).trans rfl, (blk_cell BK351.out 5).trans rfl⟩ (fun hHeld => ?_); refine with_tabW spec_ReadProgram.tab14 spec_ReadProgram.bits14 (fun HT_ HW_ => ?_)
                  generalize w37.drew = w38 at HO_5 BK351 HB hHeld ⊢
                  refine pure_ (i := 0) (N := some 62) (v := ?_) (a' := ?_) #[true, false, false, false, false, false, false, false, false, false, false] rfl rfl (any_of HT_.out (by kernel_rfl)) (fun _ _ _ h => h) (Or.inl ⟨by rfl, ?_⟩) ?_ ?_
                  rotate_left
                  ·intro w'
                   go_simp
                   with_reducible rfl
                  rotate_left
                  ·simp only [Act.put, List.setIfInBounds_toArray, List.set_cons_zero, List.set_cons_succ, i64_w, i32_w]
                   rfl
                  refine pure_ (i := 2) (N := some 64) (v := ?_) (a' := ?_) #[true, false, true, false, false, false, false, false, false, false, false] rfl rfl (any_of HT_.out (by kernel_rfl)) (fun _ _ _ h => h) (Or.inl ⟨by rfl, ?_⟩) ?_ ?_
                  rotate_left
                  ·intro w'
                   go_simp
                   with_reducible rfl
                  rotate_left
                  ·simp only [Act.put, List.setIfInBounds_toArray, List.set_cons_zero, List.set_cons_succ, i64_w, i32_w]
                   rfl
                  refine pure_ (i := 3) (N := some 65) (v := ?_) (a' := ?_) #[true, false, true, true, false, false, false, false, false, false, false] rfl rfl (any_of HT_.out (by kernel_rfl)) (fun _ _ _ h => h) (Or.inl ⟨by rfl, ?_⟩) ?_ ?_
                  rotate_left
                  ·intro w'
                   go_simp
                   with_reducible rfl
                  rotate_left
                  ·simp only [Act.put, List.setIfInBounds_toArray, List.set_cons_zero, List.set_cons_succ, i64_w, i32_w]
                   rfl
                  refine pure_ (i := 4) (N := some 66) (v := ?_) (a' := ?_) #[true, false, true, true, true, false, false, false, false, false, false] rfl rfl (any_of HT_.out (by kernel_rfl)) (fun _ _ _ h => h) (Or.inl ⟨by rfl, ?_⟩) ?_ ?_
                  rotate_left
                  ·intro w'
                   go_simp
                   with_reducible rfl
                  rotate_left
                  ·simp only [Act.put, List.setIfInBounds_toArray, List.set_cons_zero, List.set_cons_succ, i64_w, i32_w]
                   rfl
                  refine take_ (i := 1) (N := some 63) (v := ?_) (a' := ?_) #[true, true, true, true, true, false, false, false, false, false, false] rfl rfl (take_ofW HT_.out HW_.out (by kernel_rfl)) (fun _ _ _ h => h) (Or.inl ⟨by rfl, ?_⟩) hHeld ?_ ?_
                  rotate_left
                  ·rintro w' ⟨s0, s1, s2, s3, s4, s5⟩
                   go_simp
                   with_reducible rfl
                  rotate_left
                  ·simp only [Act.put, List.setIfInBounds_toArray, List.set_cons_zero, List.set_cons_succ, i64_w, i32_w]
                   rfl
                  refine take_ (i := 5) (N := some 67) (v := ?_) (a' := ?_) #[true, true, true, true, true, true, false, false, false, false, false] rfl rfl (take_ofW HT_.out HW_.out (by kernel_rfl)) (fun _ _ _ h => h) (Or.inl ⟨by rfl, ?_⟩) hHeld ?_ ?_
                  rotate_left
                  ·rintro w' ⟨s0, s1, s2, s3, s4, s5⟩
                   go_simp
                   with_reducible rfl
                  rotate_left
                  ·simp only [Act.put, List.setIfInBounds_toArray, List.set_cons_zero, List.set_cons_succ, i64_w, i32_w]
                   rfl
                  refine pure_ (i := 6) (N := some 68) (v := ?_) (a' := ?_) #[true, true, true, true, true, true, true, false, false, false, false] rfl rfl (any_of HT_.out (by kernel_rfl)) (fun _ _ _ h => h) (Or.inl ⟨by rfl, ?_⟩) ?_ ?_
                  rotate_left
                  ·intro w'
                   go_simp
                   with_reducible rfl
                  rotate_left
                  ·simp only [Act.put, List.setIfInBounds_toArray, List.set_cons_zero, List.set_cons_succ, i64_w, i32_w]
                   rfl
                  refine pure_ (i := 7) (N := some 69) (v := ?_) (a' := ?_) #[true, true, true, true, true, true, true, true, false, false, false] rfl rfl (any_of HT_.out (by kernel_rfl)) (fun _ _ _ h => h) (Or.inl ⟨by rfl, ?_⟩) ?_ ?_
                  rotate_left
                  ·intro w'
                   go_simp
                   with_reducible rfl
                  rotate_left
                  ·simp only [Act.put, List.setIfInBounds_toArray, List.set_cons_zero, List.set_cons_succ, i64_w, i32_w]
                   rfl
                  refine pure_ (i := 8) (N := some 70) (v := ?_) (a' := ?_) #[true, true, true, true, true, true, true, true, true, false, false] rfl rfl (any_of HT_.out (by kernel_rfl)) (fun _ _ _ h => h) (Or.inl ⟨by rfl, ?_⟩) ?_ ?_
                  rotate_left
                  ·intro w'
                   go_simp
                   with_reducible rfl
                  rotate_left
                  ·simp only [Act.put, List.setIfInBounds_toArray, List.set_cons_zero, List.set_cons_succ, i64_w, i32_w]
                   rfl
                  refine pure_ (i := 9) (N := some 71) (v := ?_) (a' := ?_) #[true, true, true, true, true, true, true, true, true, true, false] rfl rfl (any_of HT_.out (by kernel_rfl)) (fun _ _ _ h => h) (Or.inl ⟨by rfl, ?_⟩) ?_ ?_
                  rotate_left
                  ·intro w'
                   go_simp
                   with_reducible rfl
                  rotate_left
                  ·simp only [Act.put, List.setIfInBounds_toArray, List.set_cons_zero, List.set_cons_succ, i64_w, i32_w]
                   rfl
                  refine last_ (i := 10) (N := none) #[true, true, true, true, true, true, true, true, true, true, true] rfl rfl (one_of HT_.out (by kernel_rfl)) (by decide) (fun K hK => ?_)
                  have hs39 : w38.cell? ⟨gb351, 4, none⟩ = some (.int .i64 (wrap64 (bt a0 (ji17)))) := (blk_cell BK351.out 4).trans rfl
                  have hfs39 := blk_frozen BK351.out 4
                  refine skip_ (w1 := ?_) (by rfl) rfl ?_ ?_
                  rotate_left
                  ·go_simp
                   rfl
                  refine hK.out _ _ ?_
                  clear hK K
                  refine done_ (done_of HT_.out (by kernel_rfl)) ?_
                  try go_wp2
                  go_meet
                  case rel => exact ⟨_, (8), (wrap64 ((wrap64 (bt a0 (ji17))) + (wrap64 (256 * (wrap64 (bt a0 (ji33))))))), (by first | rfl | (simp; done) | (simp [*]; done)), H', ⟨by have := HK1.out; first | omega | exact Nat.le_refl _⟩, ⟨by (with_reducible repeat (first | apply Kd.R_alloc | apply Kd.R_drewN | apply Kd.R_drew)); exact Kd.R_mono (Kd.R_far (p := ⟨gb351, 4, none⟩) (Kd.R_mono HO_5.out (fun k_ hk => (⟨hk, hk⟩ : _ ∧ k_ ≠ gb351))) (fun _ hk => hk.2) (.int .i64 (wrap64 ((wrap64 (bt a0 (ji17))) + (wrap64 (256 * (wrap64 (bt a0 (ji33))))))))) (fun _ hk => hk.1)⟩, ⟨by (with_reducible repeat (first | refine blk_drewN ?_ _ | refine blk_drew ?_ | refine blk_alloc ?_ _)); refine blk_put (cs := #[.int .i64 (Int.tmod (wrap64 (bt a0 x6_1)) 16), .int .i64 (wrap64 (Int.tdiv (wrap64 (bt a0 x6_1)) 16)), .int .i64 (wrap64 (Int.tdiv (wrap64 (bt a0 (ji8))) 16)), .int .i64 (Int.tmod (wrap64 (bt a0 (ji8))) 16), .int .i64 (wrap64 (bt a0 (ji17))), .int .i64 (wrap64 (bt a0 (ji13)))]) ?_ 4 _ rfl; (with_reducible repeat (first | refine blk_drewN ?_ _ | refine blk_drew ?_ | refine blk_alloc ?_ _)); exact BK351.out⟩, ⟨by repeat (first | (with_reducible first | exact HB.out | apply below_alloc | apply pw_below_drewN | apply below_drew1 | refine below_set ?_ GE351.out) | exact HB.out)⟩⟩
                 ·rw [if_neg c35] at H
                  exact absurd H (by simp)
                ·rw [if_neg c34] at H
                 exact absurd H (by simp)
              ·rw [if_neg c31] at H
               have c31b0 : ((Int.tmod (wrap64 (bt a0 x6_1)) 16) == 4) = false := beq_eq_false_iff_ne.mpr c31
               have c31b1 : ((Int.tmod (wrap64 (bt a0 x6_1)) 16) != 4) = true := bne_iff_ne.mpr c31
               (first | rw [c31b0] | (simp only [i64_w, i32_w]; rw [c31b0]) | skip)
               have H' := Aside0.mk H
               clear H
               go_wp2
               go_meet
               case rel => exact ⟨_, (4), (wrap64 (bt a0 (ji17))), (by first | rfl | (simp; done) | (simp [*]; done)), H', ⟨by have := HK1.out; first | omega | exact Nat.le_refl _⟩, ⟨by (with_reducible repeat (first | apply Kd.R_alloc | apply Kd.R_drewN | apply Kd.R_drew)); exact Kd.R_mono (Kd.R_far (p := ⟨gb351, 5, none⟩) (Kd.R_far (p := ⟨gb351, 4, none⟩) (Kd.R_far (p := ⟨gb351, 3, none⟩) (Kd.R_far (p := ⟨gb351, 2, none⟩) (Kd.R_far (p := ⟨gb351, 1, none⟩) (Kd.R_far (p := ⟨gb351, 0, none⟩) (Kd.R_mono HO_5.out (fun k_ hk => (⟨hk, hk.2⟩ : _ ∧ k_ ≠ gb351))) (fun _ hk => hk.2) (.int .i64 (Int.tmod (wrap64 (bt a0 x6_1)) 16))) (fun _ hk => hk.2) (.int .i64 (wrap64 (Int.tdiv (wrap64 (bt a0 x6_1)) 16)))) (fun _ hk => hk.2) (.int .i64 (wrap64 (Int.tdiv (wrap64 (bt a0 (ji8))) 16)))) (fun _ hk => hk.2) (.int .i64 (Int.tmod (wrap64 (bt a0 (ji8))) 16))) (fun _ hk => hk.2) (.int .i64 (wrap64 (bt a0 (ji17))))) (fun _ hk => hk.2) (.int .i64 (wrap64 (bt a0 (ji13))))) (fun _ hk => hk.1.2)⟩, ⟨by (with_reducible repeat (first | refine blk_drewN ?_ _ | refine blk_drew ?_ | refine blk_alloc ?_ _)); refine blk_put (cs := #[.int .i64 (Int.tmod (wrap64 (bt a0 x6_1)) 16), .int .i64 (wrap64 (Int.tdiv (wrap64 (bt a0 x6_1)) 16)), .int .i64 (wrap64 (Int.tdiv (wrap64 (bt a0 (ji8))) 16)), .int .i64 (Int.tmod (wrap64 (bt a0 (ji8))) 16), .int .i64 (wrap64 (bt a0 (ji17))), .int .i64 0]) ?_ 5 _ rfl; (with_reducible repeat (first | refine blk_drewN ?_ _ | refine blk_drew ?_ | refine blk_alloc ?_ _)); refine blk_put (cs := #[.int .i64 (Int.tmod (wrap64 (bt a0 x6_1)) 16), .int .i64 (wrap64 (Int.tdiv (wrap64 (bt a0 x6_1)) 16)), .int .i64 (wrap64 (Int.tdiv (wrap64 (bt a0 (ji8))) 16)), .int .i64 (Int.tmod (wrap64 (bt a0 (ji8))) 16), .int .i64 0, .int .i64 0]) ?_ 4 _ rfl; (with_reducible repeat (first | refine blk_drewN ?_ _ | refine blk_drew ?_ | refine blk_alloc ?_ _)); refine blk_put (cs := #[.int .i64 (Int.tmod (wrap64 (bt a0 x6_1)) 16), .int .i64 (wrap64 (Int.tdiv (wrap64 (bt a0 x6_1)) 16)), .int .i64 (wrap64 (Int.tdiv (wrap64 (bt a0 (ji8))) 16)), .int .i64 0, .int .i64 0, .int .i64 0]) ?_ 3 _ rfl; (with_reducible repeat (first | refine blk_drewN ?_ _ | refine blk_drew ?_ | refine blk_alloc ?_ _)); refine blk_put (cs := #[.int .i64 (Int.tmod (wrap64 (bt a0 x6_1)) 16), .int .i64 (wrap64 (Int.tdiv (wrap64 (bt a0 x6_1)) 16)), .int .i64 0, .int .i64 0, .int .i64 0, .int .i64 0]) ?_ 2 _ rfl; (with_reducible repeat (first | refine blk_drewN ?_ _ | refine blk_drew ?_ | refine blk_alloc ?_ _)); refine blk_put (cs := #[.int .i64 (Int.tmod (wrap64 (bt a0 x6_1)) 16), .int .i64 0, .int .i64 0, .int .i64 0, .int .i64 0, .int .i64 0]) ?_ 1 _ rfl; (with_reducible repeat (first | refine blk_drewN ?_ _ | refine blk_drew ?_ | refine blk_alloc ?_ _)); refine blk_put (cs := #[.int .i64 0, .int .i64 0, .int .i64 0, .int .i64 0, .int .i64 0, .int .i64 0]) ?_ 0 _ rfl; (with_reducible repeat (first | refine blk_drewN ?_ _ | refine blk_drew ?_ | refine blk_alloc ?_ _)); exact BK351.out⟩, ⟨by repeat (first | (with_reducible first | exact HB.out | apply below_alloc | apply pw_below_drewN | apply below_drew1 | refine below_set ?_ GE351.out) | exact HB.out)⟩⟩
             case rest =>
              clear HC21
              try clear c1
              try clear p1
              try clear q1
              try clear hx1
              try clear c2
              try clear c2b0
              try clear c2b1
              try clear p2
              try clear q2
              try clear hx2
              try clear c3
              try clear c3b0
              try clear p3
              try clear q3
              try clear hx3
              try clear c4
              try clear c4b0
              try clear c5
              try clear c5b0
              try clear p6
              try clear q6
              try clear hx6
              try clear p7
              try clear q7
              try clear hx7
              try clear c9
              try clear c9b0
              try clear c10
              try clear c10b0
              try clear p11
              try clear q11
              try clear hx11
              try clear p12
              try clear q12
              try clear hx12
              try clear c14
              try clear c14b0
              try clear c15
              try clear c15b0
              try clear p16
              try clear q16
              try clear hx16
              try clear c18
              try clear c18b0
              try clear c19
              try clear c19b0
              try clear p20
              try clear q20
              try clear hx20
              try clear c31
              try clear c31b0
              try clear c31b1
              try clear c32
              try clear c32b0
              try clear c34
              try clear c34b0
              try clear c35
              try clear c35b0
              try clear p36
              try clear q36
              try clear hx36
              try clear hcz30_0
              try clear hcz30_1
              try clear hcz30_2
              try clear hcz30_3
              try clear hcz30_4
              try clear hcz30_5
              try clear hfz30_0
              try clear hfz30_1
              try clear hfz30_2
              try clear hfz30_3
              try clear hfz30_4
              try clear hfz30_5
              try clear p11
              try clear p12
              try clear p16
              try clear p2
              try clear p20
              try clear p36
              try clear p6
              try clear p7
              try clear q11
              try clear q12
              try clear q16
              try clear q20
              try clear q36
              try clear q6
              try clear q7
              obtain ⟨kq, x8_20, x352004_20, rfl, HA, HJ20, HO_5, BK351, HB⟩ := hcut
              cases kq with
              | zero => exact absurd HA.out (by simp [spec_ReadProgram.j1])
              | succ kj20 =>
               have H := HA.out
               clear HA
               simp only [spec_ReadProgram.j1] at H
               replace H := Option.bind_eq_some_iff.mp H
               obtain ⟨t352, A400, H⟩ := H
               (try dsimp only at H)
               have A40 := Aside0.mk A400
               clear A400
               by_cases c41 : t352 = true
               ·subst c41
                have H1 : ((spec_l2Bytes.f (Int.tmod (wrap64 (bt a0 x6_1)) 16) (wrap64 (Int.tdiv (wrap64 (bt a0 x6_1)) 16)) (wrap64 (Int.tdiv (wrap64 (bt a0 (ji8))) 16)) (Int.tmod (wrap64 (bt a0 (ji8))) 16) x352004_20 (wrap64 (bt a0 (ji13)))).bind fun t353 => (if 0 ≤ x6_1 then (if x6_1 ≤ (wrap64 (x6_1 + x8_20)) then (if (wrap64 (x6_1 + x8_20)) ≤ (a0.size : Int) then (if t353.toList = (a0.extract (x6_1 : Int).toNat ((wrap64 (x6_1 + x8_20)) : Int).toNat).toList then (if x5_1.length < 2932031007402 then (spec_ReadProgram.l0 kj20 a0 (x5_1 ++ [(⟨(Int.tmod (wrap64 (bt a0 x6_1)) 16), (wrap64 (Int.tdiv (wrap64 (bt a0 x6_1)) 16)), (wrap64 (Int.tdiv (wrap64 (bt a0 (ji8))) 16)), (Int.tmod (wrap64 (bt a0 (ji8))) 16), x352004_20, (wrap64 (bt a0 (ji13)))⟩ : S48)]) (wrap64 (x6_1 + x8_20))) else (none)) else (some (([] : List (S48)), 2, false))) else (none)) else (none)) else (none))) = some (r1, r2, r3) := by rw [if_pos rfl] at H; exact H
                clear H
                have H := H1
                clear H1
                replace H := Option.bind_eq_some_iff.mp H
                obtain ⟨t353, A420, H⟩ := H
                (try dsimp only at H)
                have A42 := Aside0.mk A420
                clear A420
                by_cases c43 : 0 ≤ x6_1
                ·rw [if_pos c43] at H
                 have c43b0 := eq_true c43
                 have c43b1 : decide (0 ≤ x6_1) = true := decide_eq_true c43
                 clear c43
                 by_cases c44 : x6_1 ≤ (wrap64 (x6_1 + x8_20))
                 ·rw [if_pos c44] at H
                  have c44b0 := eq_true c44
                  have c44b1 : decide (x6_1 ≤ (wrap64 (x6_1 + x8_20))) = true := decide_eq_true c44
                  by_cases c45 : (wrap64 (x6_1 + x8_20)) ≤ (a0.size : Int)
                  ·rw [if_pos c45] at H
                   have c45b0 := eq_true c45
                   have c45b1 : decide ((wrap64 (x6_1 + x8_20)) ≤ (a0.size : Int)) = true := decide_eq_true c45
                   by_cases c46 : t353.toList = (a0.extract (x6_1 : Int).toNat ((wrap64 (x6_1 + x8_20)) : Int).toNat).toList
                   ·rw [if_pos c46] at H
                    have c46b0 : (t353.toList == (a0.extract (x6_1 : Int).toNat ((wrap64 (x6_1 + x8_20)) : Int).toNat).toList) = true := beq_iff_eq.mpr c46
                    have c46b1 : (t353.toList != (a0.extract (x6_1 : Int).toNat ((wrap64 (x6_1 + x8_20)) : Int).toNat).toList) = false := bne_eq_false_iff_eq.mpr c46
                    clear c46
                    by_cases c47 : x5_1.length < 2932031007402
                    ·rw [if_pos c47] at H
                     have LMc47 := Aside0.mk c47
                     clear c47
                     obtain ⟨y354, hy354⟩ : ∃ y_ : List (S48), y_ = (x5_1 ++ [(⟨(Int.tmod (wrap64 (bt a0 x6_1)) 16), (wrap64 (Int.tdiv (wrap64 (bt a0 x6_1)) 16)), (wrap64 (Int.tdiv (wrap64 (bt a0 (ji8))) 16)), (Int.tmod (wrap64 (bt a0 (ji8))) 16), x352004_20, (wrap64 (bt a0 (ji13)))⟩ : S48)]) := ⟨_, rfl⟩
                     replace H : (spec_ReadProgram.l0 kj20 a0 y354 (wrap64 (x6_1 + x8_20))) = some (r1, r2, r3) := by first | (rw [hy354]; with_reducible exact H) | (have H2_ := (Option.bind_some _ _).symm.trans H; rw [hy354]; with_reducible exact H2_) | (have H2_ := (Option.bind_some _ _).symm.trans H; with_reducible exact H2_) | with_reducible exact H | (rw [hy354]; exact H) | exact H
                     have Ny354 := Aside0.mk hy354
                     clear hy354
                     have H' := Aside0.mk H
                     clear H
                     try go_wp2
                     have n0_ := Aside0.mk (Kd.R_drew HO_5.out)
                     have n1_ := Aside0.mk (blk_drew BK351.out)
                     have n2_ := Aside0.mk (below_drew1 HB.out)
                     clear HO_5
                     clear BK351
                     clear HB
                     have HO_5 := n0_
                     have BK351 := n1_
                     have HB := n2_
                     clear n0_ n1_ n2_
                     refine start_ (n := 14) (S := fun w' => w'.cell? ⟨gb351, 0, none⟩ = some (.int .i64 (Int.tmod (wrap64 (bt a0 x6_1)) 16)) ∧ w'.cell? ⟨gb351, 1, none⟩ = some (.int .i64 (wrap64 (Int.tdiv (wrap64 (bt a0 x6_1)) 16))) ∧ w'.cell? ⟨gb351, 2, none⟩ = some (.int .i64 (wrap64 (Int.tdiv (wrap64 (bt a0 (ji8))) 16))) ∧ w'.cell? ⟨gb351, 3, none⟩ = some (.int .i64 (Int.tmod (wrap64 (bt a0 (ji8))) 16)) ∧ w'.cell? ⟨gb351, 4, none⟩ = some (.int .i64 x352004_20) ∧ w'.cell? ⟨gb351, 5, none⟩ = some (.int .i64 (wrap64 (bt a0 (ji13))))) (ds := []) #[false, false, false, false, false, false, false, false, false, false, false, false, false, false] (by kernel_rfl) rfl rfl ⟨(blk_cell BK351.out 0).trans rfl, (blk_cell BK351.out 1).trans rfl, (blk_cell BK351.out 2).trans rfl, (blk_cell BK351.out 3).trans rfl, (blk_cell BK351.out 4).trans rfl, (blk_cell BK351.out 5).trans rfl⟩ (fun hHeld => ?_); refine with_tabW spec_ReadProgram.tab15 spec_ReadProgram.bits15 (fun HT_ HW_ => ?_)
                     generalize wc.drew = w48 at HO_5 BK351 HB hHeld ⊢
                     refine take_ (i := 0) (N := some 72) (v := ?_) (a' := ?_) #[true, false, false, false, false, false, false, false, false, false, false, false, false, false] rfl rfl (take_ofW HT_.out HW_.out (by kernel_rfl)) (fun _ _ _ h => h) (Or.inl ⟨by rfl, ?_⟩) hHeld ?_ ?_
                     rotate_left
                     ·rintro w' ⟨s0, s1, s2, s3, s4, s5⟩
                      go_simp
                      with_reducible rfl
                     rotate_left
                     ·simp only [Act.put, List.setIfInBounds_toArray, List.set_cons_zero, List.set_cons_succ, i64_w, i32_w]
                      rfl
                     refine one_ (i := 1) (N := some 73) #[true, true, false, false, false, false, false, false, false, false, false, false, false, false] rfl rfl (one_of HT_.out (by kernel_rfl)) (by decide) (fun K hK => ?_)
                     refine goes_ Try.func87 (by kernel_rfl) rfl #[.agg #[.int .i64 (Int.tmod (wrap64 (bt a0 x6_1)) 16), .int .i64 (wrap64 (Int.tdiv (wrap64 (bt a0 x6_1)) 16)), .int .i64 (wrap64 (Int.tdiv (wrap64 (bt a0 (ji8))) 16)), .int .i64 (Int.tmod (wrap64 (bt a0 (ji8))) 16), .int .i64 x352004_20, .int .i64 (wrap64 (bt a0 (ji13)))]] (by rfl) rfl rfl (by (try simp only [List.map_toArray, List.map_cons, List.map_nil]); first | done | (simp only [hji13, hji8]; rfl) | rfl | (simp only [List.length_drop, List.length_take]; rfl)) ?_
                     with_reducible refine (spec_l2Step.calls kj20 (Int.tmod (wrap64 (bt a0 x6_1)) 16) (wrap64 (Int.tdiv (wrap64 (bt a0 x6_1)) 16)) (wrap64 (Int.tdiv (wrap64 (bt a0 (ji8))) 16)) (Int.tmod (wrap64 (bt a0 (ji8))) 16) x352004_20 (wrap64 (bt a0 (ji13))) true _ A40.out).mono ?_
                     rintro e w49 ⟨rfl, hb⟩
                     refine ⟨_, rfl, ?_⟩
                     have n0_ := Aside0.mk (Kd.R_below (zR_ HO_5.out) hb)
                     have n1_ := Aside0.mk (blk_below (g := gb351) (o := .cells #[.int .i64 (Int.tmod (wrap64 (bt a0 x6_1)) 16), .int .i64 (wrap64 (Int.tdiv (wrap64 (bt a0 x6_1)) 16)), .int .i64 (wrap64 (Int.tdiv (wrap64 (bt a0 (ji8))) 16)), .int .i64 (Int.tmod (wrap64 (bt a0 (ji8))) 16), .int .i64 x352004_20, .int .i64 (wrap64 (bt a0 (ji13)))] 48 (0, 0)) (by (with_reducible repeat (first | refine blk_drewN ?_ _ | refine blk_drew ?_ | refine blk_alloc ?_ _)); exact BK351.out) hb)
                     have n2_ := Aside0.mk (below_step (by repeat (first | (with_reducible first | exact HB.out | apply below_alloc | apply pw_below_drewN | apply below_drew1 | refine below_set ?_ GE351.out) | exact HB.out)) hb)
                     clear HO_5
                     clear BK351
                     clear HB
                     have HO_5 := n0_
                     have BK351 := n1_
                     have HB := n2_
                     clear n0_ n1_ n2_
                     (try clear hb)
                     (try clear hb2)
                     (try clear hk)
                     (try clear hi)
                     refine hK.out _ _ ⟨(blk_cell BK351.out 0).trans rfl, (blk_cell BK351.out 1).trans rfl, (blk_cell BK351.out 2).trans rfl, (blk_cell BK351.out 3).trans rfl, (blk_cell BK351.out 4).trans rfl, (blk_cell BK351.out 5).trans rfl⟩ (fun hHeld => ?_)
                     clear hK K
                     refine norm_ (a' := ?_) ?_ ?_
                     rotate_left
                     ·show Act.put _ (some 73) _ = _
                      simp only [Act.put, List.setIfInBounds_toArray, List.set_cons_zero, List.set_cons_succ, i64_w, i32_w]
                      rfl
                     refine pure_ (i := 2) (N := some 74) (v := ?_) (a' := ?_) #[true, true, true, false, false, false, false, false, false, false, false, false, false, false] rfl rfl (any_of HT_.out (by kernel_rfl)) (fun _ _ _ h => h) (Or.inl ⟨by rfl, ?_⟩) ?_ ?_
                     rotate_left
                     ·intro w'
                      go_simp
                      with_reducible rfl
                     rotate_left
                     ·simp only [Act.put, List.setIfInBounds_toArray, List.set_cons_zero, List.set_cons_succ, i64_w, i32_w]
                      rfl
                     refine pure_ (i := 3) (N := some 75) (v := ?_) (a' := ?_) #[true, true, true, true, false, false, false, false, false, false, false, false, false, false] rfl rfl (any_of HT_.out (by kernel_rfl)) (fun _ _ _ h => h) (Or.inl ⟨by rfl, ?_⟩) ?_ ?_
                     rotate_left
                     ·intro w'
                      go_simp
                      with_reducible rfl
                     rotate_left
                     ·simp only [Act.put, List.setIfInBounds_toArray, List.set_cons_zero, List.set_cons_succ, i64_w, i32_w]
                      rfl
                     refine pure_ (i := 6) (N := some 78) (v := ?_) (a' := ?_) #[true, true, true, true, false, false, true, false, false, false, false, false, false, false] rfl rfl (any_of HT_.out (by kernel_rfl)) (fun _ _ _ h => h) (Or.inl ⟨by rfl, ?_⟩) ?_ ?_
                     rotate_left
                     ·intro w'
                      go_simp
                      with_reducible rfl
                     rotate_left
                     ·simp only [Act.put, List.setIfInBounds_toArray, List.set_cons_zero, List.set_cons_succ, i64_w, i32_w]
                      rfl
                     refine pure_ (i := 7) (N := some 79) (v := ?_) (a' := ?_) #[true, true, true, true, false, false, true, true, false, false, false, false, false, false] rfl rfl (any_of HT_.out (by kernel_rfl)) (fun _ _ _ h => h) (Or.inl ⟨by rfl, ?_⟩) ?_ ?_
                     rotate_left
                     ·intro w'
                      go_simp
                      with_reducible rfl
                     rotate_left
                     ·simp only [Act.put, List.setIfInBounds_toArray, List.set_cons_zero, List.set_cons_succ, i64_w, i32_w]
                      rfl
                     refine pure_ (i := 8) (N := some 80) (v := ?_) (a' := ?_) #[true, true, true, true, false, false, true, true, true, false, false, false, false, false] rfl rfl (any_of HT_.out (by kernel_rfl)) (fun _ _ _ h => h) (Or.inl ⟨by rfl, ?_⟩) ?_ ?_
                     rotate_left
                     ·intro w'
                      go_simp
                      with_reducible rfl
                     rotate_left
                     ·simp only [Act.put, List.setIfInBounds_toArray, List.set_cons_zero, List.set_cons_succ, i64_w, i32_w]
                      rfl
                     refine pure_ (i := 9) (N := some 81) (v := ?_) (a' := ?_) #[true, true, true, true, false, false, true, true, true, true, false, false, false, false] rfl rfl (any_of HT_.out (by kernel_rfl)) (fun _ _ _ h => h) (Or.inl ⟨by rfl, ?_⟩) ?_ ?_
                     rotate_left
                     ·intro w'
                      go_simp
                      with_reducible rfl
                     rotate_left
                     ·simp only [Act.put, List.setIfInBounds_toArray, List.set_cons_zero, List.set_cons_succ, i64_w, i32_w]
                      rfl
                     refine pure_ (i := 10) (N := some 82) (v := ?_) (a' := ?_) #[true, true, true, true, false, false, true, true, true, true, true, false, false, false] rfl rfl (any_of HT_.out (by kernel_rfl)) (fun _ _ _ h => h) (Or.inl ⟨by rfl, ?_⟩) ?_ ?_
                     rotate_left
                     ·intro w'
                      go_simp
                      with_reducible rfl
                     rotate_left
                     ·simp only [Act.put, List.setIfInBounds_toArray, List.set_cons_zero, List.set_cons_succ, i64_w, i32_w]
                      rfl
                     refine pure_ (i := 11) (N := some 83) (v := ?_) (a' := ?_) #[true, true, true, true, false, false, true, true, true, true, true, true, false, false] rfl rfl (any_of HT_.out (by kernel_rfl)) (fun _ _ _ h => h) (Or.inl ⟨by rfl, ?_⟩) ?_ ?_
                     rotate_left
                     ·intro w'
                      go_simp
                      with_reducible rfl
                     rotate_left
                     ·simp only [Act.put, List.setIfInBounds_toArray, List.set_cons_zero, List.set_cons_succ, i64_w, i32_w]
                      rfl
                     refine take_ (i := 4) (N := some 76) (v := ?_) (a' := ?_) #[true, true, true, true, true, false, true, true, true, true, true, true, false, false] rfl rfl (take_ofW HT_.out HW_.out (by kernel_rfl)) (fun _ _ _ h => h) (Or.inl ⟨by rfl, ?_⟩) hHeld ?_ ?_
                     rotate_left
                     ·rintro w' ⟨s0, s1, s2, s3, s4, s5⟩
                      go_simp
                      with_reducible rfl
                     rotate_left
                     ·simp only [Act.put, List.setIfInBounds_toArray, List.set_cons_zero, List.set_cons_succ, i64_w, i32_w]
                      rfl
                     refine one_ (i := 5) (N := some 77) #[true, true, true, true, true, true, true, true, true, true, true, true, false, false] rfl rfl (one_of HT_.out (by kernel_rfl)) (by decide) (fun K hK => ?_)
                     refine goes_ Try.func80 (by kernel_rfl) rfl #[.agg #[.int .i64 (Int.tmod (wrap64 (bt a0 x6_1)) 16), .int .i64 (wrap64 (Int.tdiv (wrap64 (bt a0 x6_1)) 16)), .int .i64 (wrap64 (Int.tdiv (wrap64 (bt a0 (ji8))) 16)), .int .i64 (Int.tmod (wrap64 (bt a0 (ji8))) 16), .int .i64 x352004_20, .int .i64 (wrap64 (bt a0 (ji13)))]] (by rfl) rfl rfl (by (try simp only [List.map_toArray, List.map_cons, List.map_nil]); first | done | (simp only [hji13, hji8]; rfl) | rfl | (simp only [List.length_drop, List.length_take]; rfl)) ?_
                     with_reducible refine (spec_l2Bytes.calls (Int.tmod (wrap64 (bt a0 x6_1)) 16) (wrap64 (Int.tdiv (wrap64 (bt a0 x6_1)) 16)) (wrap64 (Int.tdiv (wrap64 (bt a0 (ji8))) 16)) (Int.tmod (wrap64 (bt a0 (ji8))) 16) x352004_20 (wrap64 (bt a0 (ji13))) t353 _ A42.out).mono ?_
                     rintro e w50 ⟨rfl, hb⟩
                     refine ⟨_, rfl, ?_⟩
                     have n0_ := Aside0.mk (Kd.R_below (zR_ HO_5.out) hb)
                     have n1_ := Aside0.mk (blk_below (g := gb351) (o := .cells #[.int .i64 (Int.tmod (wrap64 (bt a0 x6_1)) 16), .int .i64 (wrap64 (Int.tdiv (wrap64 (bt a0 x6_1)) 16)), .int .i64 (wrap64 (Int.tdiv (wrap64 (bt a0 (ji8))) 16)), .int .i64 (Int.tmod (wrap64 (bt a0 (ji8))) 16), .int .i64 x352004_20, .int .i64 (wrap64 (bt a0 (ji13)))] 48 (0, 0)) (by (with_reducible repeat (first | refine blk_drewN ?_ _ | refine blk_drew ?_ | refine blk_alloc ?_ _)); exact BK351.out) hb)
                     have n2_ := Aside0.mk (below_step (by repeat (first | (with_reducible first | exact HB.out | apply below_alloc | apply pw_below_drewN | apply below_drew1 | refine below_set ?_ GE351.out) | exact HB.out)) hb)
                     clear HO_5
                     clear BK351
                     clear HB
                     have HO_5 := n0_
                     have BK351 := n1_
                     have HB := n2_
                     clear n0_ n1_ n2_
                     (try clear hb)
                     (try clear hb2)
                     (try clear hk)
                     (try clear hi)
                     refine hK.out _ _ ⟨(blk_cell BK351.out 0).trans rfl, (blk_cell BK351.out 1).trans rfl, (blk_cell BK351.out 2).trans rfl, (blk_cell BK351.out 3).trans rfl, (blk_cell BK351.out 4).trans rfl, (blk_cell BK351.out 5).trans rfl⟩ (fun hHeld => ?_)
                     clear hK K
                     refine norm_ (a' := ?_) ?_ ?_
                     rotate_left
                     ·show Act.put _ (some 77) _ = _
                      simp only [Act.put, List.setIfInBounds_toArray, List.set_cons_zero, List.set_cons_succ, i64_w, i32_w]
                      rfl
                     refine pure_ (i := 12) (N := some 84) (v := ?_) (a' := ?_) #[true, true, true, true, true, true, true, true, true, true, true, true, true, false] rfl rfl (any_of HT_.out (by kernel_rfl)) (fun _ _ _ h => h) (Or.inl ⟨by rfl, ?_⟩) ?_ ?_
                     rotate_left
                     ·intro w'
                      go_simp
                      with_reducible rfl
                     rotate_left
                     ·simp only [Act.put, List.setIfInBounds_toArray, List.set_cons_zero, List.set_cons_succ, i64_w, i32_w]
                      rfl
                     refine pure_ (i := 13) (N := some 85) (v := ?_) (a' := ?_) #[true, true, true, true, true, true, true, true, true, true, true, true, true, true] rfl rfl (any_of HT_.out (by kernel_rfl)) (fun _ _ _ h => h) (Or.inl ⟨by rfl, ?_⟩) ?_ ?_
                     rotate_left
                     ·intro w'
                      go_simp
                      with_reducible rfl
                     rotate_left
                     ·simp only [Act.put, List.setIfInBounds_toArray, List.set_cons_zero, List.set_cons_succ, i64_w, i32_w]
                      rfl
                     refine done_ (done_of HT_.out (by kernel_rfl)) ?_
                     have hcz51_0 : w50.cell? ⟨gb351, 0, none⟩ = some (.int .i64 (Int.tmod (wrap64 (bt a0 x6_1)) 16)) := (blk_cell BK351.out 0).trans rfl
                     have hcz51_1 : w50.cell? ⟨gb351, 1, none⟩ = some (.int .i64 (wrap64 (Int.tdiv (wrap64 (bt a0 x6_1)) 16))) := (blk_cell BK351.out 1).trans rfl
                     have hcz51_2 : w50.cell? ⟨gb351, 2, none⟩ = some (.int .i64 (wrap64 (Int.tdiv (wrap64 (bt a0 (ji8))) 16))) := (blk_cell BK351.out 2).trans rfl
                     have hcz51_3 : w50.cell? ⟨gb351, 3, none⟩ = some (.int .i64 (Int.tmod (wrap64 (bt a0 (ji8))) 16)) := (blk_cell BK351.out 3).trans rfl
                     have hcz51_4 : w50.cell? ⟨gb351, 4, none⟩ = some (.int .i64 x352004_20) := (blk_cell BK351.out 4).trans rfl
                     have hcz51_5 : w50.cell? ⟨gb351, 5, none⟩ = some (.int .i64 (wrap64 (bt a0 (ji13)))) := (blk_cell BK351.out 5).trans rfl
                     have hfz51_0 := blk_frozen BK351.out 0
                     have hfz51_1 := blk_frozen BK351.out 1
                     have hfz51_2 := blk_frozen BK351.out 2
                     have hfz51_3 := blk_frozen BK351.out 3
                     have hfz51_4 := blk_frozen BK351.out 4
                     have hfz51_5 := blk_frozen BK351.out 5
                     try go_wp2_with (first | ((with_reducible refine gate_builtin (b := .append) (xs := #[.tmp 86, .tmp 88]) rfl ?_); at_builtin; refine Kd.R_append k48 (w0 := w) w.heap.size rfl (.tmp 86) (.tmp 88) 35 48 (.agg #[(.int .i64 0), (.int .i64 0), (.int .i64 0), (.int .i64 0), (.int .i64 0), (.int .i64 0)]) 48 rfl Try.underlying35 info48 rfl (by decide) (by omega) u5 x5_1 (⟨(Int.tmod (wrap64 (bt a0 x6_1)) 16), (wrap64 (Int.tdiv (wrap64 (bt a0 x6_1)) 16)), (wrap64 (Int.tdiv (wrap64 (bt a0 (ji8))) 16)), (Int.tmod (wrap64 (bt a0 (ji8))) 16), x352004_20, (wrap64 (bt a0 (ji13)))⟩ : S48) [.int .i64 (Int.tmod (wrap64 (bt a0 x6_1)) 16), .int .i64 (wrap64 (Int.tdiv (wrap64 (bt a0 x6_1)) 16)), .int .i64 (wrap64 (Int.tdiv (wrap64 (bt a0 (ji8))) 16)), .int .i64 (Int.tmod (wrap64 (bt a0 (ji8))) 16), .int .i64 x352004_20, .int .i64 (wrap64 (bt a0 (ji13)))] (fun k_ => k_ ≠ gb351) (fun _ => False) rfl rfl ?aP (fun _ hk => hk.elim) ?aF ?aO ?aB ?aS ?aL ?_; (case aP => exact k48_mkM _ _ _ (⟨(Int.tmod (wrap64 (bt a0 x6_1)) 16), (wrap64 (Int.tdiv (wrap64 (bt a0 x6_1)) 16)), (wrap64 (Int.tdiv (wrap64 (bt a0 (ji8))) 16)), (Int.tmod (wrap64 (bt a0 (ji8))) 16), x352004_20, (wrap64 (bt a0 (ji13)))⟩ : S48)); (case aB => exact (by repeat (first | (with_reducible first | exact HB.out | apply below_alloc | apply pw_below_drewN | apply below_drew1 | refine below_set ?_ GE351.out) | exact HB.out))); (case aF => exact (fun k_ hk => Kd.freshB (g := gb351) (o := .cells #[.int .i64 (Int.tmod (wrap64 (bt a0 x6_1)) 16), .int .i64 (wrap64 (Int.tdiv (wrap64 (bt a0 x6_1)) 16)), .int .i64 (wrap64 (Int.tdiv (wrap64 (bt a0 (ji8))) 16)), .int .i64 (Int.tmod (wrap64 (bt a0 (ji8))) 16), .int .i64 x352004_20, .int .i64 (wrap64 (bt a0 (ji13)))] 48 (0, 0)) (by (with_reducible repeat (first | refine blk_drewN ?_ _ | refine blk_drew ?_ | refine blk_alloc ?_ _)); exact BK351.out) k_ hk)); (case aO => exact (zR_ HO_5.out)); (case aS => exact (below_size (by repeat (first | (with_reducible first | exact HB.out | apply below_alloc | apply pw_below_drewN | apply below_drew1 | refine below_set ?_ GE351.out) | exact HB.out)))); (case aL => have := LMc47.out; omega); intro v355 w52 ho hb hg hat; rw [← Ny354.out] at ho; have n0_ := Aside0.mk (blk_grown (g := gb351) (o := .cells #[.int .i64 (Int.tmod (wrap64 (bt a0 x6_1)) 16), .int .i64 (wrap64 (Int.tdiv (wrap64 (bt a0 x6_1)) 16)), .int .i64 (wrap64 (Int.tdiv (wrap64 (bt a0 (ji8))) 16)), .int .i64 (Int.tmod (wrap64 (bt a0 (ji8))) 16), .int .i64 x352004_20, .int .i64 (wrap64 (bt a0 (ji13)))] 48 (0, 0)) (by (with_reducible repeat (first | refine blk_drewN ?_ _ | refine blk_drew ?_ | refine blk_alloc ?_ _)); exact BK351.out) hg (Kd.R_away HO_5.out (fun _ hk => hk))); have n1_ := Aside0.mk (hb); have n2_ := Aside0.mk (ho); clear BK351; clear HB; clear HO_5; have BK351 := n0_; have HB := n1_; have HO356 := n2_; clear n0_ n1_ n2_; clear ho hb hg hat))
                     go_roundg kj20
                     case measure => have := HK1.out; have := HJ20.out; omega
                     case rel => exact ⟨(y354), (wrap64 (x6_1 + x8_20)), (by first | rfl | (simp; done) | (simp [*]; done)), H', ⟨by have := HK1.out; have := HJ20.out; omega⟩, ⟨by (with_reducible repeat (first | apply Kd.R_alloc | apply Kd.R_drewN | apply Kd.R_drew)); exact Kd.R_mono HO356.out (fun _ hk => trivial)⟩, ⟨by repeat (first | (with_reducible first | exact HB.out | apply below_alloc | apply pw_below_drewN | apply below_drew1 | refine below_set ?_ GE351.out) | exact HB.out)⟩⟩
                    ·rw [if_neg c47] at H
                     exact absurd H (by simp)
                   ·rw [if_neg c46] at H
                    have c46b0 : (t353.toList == (a0.extract (x6_1 : Int).toNat ((wrap64 (x6_1 + x8_20)) : Int).toNat).toList) = false := beq_eq_false_iff_ne.mpr c46
                    have c46b1 : (t353.toList != (a0.extract (x6_1 : Int).toNat ((wrap64 (x6_1 + x8_20)) : Int).toNat).toList) = true := bne_iff_ne.mpr c46
                    simp only [Option.some.injEq, Prod.mk.injEq] at H
                    obtain ⟨rfl, rfl, rfl⟩ := H
                    try go_wp2
                    have n0_ := Aside0.mk (Kd.R_drew HO_5.out)
                    have n1_ := Aside0.mk (blk_drew BK351.out)
                    have n2_ := Aside0.mk (below_drew1 HB.out)
                    clear HO_5
                    clear BK351
                    clear HB
                    have HO_5 := n0_
                    have BK351 := n1_
                    have HB := n2_
                    clear n0_ n1_ n2_
                    refine start_ (n := 14) (S := fun w' => w'.cell? ⟨gb351, 0, none⟩ = some (.int .i64 (Int.tmod (wrap64 (bt a0 x6_1)) 16)) ∧ w'.cell? ⟨gb351, 1, none⟩ = some (.int .i64 (wrap64 (Int.tdiv (wrap64 (bt a0 x6_1)) 16))) ∧ w'.cell? ⟨gb351, 2, none⟩ = some (.int .i64 (wrap64 (Int.tdiv (wrap64 (bt a0 (ji8))) 16))) ∧ w'.cell? ⟨gb351, 3, none⟩ = some (.int .i64 (Int.tmod (wrap64 (bt a0 (ji8))) 16)) ∧ w'.cell? ⟨gb351, 4, none⟩ = some (.int .i64 x352004_20) ∧ w'.cell? ⟨gb351, 5, none⟩ = some (.int .i64 (wrap64 (bt a0 (ji13))))) (ds := []) #[false, false, false, false, false, false, false, false, false, false, false, false, false, false] (by kernel_rfl) rfl rfl ⟨(blk_cell BK351.out 0).trans rfl, (blk_cell BK351.out 1).trans rfl, (blk_cell BK351.out 2).trans rfl, (blk_cell BK351.out 3).trans rfl, (blk_cell BK351.out 4).trans rfl, (blk_cell BK351.out 5).trans rfl⟩ (fun hHeld => ?_); refine with_tabW spec_ReadProgram.tab15 spec_ReadProgram.bits15 (fun HT_ HW_ => ?_)
                    generalize wc.drew = w53 at HO_5 BK351 HB hHeld ⊢
                    refine take_ (i := 0) (N := some 72) (v := ?_) (a' := ?_) #[true, false, false, false, false, false, false, false, false, false, false, false, false, false] rfl rfl (take_ofW HT_.out HW_.out (by kernel_rfl)) (fun _ _ _ h => h) (Or.inl ⟨by rfl, ?_⟩) hHeld ?_ ?_
                    rotate_left
                    ·rintro w' ⟨s0, s1, s2, s3, s4, s5⟩
                     go_simp
                     with_reducible rfl
                    rotate_left
                    ·simp only [Act.put, List.setIfInBounds_toArray, List.set_cons_zero, List.set_cons_succ, i64_w, i32_w]
                     rfl
                    refine one_ (i := 1) (N := some 73) #[true, true, false, false, false, false, false, false, false, false, false, false, false, false] rfl rfl (one_of HT_.out (by kernel_rfl)) (by decide) (fun K hK => ?_)
                    refine goes_ Try.func87 (by kernel_rfl) rfl #[.agg #[.int .i64 (Int.tmod (wrap64 (bt a0 x6_1)) 16), .int .i64 (wrap64 (Int.tdiv (wrap64 (bt a0 x6_1)) 16)), .int .i64 (wrap64 (Int.tdiv (wrap64 (bt a0 (ji8))) 16)), .int .i64 (Int.tmod (wrap64 (bt a0 (ji8))) 16), .int .i64 x352004_20, .int .i64 (wrap64 (bt a0 (ji13)))]] (by rfl) rfl rfl (by (try simp only [List.map_toArray, List.map_cons, List.map_nil]); first | done | (simp only [hji13, hji8]; rfl) | rfl | (simp only [List.length_drop, List.length_take]; rfl)) ?_
                    with_reducible refine (spec_l2Step.calls kj20 (Int.tmod (wrap64 (bt a0 x6_1)) 16) (wrap64 (Int.tdiv (wrap64 (bt a0 x6_1)) 16)) (wrap64 (Int.tdiv (wrap64 (bt a0 (ji8))) 16)) (Int.tmod (wrap64 (bt a0 (ji8))) 16) x352004_20 (wrap64 (bt a0 (ji13))) true _ A40.out).mono ?_
                    rintro e w54 ⟨rfl, hb⟩
                    refine ⟨_, rfl, ?_⟩
                    have n0_ := Aside0.mk (Kd.R_below (zR_ HO_5.out) hb)
                    have n1_ := Aside0.mk (blk_below (g := gb351) (o := .cells #[.int .i64 (Int.tmod (wrap64 (bt a0 x6_1)) 16), .int .i64 (wrap64 (Int.tdiv (wrap64 (bt a0 x6_1)) 16)), .int .i64 (wrap64 (Int.tdiv (wrap64 (bt a0 (ji8))) 16)), .int .i64 (Int.tmod (wrap64 (bt a0 (ji8))) 16), .int .i64 x352004_20, .int .i64 (wrap64 (bt a0 (ji13)))] 48 (0, 0)) (by (with_reducible repeat (first | refine blk_drewN ?_ _ | refine blk_drew ?_ | refine blk_alloc ?_ _)); exact BK351.out) hb)
                    have n2_ := Aside0.mk (below_step (by repeat (first | (with_reducible first | exact HB.out | apply below_alloc | apply pw_below_drewN | apply below_drew1 | refine below_set ?_ GE351.out) | exact HB.out)) hb)
                    clear HO_5
                    clear BK351
                    clear HB
                    have HO_5 := n0_
                    have BK351 := n1_
                    have HB := n2_
                    clear n0_ n1_ n2_
                    (try clear hb)
                    (try clear hb2)
                    (try clear hk)
                    (try clear hi)
                    refine hK.out _ _ ⟨(blk_cell BK351.out 0).trans rfl, (blk_cell BK351.out 1).trans rfl, (blk_cell BK351.out 2).trans rfl, (blk_cell BK351.out 3).trans rfl, (blk_cell BK351.out 4).trans rfl, (blk_cell BK351.out 5).trans rfl⟩ (fun hHeld => ?_)
                    clear hK K
                    refine norm_ (a' := ?_) ?_ ?_
                    rotate_left
                    ·show Act.put _ (some 73) _ = _
                     simp only [Act.put, List.setIfInBounds_toArray, List.set_cons_zero, List.set_cons_succ, i64_w, i32_w]
                     rfl
                    refine pure_ (i := 2) (N := some 74) (v := ?_) (a' := ?_) #[true, true, true, false, false, false, false, false, false, false, false, false, false, false] rfl rfl (any_of HT_.out (by kernel_rfl)) (fun _ _ _ h => h) (Or.inl ⟨by rfl, ?_⟩) ?_ ?_
                    rotate_left
                    ·intro w'
                     go_simp
                     with_reducible rfl
                    rotate_left
                    ·simp only [Act.put, List.setIfInBounds_toArray, List.set_cons_zero, List.set_cons_succ, i64_w, i32_w]
                     rfl
                    refine pure_ (i := 3) (N := some 75) (v := ?_) (a' := ?_) #[true, true, true, true, false, false, false, false, false, false, false, false, false, false] rfl rfl (any_of HT_.out (by kernel_rfl)) (fun _ _ _ h => h) (Or.inl ⟨by rfl, ?_⟩) ?_ ?_
                    rotate_left
                    ·intro w'
                     go_simp
                     with_reducible rfl
                    rotate_left
                    ·simp only [Act.put, List.setIfInBounds_toArray, List.set_cons_zero, List.set_cons_succ, i64_w, i32_w]
                     rfl
                    refine pure_ (i := 6) (N := some 78) (v := ?_) (a' := ?_) #[true, true, true, true, false, false, true, false, false, false, false, false, false, false] rfl rfl (any_of HT_.out (by kernel_rfl)) (fun _ _ _ h => h) (Or.inl ⟨by rfl, ?_⟩) ?_ ?_
                    rotate_left
                    ·intro w'
                     go_simp
                     with_reducible rfl
                    rotate_left
                    ·simp only [Act.put, List.setIfInBounds_toArray, List.set_cons_zero, List.set_cons_succ, i64_w, i32_w]
                     rfl
                    refine pure_ (i := 7) (N := some 79) (v := ?_) (a' := ?_) #[true, true, true, true, false, false, true, true, false, false, false, false, false, false] rfl rfl (any_of HT_.out (by kernel_rfl)) (fun _ _ _ h => h) (Or.inl ⟨by rfl, ?_⟩) ?_ ?_
                    rotate_left
                    ·intro w'
                     go_simp
                     with_reducible rfl
                    rotate_left
                    ·simp only [Act.put, List.setIfInBounds_toArray, List.set_cons_zero, List.set_cons_succ, i64_w, i32_w]
                     rfl
                    refine pure_ (i := 8) (N := some 80) (v := ?_) (a' := ?_) #[true, true, true, true, false, false, true, true, true, false, false, false, false, false] rfl rfl (any_of HT_.out (by kernel_rfl)) (fun _ _ _ h => h) (Or.inl ⟨by rfl, ?_⟩) ?_ ?_
                    rotate_left
                    ·intro w'
                     go_simp
                     with_reducible rfl
                    rotate_left
                    ·simp only [Act.put, List.setIfInBounds_toArray, List.set_cons_zero, List.set_cons_succ, i64_w, i32_w]
                     rfl
                    refine pure_ (i := 9) (N := some 81) (v := ?_) (a' := ?_) #[true, true, true, true, false, false, true, true, true, true, false, false, false, false] rfl rfl (any_of HT_.out (by kernel_rfl)) (fun _ _ _ h => h) (Or.inl ⟨by rfl, ?_⟩) ?_ ?_
                    rotate_left
                    ·intro w'
                     go_simp
                     with_reducible rfl
                    rotate_left
                    ·simp only [Act.put, List.setIfInBounds_toArray, List.set_cons_zero, List.set_cons_succ, i64_w, i32_w]
                     rfl
                    refine pure_ (i := 10) (N := some 82) (v := ?_) (a' := ?_) #[true, true, true, true, false, false, true, true, true, true, true, false, false, false] rfl rfl (any_of HT_.out (by kernel_rfl)) (fun _ _ _ h => h) (Or.inl ⟨by rfl, ?_⟩) ?_ ?_
                    rotate_left
                    ·intro w'
                     go_simp
                     with_reducible rfl
                    rotate_left
                    ·simp only [Act.put, List.setIfInBounds_toArray, List.set_cons_zero, List.set_cons_succ, i64_w, i32_w]
                     rfl
                    refine pure_ (i := 11) (N := some 83) (v := ?_) (a' := ?_) #[true, true, true, true, false, false, true, true, true, true, true, true, false, false] rfl rfl (any_of HT_.out (by kernel_rfl)) (fun _ _ _ h => h) (Or.inl ⟨by rfl, ?_⟩) ?_ ?_
                    rotate_left
                    ·intro w'
                     go_simp
                     with_reducible rfl
                    rotate_left
                    ·simp only [Act.put, List.setIfInBounds_toArray, List.set_cons_zero, List.set_cons_succ, i64_w, i32_w]
                     rfl
                    refine take_ (i := 4) (N := some 76) (v := ?_) (a' := ?_) #[true, true, true, true, true, false, true, true, true, true, true, true, false, false] rfl rfl (take_ofW HT_.out HW_.out (by kernel_rfl)) (fun _ _ _ h => h) (Or.inl ⟨by rfl, ?_⟩) hHeld ?_ ?_
                    rotate_left
                    ·rintro w' ⟨s0, s1, s2, s3, s4, s5⟩
                     go_simp
                     with_reducible rfl
                    rotate_left
                    ·simp only [Act.put, List.setIfInBounds_toArray, List.set_cons_zero, List.set_cons_succ, i64_w, i32_w]
                     rfl
                    refine one_ (i := 5) (N := some 77) #[true, true, true, true, true, true, true, true, true, true, true, true, false, false] rfl rfl (one_of HT_.out (by kernel_rfl)) (by decide) (fun K hK => ?_)
                    refine goes_ Try.func80 (by kernel_rfl) rfl #[.agg #[.int .i64 (Int.tmod (wrap64 (bt a0 x6_1)) 16), .int .i64 (wrap64 (Int.tdiv (wrap64 (bt a0 x6_1)) 16)), .int .i64 (wrap64 (Int.tdiv (wrap64 (bt a0 (ji8))) 16)), .int .i64 (Int.tmod (wrap64 (bt a0 (ji8))) 16), .int .i64 x352004_20, .int .i64 (wrap64 (bt a0 (ji13)))]] (by rfl) rfl rfl (by (try simp only [List.map_toArray, List.map_cons, List.map_nil]); first | done | (simp only [hji13, hji8]; rfl) | rfl | (simp only [List.length_drop, List.length_take]; rfl)) ?_
                    with_reducible refine (spec_l2Bytes.calls (Int.tmod (wrap64 (bt a0 x6_1)) 16) (wrap64 (Int.tdiv (wrap64 (bt a0 x6_1)) 16)) (wrap64 (Int.tdiv (wrap64 (bt a0 (ji8))) 16)) (Int.tmod (wrap64 (bt a0 (ji8))) 16) x352004_20 (wrap64 (bt a0 (ji13))) t353 _ A42.out).mono ?_
                    rintro e w55 ⟨rfl, hb⟩
                    refine ⟨_, rfl, ?_⟩
                    have n0_ := Aside0.mk (Kd.R_below (zR_ HO_5.out) hb)
                    have n1_ := Aside0.mk (blk_below (g := gb351) (o := .cells #[.int .i64 (Int.tmod (wrap64 (bt a0 x6_1)) 16), .int .i64 (wrap64 (Int.tdiv (wrap64 (bt a0 x6_1)) 16)), .int .i64 (wrap64 (Int.tdiv (wrap64 (bt a0 (ji8))) 16)), .int .i64 (Int.tmod (wrap64 (bt a0 (ji8))) 16), .int .i64 x352004_20, .int .i64 (wrap64 (bt a0 (ji13)))] 48 (0, 0)) (by (with_reducible repeat (first | refine blk_drewN ?_ _ | refine blk_drew ?_ | refine blk_alloc ?_ _)); exact BK351.out) hb)
                    have n2_ := Aside0.mk (below_step (by repeat (first | (with_reducible first | exact HB.out | apply below_alloc | apply pw_below_drewN | apply below_drew1 | refine below_set ?_ GE351.out) | exact HB.out)) hb)
                    clear HO_5
                    clear BK351
                    clear HB
                    have HO_5 := n0_
                    have BK351 := n1_
                    have HB := n2_
                    clear n0_ n1_ n2_
                    (try clear hb)
                    (try clear hb2)
                    (try clear hk)
                    (try clear hi)
                    refine hK.out _ _ ⟨(blk_cell BK351.out 0).trans rfl, (blk_cell BK351.out 1).trans rfl, (blk_cell BK351.out 2).trans rfl, (blk_cell BK351.out 3).trans rfl, (blk_cell BK351.out 4).trans rfl, (blk_cell BK351.out 5).trans rfl⟩ (fun hHeld => ?_)
                    clear hK K
                    refine norm_ (a' := ?_) ?_ ?_
                    rotate_left
                    ·show Act.put _ (some 77) _ = _
                     simp only [Act.put, List.setIfInBounds_toArray, List.set_cons_zero, List.set_cons_succ, i64_w, i32_w]
                     rfl
                    refine pure_ (i := 12) (N := some 84) (v := ?_) (a' := ?_) #[true, true, true, true, true, true, true, true, true, true, true, true, true, false] rfl rfl (any_of HT_.out (by kernel_rfl)) (fun _ _ _ h => h) (Or.inl ⟨by rfl, ?_⟩) ?_ ?_
                    rotate_left
                    ·intro w'
                     go_simp
                     with_reducible rfl
                    rotate_left
                    ·simp only [Act.put, List.setIfInBounds_toArray, List.set_cons_zero, List.set_cons_succ, i64_w, i32_w]
                     rfl
                    refine pure_ (i := 13) (N := some 85) (v := ?_) (a' := ?_) #[true, true, true, true, true, true, true, true, true, true, true, true, true, true] rfl rfl (any_of HT_.out (by kernel_rfl)) (fun _ _ _ h => h) (Or.inl ⟨by rfl, ?_⟩) ?_ ?_
                    rotate_left
                    ·intro w'
                     go_simp
                     with_reducible rfl
                    rotate_left
                    ·simp only [Act.put, List.setIfInBounds_toArray, List.set_cons_zero, List.set_cons_succ, i64_w, i32_w]
                     rfl
                    refine done_ (done_of HT_.out (by kernel_rfl)) ?_
                    try go_wp2
                    go_ret3
                    exact ⟨_, by first | rfl | (simp [errW_none, errW_some] <;> rfl) | (simp only [← hji8, ← hji13, ← hji17]; first | rfl | (simp [errW_none, errW_some] <;> rfl)) | (simp [*, errW_none, errW_some] <;> rfl), by first | exact Kd.R_nil _ _ _ _ _ | exact Kd.N_nil _ _ _ _ _ | exact Kd.V_nil _ _ _ _ _ | exact Kd.Q_nil _ _ _ _ _ | exact Kd.S_nil _ _ _ _ _, by repeat (first | (with_reducible first | exact HB.out | apply below_alloc | apply pw_below_drewN | apply below_drew1 | refine below_set ?_ GE351.out) | exact HB.out)⟩
                  ·rw [if_neg c45] at H
                   exact absurd H (by simp)
                 ·rw [if_neg c44] at H
                  exact absurd H (by simp)
                ·rw [if_neg c43] at H
                 exact absurd H (by simp)
               ·replace c41 := Bool.eq_false_iff.mpr c41
                subst c41
                have H1 : (some (([] : List (S48)), 2, false)) = some (r1, r2, r3) := by rw [if_neg (show ¬ (false = true) by decide)] at H; exact H
                clear H
                have H := H1
                clear H1
                simp only [Option.some.injEq, Prod.mk.injEq] at H
                obtain ⟨rfl, rfl, rfl⟩ := H
                try go_wp2
                have n0_ := Aside0.mk (Kd.R_drew HO_5.out)
                have n1_ := Aside0.mk (blk_drew BK351.out)
                have n2_ := Aside0.mk (below_drew1 HB.out)
                clear HO_5
                clear BK351
                clear HB
                have HO_5 := n0_
                have BK351 := n1_
                have HB := n2_
                clear n0_ n1_ n2_
                refine start_ (n := 14) (S := fun w' => w'.cell? ⟨gb351, 0, none⟩ = some (.int .i64 (Int.tmod (wrap64 (bt a0 x6_1)) 16)) ∧ w'.cell? ⟨gb351, 1, none⟩ = some (.int .i64 (wrap64 (Int.tdiv (wrap64 (bt a0 x6_1)) 16))) ∧ w'.cell? ⟨gb351, 2, none⟩ = some (.int .i64 (wrap64 (Int.tdiv (wrap64 (bt a0 (ji8))) 16))) ∧ w'.cell? ⟨gb351, 3, none⟩ = some (.int .i64 (Int.tmod (wrap64 (bt a0 (ji8))) 16)) ∧ w'.cell? ⟨gb351, 4, none⟩ = some (.int .i64 x352004_20) ∧ w'.cell? ⟨gb351, 5, none⟩ = some (.int .i64 (wrap64 (bt a0 (ji13))))) (ds := []) #[false, false, false, false, false, false, false, false, false, false, false, false, false, false] (by kernel_rfl) rfl rfl ⟨(blk_cell BK351.out 0).trans rfl, (blk_cell BK351.out 1).trans rfl, (blk_cell BK351.out 2).trans rfl, (blk_cell BK351.out 3).trans rfl, (blk_cell BK351.out 4).trans rfl, (blk_cell BK351.out 5).trans rfl⟩ (fun hHeld => ?_); refine with_tabW spec_ReadProgram.tab15 spec_ReadProgram.bits15 (fun HT_ HW_ => ?_)
                generalize wc.drew = w56 at HO_5 BK351 HB hHeld ⊢
                refine take_ (i := 0) (N := some 72) (v := ?_) (a' := ?_) #[true, false, false, false, false, false, false, false, false, false, false, false, false, false] rfl rfl (take_ofW HT_.out HW_.out (by kernel_rfl)) (fun _ _ _ h => h) (Or.inl ⟨by rfl, ?_⟩) hHeld ?_ ?_
                rotate_left
                ·rintro w' ⟨s0, s1, s2, s3, s4, s5⟩
                 go_simp
                 with_reducible rfl
                rotate_left
                ·simp only [Act.put, List.setIfInBounds_toArray, List.set_cons_zero, List.set_cons_succ, i64_w, i32_w]
                 rfl
                refine one_ (i := 1) (N := some 73) #[true, true, false, false, false, false, false, false, false, false, false, false, false, false] rfl rfl (one_of HT_.out (by kernel_rfl)) (by decide) (fun K hK => ?_)
                refine goes_ Try.func87 (by kernel_rfl) rfl #[.agg #[.int .i64 (Int.tmod (wrap64 (bt a0 x6_1)) 16), .int .i64 (wrap64 (Int.tdiv (wrap64 (bt a0 x6_1)) 16)), .int .i64 (wrap64 (Int.tdiv (wrap64 (bt a0 (ji8))) 16)), .int .i64 (Int.tmod (wrap64 (bt a0 (ji8))) 16), .int .i64 x352004_20, .int .i64 (wrap64 (bt a0 (ji13)))]] (by rfl) rfl rfl (by (try simp only [List.map_toArray, List.map_cons, List.map_nil]); first | done | (simp only [hji13, hji8]; rfl) | rfl | (simp only [List.length_drop, List.length_take]; rfl)) ?_
                with_reducible refine (spec_l2Step.calls kj20 (Int.tmod (wrap64 (bt a0 x6_1)) 16) (wrap64 (Int.tdiv (wrap64 (bt a0 x6_1)) 16)) (wrap64 (Int.tdiv (wrap64 (bt a0 (ji8))) 16)) (Int.tmod (wrap64 (bt a0 (ji8))) 16) x352004_20 (wrap64 (bt a0 (ji13))) false _ A40.out).mono ?_
                rintro e w57 ⟨rfl, hb⟩
                refine ⟨_, rfl, ?_⟩
                have n0_ := Aside0.mk (Kd.R_below (zR_ HO_5.out) hb)
                have n1_ := Aside0.mk (blk_below (g := gb351) (o := .cells #[.int .i64 (Int.tmod (wrap64 (bt a0 x6_1)) 16), .int .i64 (wrap64 (Int.tdiv (wrap64 (bt a0 x6_1)) 16)), .int .i64 (wrap64 (Int.tdiv (wrap64 (bt a0 (ji8))) 16)), .int .i64 (Int.tmod (wrap64 (bt a0 (ji8))) 16), .int .i64 x352004_20, .int .i64 (wrap64 (bt a0 (ji13)))] 48 (0, 0)) (by (with_reducible repeat (first | refine blk_drewN ?_ _ | refine blk_drew ?_ | refine blk_alloc ?_ _)); exact BK351.out) hb)
                have n2_ := Aside0.mk (below_step (by repeat (first | (with_reducible first | exact HB.out | apply below_alloc | apply pw_below_drewN | apply below_drew1 | refine below_set ?_ GE351.out) | exact HB.out)) hb)
                clear HO_5
                clear BK351
                clear HB
                have HO_5 := n0_
                have BK351 := n1_
                have HB := n2_
                clear n0_ n1_ n2_
                (try clear hb)
                (try clear hb2)
                (try clear hk)
                (try clear hi)
                refine hK.out _ _ ⟨(blk_cell BK351.out 0).trans rfl, (blk_cell BK351.out 1).trans rfl, (blk_cell BK351.out 2).trans rfl, (blk_cell BK351.out 3).trans rfl, (blk_cell BK351.out 4).trans rfl, (blk_cell BK351.out 5).trans rfl⟩ (fun hHeld => ?_)
                clear hK K
                refine norm_ (a' := ?_) ?_ ?_
                rotate_left
                ·show Act.put _ (some 73) _ = _
                 simp only [Act.put, List.setIfInBounds_toArray, List.set_cons_zero, List.set_cons_succ, i64_w, i32_w]
                 rfl
                refine pure_ (i := 2) (N := some 74) (v := ?_) (a' := ?_) #[true, true, true, false, false, false, false, false, false, false, false, false, false, false] rfl rfl (any_of HT_.out (by kernel_rfl)) (fun _ _ _ h => h) (Or.inl ⟨by rfl, ?_⟩) ?_ ?_
                rotate_left
                ·intro w'
                 go_simp
                 with_reducible rfl
                rotate_left
                ·simp only [Act.put, List.setIfInBounds_toArray, List.set_cons_zero, List.set_cons_succ, i64_w, i32_w]
                 rfl
                refine pure_ (i := 3) (N := some 75) (v := ?_) (a' := ?_) #[true, true, true, true, false, false, false, false, false, false, false, false, false, false] rfl rfl (any_of HT_.out (by kernel_rfl)) (fun _ _ _ h => h) (Or.inl ⟨by rfl, ?_⟩) ?_ ?_
                rotate_left
                ·intro w'
                 go_simp
                 with_reducible rfl
                rotate_left
                ·simp only [Act.put, List.setIfInBounds_toArray, List.set_cons_zero, List.set_cons_succ, i64_w, i32_w]
                 rfl
                refine pure_ (i := 4) (N := some 76) (v := undef) (a' := ?_) #[true, true, true, true, true, false, false, false, false, false, false, false, false, false] rfl rfl (any_of HT_.out (by kernel_rfl)) (fun _ _ _ h => h) (Or.inr ⟨by rfl, rfl⟩) ?_ ?_
                rotate_left
                ·simp only [Act.put, List.setIfInBounds_toArray, List.set_cons_zero, List.set_cons_succ, i64_w, i32_w]
                 rfl
                refine pure_ (i := 5) (N := some 77) (v := undef) (a' := ?_) #[true, true, true, true, true, true, false, false, false, false, false, false, false, false] rfl rfl (any_of HT_.out (by kernel_rfl)) (fun _ _ _ h => h) (Or.inr ⟨by rfl, rfl⟩) ?_ ?_
                rotate_left
                ·simp only [Act.put, List.setIfInBounds_toArray, List.set_cons_zero, List.set_cons_succ, i64_w, i32_w]
                 rfl
                refine pure_ (i := 6) (N := some 78) (v := undef) (a' := ?_) #[true, true, true, true, true, true, true, false, false, false, false, false, false, false] rfl rfl (any_of HT_.out (by kernel_rfl)) (fun _ _ _ h => h) (Or.inr ⟨by rfl, rfl⟩) ?_ ?_
                rotate_left
                ·simp only [Act.put, List.setIfInBounds_toArray, List.set_cons_zero, List.set_cons_succ, i64_w, i32_w]
                 rfl
                refine pure_ (i := 7) (N := some 79) (v := undef) (a' := ?_) #[true, true, true, true, true, true, true, true, false, false, false, false, false, false] rfl rfl (any_of HT_.out (by kernel_rfl)) (fun _ _ _ h => h) (Or.inr ⟨by rfl, rfl⟩) ?_ ?_
                rotate_left
                ·simp only [Act.put, List.setIfInBounds_toArray, List.set_cons_zero, List.set_cons_succ, i64_w, i32_w]
                 rfl
                refine pure_ (i := 8) (N := some 80) (v := undef) (a' := ?_) #[true, true, true, true, true, true, true, true, true, false, false, false, false, false] rfl rfl (any_of HT_.out (by kernel_rfl)) (fun _ _ _ h => h) (Or.inr ⟨by rfl, rfl⟩) ?_ ?_
                rotate_left
                ·simp only [Act.put, List.setIfInBounds_toArray, List.set_cons_zero, List.set_cons_succ, i64_w, i32_w]
                 rfl
                refine pure_ (i := 9) (N := some 81) (v := undef) (a' := ?_) #[true, true, true, true, true, true, true, true, true, true, false, false, false, false] rfl rfl (any_of HT_.out (by kernel_rfl)) (fun _ _ _ h => h) (Or.inr ⟨by rfl, rfl⟩) ?_ ?_
                rotate_left
                ·simp only [Act.put, List.setIfInBounds_toArray, List.set_cons_zero, List.set_cons_succ, i64_w, i32_w]
                 rfl
                refine pure_ (i := 10) (N := some 82) (v := undef) (a' := ?_) #[true, true, true, true, true, true, true, true, true, true, true, false, false, false] rfl rfl (any_of HT_.out (by kernel_rfl)) (fun _ _ _ h => h) (Or.inr ⟨by rfl, rfl⟩) ?_ ?_
                rotate_left
                ·simp only [Act.put, List.setIfInBounds_toArray, List.set_cons_zero, List.set_cons_succ, i64_w, i32_w]
                 rfl
                refine pure_ (i := 11) (N := some 83) (v := undef) (a' := ?_) #[true, true, true, true, true, true, true, true, true, true, true, true, false, false] rfl rfl (any_of HT_.out (by kernel_rfl)) (fun _ _ _ h => h) (Or.inr ⟨by rfl, rfl⟩) ?_ ?_
                rotate_left
                ·simp only [Act.put, List.setIfInBounds_toArray, List.set_cons_zero, List.set_cons_succ, i64_w, i32_w]
                 rfl
                refine pure_ (i := 12) (N := some 84) (v := undef) (a' := ?_) #[true, true, true, true, true, true, true, true, true, true, true, true, true, false] rfl rfl (any_of HT_.out (by kernel_rfl)) (fun _ _ _ h => h) (Or.inr ⟨by rfl, rfl⟩) ?_ ?_
                rotate_left
                ·simp only [Act.put, List.setIfInBounds_toArray, List.set_cons_zero, List.set_cons_succ, i64_w, i32_w]
                 rfl
                refine pure_ (i := 13) (N := some 85) (v := ?_) (a' := ?_) #[true, true, true, true, true, true, true, true, true, true, true, true, true, true] rfl rfl (any_of HT_.out (by kernel_rfl)) (fun _ _ _ h => h) (Or.inl ⟨by rfl, ?_⟩) ?_ ?_
                rotate_left
                ·intro w'
                 go_simp
                 with_reducible rfl
                rotate_left
                ·simp only [Act.put, List.setIfInBounds_toArray, List.set_cons_zero, List.set_cons_succ, i64_w, i32_w]
                 rfl
                refine done_ (done_of HT_.out (by kernel_rfl)) ?_
                try go_wp2
                go_ret3
                exact ⟨_, by first | rfl | (simp [errW_none, errW_some] <;> rfl) | (simp only [← hji8, ← hji13, ← hji17]; first | rfl | (simp [errW_none, errW_some] <;> rfl)) | (simp [*, errW_none, errW_some] <;> rfl), by first | exact Kd.R_nil _ _ _ _ _ | exact Kd.N_nil _ _ _ _ _ | exact Kd.V_nil _ _ _ _ _ | exact Kd.Q_nil _ _ _ _ _ | exact Kd.S_nil _ _ _ _ _, by repeat (first | (with_reducible first | exact HB.out | apply below_alloc | apply pw_below_drewN | apply below_drew1 | refine below_set ?_ GE351.out) | exact HB.out)⟩
            ·rw [if_neg c19] at H
             exact absurd H (by simp)
           ·rw [if_neg c18] at H
            exact absurd H (by simp)
          ·rw [if_neg c15] at H
           exact absurd H (by simp)
         ·rw [if_neg c14] at H
          exact absurd H (by simp)
        ·rw [if_neg c10] at H
         exact absurd H (by simp)
       ·rw [if_neg c9] at H
        exact absurd H (by simp)
      ·rw [if_neg c5] at H
       exact absurd H (by simp)
    ·rw [if_neg c3] at H
     have c3b0 : decide (x6_1 < (a0.size : Int)) = false := decide_eq_false c3
     clear c3
     replace H := Option.bind_eq_some_iff.mp H
     obtain ⟨t350, A580, H⟩ := H
     (try dsimp only at H)
     have A58 := Aside0.mk A580
     clear A580
     by_cases c59 : t350 = true
     ·subst c59
      have H1 : (some (x5_1, 0, true)) = some (r1, r2, r3) := by rw [if_pos rfl] at H; exact H
      clear H
      have H := H1
      clear H1
      simp only [Option.some.injEq, Prod.mk.injEq] at H
      obtain ⟨rfl, rfl, rfl⟩ := H
      obtain ⟨Ao60, co60, eo60⟩ := Kd.R_slice HO_5.out
      subst eo60
      go_wp2_with (first | ((with_reducible refine gate_callee (f := 79) rfl ?_); refine goesL_ (some 94) rfl rfl Try.func79 (by kernel_rfl) rfl #[.slice Ao60 x5_1.length co60] rfl (by simp only [zA_, zB_, zD_] <;> rfl) ?_; (with_reducible refine (spec_GoodProgram.calls k1 _ _ x5_1 true _ ?side1 ?side2 A58.out).mono ?_); (case side1 => exact zC_ (Kd.R_reads' HO_5.out).2.2); (case side2 => exact (Kd.R_reads' HO_5.out).2.1); rintro e w61 ⟨rfl, hb⟩; refine ⟨_, rfl, ?_⟩; have n0_ := Aside0.mk (Kd.R_below (zR_ HO_5.out) hb); have n1_ := Aside0.mk (below_step (zb_ HB.out) hb); clear HO_5; clear HB; have HO_5 := n0_; have HB := n1_; clear n0_ n1_; (try clear hb); (try clear hb2); (try clear hk); (try clear hi)))
      go_ret3
      exact ⟨_, by first | rfl | (simp [errW_none, errW_some] <;> rfl) | (simp [*, errW_none, errW_some] <;> rfl), zR_ HO_5.out, zb_ HB.out⟩
     ·replace c59 := Bool.eq_false_iff.mpr c59
      subst c59
      have H1 : (some (([] : List (S48)), 3, false)) = some (r1, r2, r3) := by rw [if_neg (show ¬ (false = true) by decide)] at H; exact H
      clear H
      have H := H1
      clear H1
      simp only [Option.some.injEq, Prod.mk.injEq] at H
      obtain ⟨rfl, rfl, rfl⟩ := H
      obtain ⟨Ao62, co62, eo62⟩ := Kd.R_slice HO_5.out
      subst eo62
      go_wp2_with (first | ((with_reducible refine gate_callee (f := 79) rfl ?_); refine goesL_ (some 94) rfl rfl Try.func79 (by kernel_rfl) rfl #[.slice Ao62 x5_1.length co62] rfl (by simp only [zA_, zB_, zD_] <;> rfl) ?_; (with_reducible refine (spec_GoodProgram.calls k1 _ _ x5_1 false _ ?side1 ?side2 A58.out).mono ?_); (case side1 => exact zC_ (Kd.R_reads' HO_5.out).2.2); (case side2 => exact (Kd.R_reads' HO_5.out).2.1); rintro e w63 ⟨rfl, hb⟩; refine ⟨_, rfl, ?_⟩; have n0_ := Aside0.mk (Kd.R_below (zR_ HO_5.out) hb); have n1_ := Aside0.mk (below_step (zb_ HB.out) hb); clear HO_5; clear HB; have HO_5 := n0_; have HB := n1_; clear n0_ n1_; (try clear hb); (try clear hb2); (try clear hk); (try clear hi)))
      go_ret3
      exact ⟨_, by first | rfl | (simp [errW_none, errW_some] <;> rfl) | (simp [*, errW_none, errW_some] <;> rfl), by first | exact Kd.R_nil _ _ _ _ _ | exact Kd.N_nil _ _ _ _ _ | exact Kd.V_nil _ _ _ _ _ | exact Kd.Q_nil _ _ _ _ _ | exact Kd.S_nil _ _ _ _ _, zb_ HB.out⟩
end Go.Proofs.Ytpkbjgmeejlchaa.PFnProgram
-- squeezed
