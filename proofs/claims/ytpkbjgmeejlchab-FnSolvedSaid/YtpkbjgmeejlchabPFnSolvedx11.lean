-- Made by a program of this session (wip/tools), which leans on the kit's print: checked by Lean alone.
import Derived.Test.YtpkbjgmeejlchabPFnSolvedx0
import Derived.Test.YtpkbjgmeejlchabPFnSolvedx3
import Derived.Test.YtpkbjgmeejlchabPFnSolvedx4
import Derived.Test.YtpkbjgmeejlchabPFnSolvedx5
import Derived.Test.YtpkbjgmeejlchabPFnSolvedx7
import Derived.Test.YtpkbjgmeejlchabPFnSolvedx8
import Derived.Test.YtpkbjgmeejlchabPFnSolvedx9
import Derived.Test.YtpkbjgmeejlchabPFnSolvedx10
namespace Go.Proofs.Ytpkbjgmeejlchab.PFnSolved
open Go.RowKit Go.Proofs.YtpkbjgmeejlchabW.PrintWords Go.Proofs.YtpkbjgmeejlchabW.PrintLast Go.Proofs.YtpkbjgmeejlchabW.PrintMore
attribute [local go_sem] max2_int min2_int max_two min_two max_three min_three max_four min_four   -- for this text's walks alone
set_option linter.unusedVariables false
set_option linter.unusedSimpArgs false

/-! ### laws_FnSolved: function 6 -/
mutual
def laws_FnSolved.j0 : Nat → List Int → Int → List (List Int) → Bool → List Bool → List (List Int) → Bool → Bool → Option (Bool)
 | 0, _, _, _, _, _, _, _, _ => none
 | k + 1, x1, x5, x6, x7, x8, x9, x10, x85 => if x85 = true then (none) else (if x10 = true then ((impl_CountModels.f k x5 x6).bind fun bt436 => (if bt436.2 = true then (laws_FnSolved.j1 k x1 x5 x6 x7 x8 x9 (x7 != (decide (bt436.1 > 0)))) else (laws_FnSolved.j1 k x1 x5 x6 x7 x8 x9 true))) else (laws_FnSolved.j4 k x1))
def laws_FnSolved.j4 : Nat → List Int → Option (Bool)
 | 0, _ => none
 | k + 1, x1 => (spec_DrawSolveWith.f k x1).bind fun bt443 => ((impl_SolveWith.f k bt443.1 bt443.2.1 bt443.2.2).bind fun bt450 => ((spec_SolveWith.f k bt443.1 bt443.2.1 bt443.2.2).bind fun bt458 => (if (bt450.2.2.2 != bt458.2.2.2) = true then (laws_FnSolved.j5 k x1 true) else (if (bt450.1 != bt458.1) = true then (laws_FnSolved.j5 k x1 true) else ((laws_sameBools.f k bt450.2.1 bt458.2.1).bind fun t466 => (if t466 = true then ((laws_sameRows.f k bt450.2.2.1 bt458.2.2.1).bind fun t467 => (if t467 = true then (if bt450.2.2.2 = true then (if bt450.1 = true then ((laws_allIn.f k bt443.2.2 bt450.2.1).bind fun t468 => (laws_FnSolved.j5 k x1 (!t468))) else (laws_FnSolved.j5 k x1 false)) else (laws_FnSolved.j5 k x1 false)) else (laws_FnSolved.j5 k x1 true))) else (laws_FnSolved.j5 k x1 true)))))))
def laws_FnSolved.j5 : Nat → List Int → Bool → Option (Bool)
 | 0, _, _ => none
 | k + 1, x1, x189 => if x189 = true then (none) else ((spec_DrawLearnFrom.f k x1).bind fun t469 => ((impl_LearnFrom.f k t469).bind fun bt472 => ((spec_LearnFrom.f k t469).bind fun bt476 => (if (bt472.2 == bt476.2) = true then ((laws_sameInts.f k bt472.1 bt476.1).bind fun t480 => (if t480 = true then (if bt472.2 = true then ((laws_negated.f k t469).bind fun t481 => ((laws_sameInts.f k bt472.1 t481).bind fun t484 => (some t484))) else (some true)) else (none))) else (none)))))
def laws_FnSolved.j1 : Nat → List Int → Int → List (List Int) → Bool → List Bool → List (List Int) → Bool → Option (Bool)
 | 0, _, _, _, _, _, _, _ => none
 | k + 1, x1, x5, x6, x7, x8, x9, x100 => if x100 = true then (none) else (if x7 = true then ((impl_HoldsAll.f x5 x6 x8).bind fun bt438 => (if bt438.2 = true then (if bt438.1 = true then (laws_FnSolved.j2 k x1 x5 x6 x9) else (none)) else (none))) else (laws_FnSolved.j2 k x1 x5 x6 x9))
def laws_FnSolved.j2 : Nat → List Int → Int → List (List Int) → List (List Int) → Option (Bool)
 | 0, _, _, _, _ => none
 | k + 1, x1, x5, x6, x9 => laws_FnSolved.l0 k x1 x5 x6 x9 (x9.length : Int) 0
def laws_FnSolved.l0 : Nat → List Int → Int → List (List Int) → List (List Int) → Int → Int → Option (Bool)
 | 0, _, _, _, _, _, _ => none
 | k + 1, x1, x5, x6, x115, x116, x117 => if x117 < x116 then (if 0 ≤ x117 then (if x117 < (x115.length : Int) then ((impl_FollowsFrom.f k x5 x6 (rd_L1 x115 x117)).bind fun bt441 => (if bt441.2 = true then (if bt441.1 = true then (laws_FnSolved.l0 k x1 x5 x6 x115 x116 (wrap64 (x117 + 1))) else (none)) else (laws_FnSolved.l0 k x1 x5 x6 x115 x116 (wrap64 (x117 + 1))))) else (none)) else (none)) else (laws_FnSolved.j4 k x1)
end
def laws_FnSolved.f (k : Nat) (l0 : List Int) (l1 : List Int) : Option (Bool) := if (wrap64 ((l0.length : Int) + (l1.length : Int))) > 1048576 then (some true) else ((spec_DrawSolve.f k l0).bind fun bt414 => ((impl_Solve.f k bt414.1 bt414.2).bind fun bt418 => ((spec_Solve.f k bt414.1 bt414.2).bind fun bt426 => (if (bt418.2.2.2 != bt426.2.2.2) = true then (laws_FnSolved.j0 k l1 bt414.1 bt414.2 bt418.1 bt418.2.1 bt418.2.2.1 bt418.2.2.2 true) else (if (bt418.1 != bt426.1) = true then (laws_FnSolved.j0 k l1 bt414.1 bt414.2 bt418.1 bt418.2.1 bt418.2.2.1 bt418.2.2.2 true) else ((laws_sameBools.f k bt418.2.1 bt426.2.1).bind fun t434 => (if t434 = true then ((laws_sameRows.f k bt418.2.2.1 bt426.2.2.1).bind fun t435 => (laws_FnSolved.j0 k l1 bt414.1 bt414.2 bt418.1 bt418.2.1 bt418.2.2.1 bt418.2.2.2 (!t435))) else (laws_FnSolved.j0 k l1 bt414.1 bt414.2 bt418.1 bt418.2.1 bt418.2.2.1 bt418.2.2.2 true))))))))
theorem laws_FnSolved.mono_l : ∀ k, (∀ y0 y1 y2 y3 y4 y5 y6 y7, LeO (laws_FnSolved.j0 k y0 y1 y2 y3 y4 y5 y6 y7) (laws_FnSolved.j0 (k + 1) y0 y1 y2 y3 y4 y5 y6 y7)) ∧ (∀ y0, LeO (laws_FnSolved.j4 k y0) (laws_FnSolved.j4 (k + 1) y0)) ∧ (∀ y0 y1, LeO (laws_FnSolved.j5 k y0 y1) (laws_FnSolved.j5 (k + 1) y0 y1)) ∧ (∀ y0 y1 y2 y3 y4 y5 y6, LeO (laws_FnSolved.j1 k y0 y1 y2 y3 y4 y5 y6) (laws_FnSolved.j1 (k + 1) y0 y1 y2 y3 y4 y5 y6)) ∧ (∀ y0 y1 y2 y3, LeO (laws_FnSolved.j2 k y0 y1 y2 y3) (laws_FnSolved.j2 (k + 1) y0 y1 y2 y3)) ∧ (∀ y0 y1 y2 y3 y4 y5, LeO (laws_FnSolved.l0 k y0 y1 y2 y3 y4 y5) (laws_FnSolved.l0 (k + 1) y0 y1 y2 y3 y4 y5))
 | 0 => ⟨fun _ _ _ _ _ _ _ _ r h => by simp [laws_FnSolved.j0] at h, fun _ r h => by simp [laws_FnSolved.j4] at h, fun _ _ r h => by simp [laws_FnSolved.j5] at h, fun _ _ _ _ _ _ _ r h => by simp [laws_FnSolved.j1] at h, fun _ _ _ _ r h => by simp [laws_FnSolved.j2] at h, fun _ _ _ _ _ _ r h => by simp [laws_FnSolved.l0] at h⟩
 | k + 1 => by
  obtain ⟨ih0, ih1, ih2, ih3, ih4, ih5⟩ := laws_FnSolved.mono_l k
  refine ⟨?_, ?_, ?_, ?_, ?_, ?_⟩
  ·intro y0 y1 y2 y3 y4 y5 y6 y7
   unfold laws_FnSolved.j0
   repeat' first
   | (with_reducible exact ih0 _ _ _ _ _ _ _ _)
   | (with_reducible exact ih1 _)
   | (with_reducible exact ih2 _ _)
   | (with_reducible exact ih3 _ _ _ _ _ _ _)
   | (with_reducible exact ih4 _ _ _ _)
   | (with_reducible exact ih5 _ _ _ _ _ _)
   | (with_reducible exact impl_CountModels.mono _ _ _)
   | (with_reducible exact impl_FollowsFrom.mono _ _ _ _)
   | (with_reducible exact impl_LearnFrom.mono _ _)
   | (with_reducible exact impl_Solve.mono _ _ _)
   | (with_reducible exact impl_SolveWith.mono _ _ _ _)
   | (with_reducible exact laws_allIn.mono _ _ _)
   | (with_reducible exact laws_negated.mono _ _)
   | (with_reducible exact laws_sameBools.mono _ _ _)
   | (with_reducible exact laws_sameInts.mono _ _ _)
   | (with_reducible exact laws_sameRows.mono _ _ _)
   | (with_reducible exact spec_DrawLearnFrom.mono _ _)
   | (with_reducible exact spec_DrawSolve.mono _ _)
   | (with_reducible exact spec_DrawSolveWith.mono _ _)
   | (with_reducible exact spec_LearnFrom.mono _ _)
   | (with_reducible exact spec_Solve.mono _ _ _)
   | (with_reducible exact spec_SolveWith.mono _ _ _ _)
   | (with_reducible exact LeO.refl _)
   | (with_reducible exact LeO.none _)
   | (with_reducible refine LeO.ite ?_ ?_)
   | (with_reducible refine LeO.bind ?_ (fun _ => ?_))
   | exact ih0 _ _ _ _ _ _ _ _
   | exact ih1 _
   | exact ih2 _ _
   | exact ih3 _ _ _ _ _ _ _
   | exact ih4 _ _ _ _
   | exact ih5 _ _ _ _ _ _
   | exact impl_CountModels.mono _ _ _
   | exact impl_FollowsFrom.mono _ _ _ _
   | exact impl_LearnFrom.mono _ _
   | exact impl_Solve.mono _ _ _
   | exact impl_SolveWith.mono _ _ _ _
   | exact laws_allIn.mono _ _ _
   | exact laws_negated.mono _ _
   | exact laws_sameBools.mono _ _ _
   | exact laws_sameInts.mono _ _ _
   | exact laws_sameRows.mono _ _ _
   | exact spec_DrawLearnFrom.mono _ _
   | exact spec_DrawSolve.mono _ _
   | exact spec_DrawSolveWith.mono _ _
   | exact spec_LearnFrom.mono _ _
   | exact spec_Solve.mono _ _ _
   | exact spec_SolveWith.mono _ _ _ _
   | exact LeO.none _
   | refine LeO.ite ?_ ?_
   | refine LeO.bind ?_ (fun _ => ?_)
  ·intro y0
   unfold laws_FnSolved.j4
   repeat' first
   | (with_reducible exact ih0 _ _ _ _ _ _ _ _)
   | (with_reducible exact ih1 _)
   | (with_reducible exact ih2 _ _)
   | (with_reducible exact ih3 _ _ _ _ _ _ _)
   | (with_reducible exact ih4 _ _ _ _)
   | (with_reducible exact ih5 _ _ _ _ _ _)
   | (with_reducible exact impl_CountModels.mono _ _ _)
   | (with_reducible exact impl_FollowsFrom.mono _ _ _ _)
   | (with_reducible exact impl_LearnFrom.mono _ _)
   | (with_reducible exact impl_Solve.mono _ _ _)
   | (with_reducible exact impl_SolveWith.mono _ _ _ _)
   | (with_reducible exact laws_allIn.mono _ _ _)
   | (with_reducible exact laws_negated.mono _ _)
   | (with_reducible exact laws_sameBools.mono _ _ _)
   | (with_reducible exact laws_sameInts.mono _ _ _)
   | (with_reducible exact laws_sameRows.mono _ _ _)
   | (with_reducible exact spec_DrawLearnFrom.mono _ _)
   | (with_reducible exact spec_DrawSolve.mono _ _)
   | (with_reducible exact spec_DrawSolveWith.mono _ _)
   | (with_reducible exact spec_LearnFrom.mono _ _)
   | (with_reducible exact spec_Solve.mono _ _ _)
   | (with_reducible exact spec_SolveWith.mono _ _ _ _)
   | (with_reducible exact LeO.refl _)
   | (with_reducible exact LeO.none _)
   | (with_reducible refine LeO.ite ?_ ?_)
   | (with_reducible refine LeO.bind ?_ (fun _ => ?_))
   | exact ih0 _ _ _ _ _ _ _ _
   | exact ih1 _
   | exact ih2 _ _
   | exact ih3 _ _ _ _ _ _ _
   | exact ih4 _ _ _ _
   | exact ih5 _ _ _ _ _ _
   | exact impl_CountModels.mono _ _ _
   | exact impl_FollowsFrom.mono _ _ _ _
   | exact impl_LearnFrom.mono _ _
   | exact impl_Solve.mono _ _ _
   | exact impl_SolveWith.mono _ _ _ _
   | exact laws_allIn.mono _ _ _
   | exact laws_negated.mono _ _
   | exact laws_sameBools.mono _ _ _
   | exact laws_sameInts.mono _ _ _
   | exact laws_sameRows.mono _ _ _
   | exact spec_DrawLearnFrom.mono _ _
   | exact spec_DrawSolve.mono _ _
   | exact spec_DrawSolveWith.mono _ _
   | exact spec_LearnFrom.mono _ _
   | exact spec_Solve.mono _ _ _
   | exact spec_SolveWith.mono _ _ _ _
   | exact LeO.none _
   | refine LeO.ite ?_ ?_
   | refine LeO.bind ?_ (fun _ => ?_)
  ·intro y0 y1
   unfold laws_FnSolved.j5
   repeat' first
   | (with_reducible exact ih0 _ _ _ _ _ _ _ _)
   | (with_reducible exact ih1 _)
   | (with_reducible exact ih2 _ _)
   | (with_reducible exact ih3 _ _ _ _ _ _ _)
   | (with_reducible exact ih4 _ _ _ _)
   | (with_reducible exact ih5 _ _ _ _ _ _)
   | (with_reducible exact impl_CountModels.mono _ _ _)
   | (with_reducible exact impl_FollowsFrom.mono _ _ _ _)
   | (with_reducible exact impl_LearnFrom.mono _ _)
   | (with_reducible exact impl_Solve.mono _ _ _)
   | (with_reducible exact impl_SolveWith.mono _ _ _ _)
   | (with_reducible exact laws_allIn.mono _ _ _)
   | (with_reducible exact laws_negated.mono _ _)
   | (with_reducible exact laws_sameBools.mono _ _ _)
   | (with_reducible exact laws_sameInts.mono _ _ _)
   | (with_reducible exact laws_sameRows.mono _ _ _)
   | (with_reducible exact spec_DrawLearnFrom.mono _ _)
   | (with_reducible exact spec_DrawSolve.mono _ _)
   | (with_reducible exact spec_DrawSolveWith.mono _ _)
   | (with_reducible exact spec_LearnFrom.mono _ _)
   | (with_reducible exact spec_Solve.mono _ _ _)
   | (with_reducible exact spec_SolveWith.mono _ _ _ _)
   | (with_reducible exact LeO.refl _)
   | (with_reducible exact LeO.none _)
   | (with_reducible refine LeO.ite ?_ ?_)
   | (with_reducible refine LeO.bind ?_ (fun _ => ?_))
   | exact ih0 _ _ _ _ _ _ _ _
   | exact ih1 _
   | exact ih2 _ _
   | exact ih3 _ _ _ _ _ _ _
   | exact ih4 _ _ _ _
   | exact ih5 _ _ _ _ _ _
   | exact impl_CountModels.mono _ _ _
   | exact impl_FollowsFrom.mono _ _ _ _
   | exact impl_LearnFrom.mono _ _
   | exact impl_Solve.mono _ _ _
   | exact impl_SolveWith.mono _ _ _ _
   | exact laws_allIn.mono _ _ _
   | exact laws_negated.mono _ _
   | exact laws_sameBools.mono _ _ _
   | exact laws_sameInts.mono _ _ _
   | exact laws_sameRows.mono _ _ _
   | exact spec_DrawLearnFrom.mono _ _
   | exact spec_DrawSolve.mono _ _
   | exact spec_DrawSolveWith.mono _ _
   | exact spec_LearnFrom.mono _ _
   | exact spec_Solve.mono _ _ _
   | exact spec_SolveWith.mono _ _ _ _
   | exact LeO.none _
   | refine LeO.ite ?_ ?_
   | refine LeO.bind ?_ (fun _ => ?_)
  ·intro y0 y1 y2 y3 y4 y5 y6
   unfold laws_FnSolved.j1
   repeat' first
   | (with_reducible exact ih0 _ _ _ _ _ _ _ _)
   | (with_reducible exact ih1 _)
   | (with_reducible exact ih2 _ _)
   | (with_reducible exact ih3 _ _ _ _ _ _ _)
   | (with_reducible exact ih4 _ _ _ _)
   | (with_reducible exact ih5 _ _ _ _ _ _)
   | (with_reducible exact impl_CountModels.mono _ _ _)
   | (with_reducible exact impl_FollowsFrom.mono _ _ _ _)
   | (with_reducible exact impl_LearnFrom.mono _ _)
   | (with_reducible exact impl_Solve.mono _ _ _)
   | (with_reducible exact impl_SolveWith.mono _ _ _ _)
   | (with_reducible exact laws_allIn.mono _ _ _)
   | (with_reducible exact laws_negated.mono _ _)
   | (with_reducible exact laws_sameBools.mono _ _ _)
   | (with_reducible exact laws_sameInts.mono _ _ _)
   | (with_reducible exact laws_sameRows.mono _ _ _)
   | (with_reducible exact spec_DrawLearnFrom.mono _ _)
   | (with_reducible exact spec_DrawSolve.mono _ _)
   | (with_reducible exact spec_DrawSolveWith.mono _ _)
   | (with_reducible exact spec_LearnFrom.mono _ _)
   | (with_reducible exact spec_Solve.mono _ _ _)
   | (with_reducible exact spec_SolveWith.mono _ _ _ _)
   | (with_reducible exact LeO.refl _)
   | (with_reducible exact LeO.none _)
   | (with_reducible refine LeO.ite ?_ ?_)
   | (with_reducible refine LeO.bind ?_ (fun _ => ?_))
   | exact ih0 _ _ _ _ _ _ _ _
   | exact ih1 _
   | exact ih2 _ _
   | exact ih3 _ _ _ _ _ _ _
   | exact ih4 _ _ _ _
   | exact ih5 _ _ _ _ _ _
   | exact impl_CountModels.mono _ _ _
   | exact impl_FollowsFrom.mono _ _ _ _
   | exact impl_LearnFrom.mono _ _
   | exact impl_Solve.mono _ _ _
   | exact impl_SolveWith.mono _ _ _ _
   | exact laws_allIn.mono _ _ _
   | exact laws_negated.mono _ _
   | exact laws_sameBools.mono _ _ _
   | exact laws_sameInts.mono _ _ _
   | exact laws_sameRows.mono _ _ _
   | exact spec_DrawLearnFrom.mono _ _
   | exact spec_DrawSolve.mono _ _
   | exact spec_DrawSolveWith.mono _ _
   | exact spec_LearnFrom.mono _ _
   | exact spec_Solve.mono _ _ _
   | exact spec_SolveWith.mono _ _ _ _
   | exact LeO.none _
   | refine LeO.ite ?_ ?_
   | refine LeO.bind ?_ (fun _ => ?_)
  ·intro y0 y1 y2 y3
   unfold laws_FnSolved.j2
   repeat' first
   | (with_reducible exact ih0 _ _ _ _ _ _ _ _)
   | (with_reducible exact ih1 _)
   | (with_reducible exact ih2 _ _)
   | (with_reducible exact ih3 _ _ _ _ _ _ _)
   | (with_reducible exact ih4 _ _ _ _)
   | (with_reducible exact ih5 _ _ _ _ _ _)
   | (with_reducible exact impl_CountModels.mono _ _ _)
   | (with_reducible exact impl_FollowsFrom.mono _ _ _ _)
   | (with_reducible exact impl_LearnFrom.mono _ _)
   | (with_reducible exact impl_Solve.mono _ _ _)
   | (with_reducible exact impl_SolveWith.mono _ _ _ _)
   | (with_reducible exact laws_allIn.mono _ _ _)
   | (with_reducible exact laws_negated.mono _ _)
   | (with_reducible exact laws_sameBools.mono _ _ _)
   | (with_reducible exact laws_sameInts.mono _ _ _)
   | (with_reducible exact laws_sameRows.mono _ _ _)
   | (with_reducible exact spec_DrawLearnFrom.mono _ _)
   | (with_reducible exact spec_DrawSolve.mono _ _)
   | (with_reducible exact spec_DrawSolveWith.mono _ _)
   | (with_reducible exact spec_LearnFrom.mono _ _)
   | (with_reducible exact spec_Solve.mono _ _ _)
   | (with_reducible exact spec_SolveWith.mono _ _ _ _)
   | (with_reducible exact LeO.refl _)
   | (with_reducible exact LeO.none _)
   | (with_reducible refine LeO.ite ?_ ?_)
   | (with_reducible refine LeO.bind ?_ (fun _ => ?_))
   | exact ih0 _ _ _ _ _ _ _ _
   | exact ih1 _
   | exact ih2 _ _
   | exact ih3 _ _ _ _ _ _ _
   | exact ih4 _ _ _ _
   | exact ih5 _ _ _ _ _ _
   | exact impl_CountModels.mono _ _ _
   | exact impl_FollowsFrom.mono _ _ _ _
   | exact impl_LearnFrom.mono _ _
   | exact impl_Solve.mono _ _ _
   | exact impl_SolveWith.mono _ _ _ _
   | exact laws_allIn.mono _ _ _
   | exact laws_negated.mono _ _
   | exact laws_sameBools.mono _ _ _
   | exact laws_sameInts.mono _ _ _
   | exact laws_sameRows.mono _ _ _
   | exact spec_DrawLearnFrom.mono _ _
   | exact spec_DrawSolve.mono _ _
   | exact spec_DrawSolveWith.mono _ _
   | exact spec_LearnFrom.mono _ _
   | exact spec_Solve.mono _ _ _
   | exact spec_SolveWith.mono _ _ _ _
   | exact LeO.none _
   | refine LeO.ite ?_ ?_
   | refine LeO.bind ?_ (fun _ => ?_)
  ·intro y0 y1 y2 y3 y4 y5
   unfold laws_FnSolved.l0
   repeat' first
   | (with_reducible exact ih0 _ _ _ _ _ _ _ _)
   | (with_reducible exact ih1 _)
   | (with_reducible exact ih2 _ _)
   | (with_reducible exact ih3 _ _ _ _ _ _ _)
   | (with_reducible exact ih4 _ _ _ _)
   | (with_reducible exact ih5 _ _ _ _ _ _)
   | (with_reducible exact impl_CountModels.mono _ _ _)
   | (with_reducible exact impl_FollowsFrom.mono _ _ _ _)
   | (with_reducible exact impl_LearnFrom.mono _ _)
   | (with_reducible exact impl_Solve.mono _ _ _)
   | (with_reducible exact impl_SolveWith.mono _ _ _ _)
   | (with_reducible exact laws_allIn.mono _ _ _)
   | (with_reducible exact laws_negated.mono _ _)
   | (with_reducible exact laws_sameBools.mono _ _ _)
   | (with_reducible exact laws_sameInts.mono _ _ _)
   | (with_reducible exact laws_sameRows.mono _ _ _)
   | (with_reducible exact spec_DrawLearnFrom.mono _ _)
   | (with_reducible exact spec_DrawSolve.mono _ _)
   | (with_reducible exact spec_DrawSolveWith.mono _ _)
   | (with_reducible exact spec_LearnFrom.mono _ _)
   | (with_reducible exact spec_Solve.mono _ _ _)
   | (with_reducible exact spec_SolveWith.mono _ _ _ _)
   | (with_reducible exact LeO.refl _)
   | (with_reducible exact LeO.none _)
   | (with_reducible refine LeO.ite ?_ ?_)
   | (with_reducible refine LeO.bind ?_ (fun _ => ?_))
   | exact ih0 _ _ _ _ _ _ _ _
   | exact ih1 _
   | exact ih2 _ _
   | exact ih3 _ _ _ _ _ _ _
   | exact ih4 _ _ _ _
   | exact ih5 _ _ _ _ _ _
   | exact impl_CountModels.mono _ _ _
   | exact impl_FollowsFrom.mono _ _ _ _
   | exact impl_LearnFrom.mono _ _
   | exact impl_Solve.mono _ _ _
   | exact impl_SolveWith.mono _ _ _ _
   | exact laws_allIn.mono _ _ _
   | exact laws_negated.mono _ _
   | exact laws_sameBools.mono _ _ _
   | exact laws_sameInts.mono _ _ _
   | exact laws_sameRows.mono _ _ _
   | exact spec_DrawLearnFrom.mono _ _
   | exact spec_DrawSolve.mono _ _
   | exact spec_DrawSolveWith.mono _ _
   | exact spec_LearnFrom.mono _ _
   | exact spec_Solve.mono _ _ _
   | exact spec_SolveWith.mono _ _ _ _
   | exact LeO.none _
   | refine LeO.ite ?_ ?_
   | refine LeO.bind ?_ (fun _ => ?_)
theorem laws_FnSolved.mono : ∀ a0 a1 k, LeO (laws_FnSolved.f k a0 a1) (laws_FnSolved.f (k + 1) a0 a1) := by
 intro a0 a1 k
 obtain ⟨ih0, ih1, ih2, ih3, ih4, ih5⟩ := laws_FnSolved.mono_l k
 unfold laws_FnSolved.f
 repeat' first
   | (with_reducible exact ih0 _ _ _ _ _ _ _ _)
   | (with_reducible exact ih1 _)
   | (with_reducible exact ih2 _ _)
   | (with_reducible exact ih3 _ _ _ _ _ _ _)
   | (with_reducible exact ih4 _ _ _ _)
   | (with_reducible exact ih5 _ _ _ _ _ _)
   | (with_reducible exact impl_CountModels.mono _ _ _)
   | (with_reducible exact impl_FollowsFrom.mono _ _ _ _)
   | (with_reducible exact impl_LearnFrom.mono _ _)
   | (with_reducible exact impl_Solve.mono _ _ _)
   | (with_reducible exact impl_SolveWith.mono _ _ _ _)
   | (with_reducible exact laws_allIn.mono _ _ _)
   | (with_reducible exact laws_negated.mono _ _)
   | (with_reducible exact laws_sameBools.mono _ _ _)
   | (with_reducible exact laws_sameInts.mono _ _ _)
   | (with_reducible exact laws_sameRows.mono _ _ _)
   | (with_reducible exact spec_DrawLearnFrom.mono _ _)
   | (with_reducible exact spec_DrawSolve.mono _ _)
   | (with_reducible exact spec_DrawSolveWith.mono _ _)
   | (with_reducible exact spec_LearnFrom.mono _ _)
   | (with_reducible exact spec_Solve.mono _ _ _)
   | (with_reducible exact spec_SolveWith.mono _ _ _ _)
   | (with_reducible exact LeO.refl _)
   | (with_reducible exact LeO.none _)
   | (with_reducible refine LeO.ite ?_ ?_)
   | (with_reducible refine LeO.bind ?_ (fun _ => ?_))
   | exact ih0 _ _ _ _ _ _ _ _
   | exact ih1 _
   | exact ih2 _ _
   | exact ih3 _ _ _ _ _ _ _
   | exact ih4 _ _ _ _
   | exact ih5 _ _ _ _ _ _
   | exact impl_CountModels.mono _ _ _
   | exact impl_FollowsFrom.mono _ _ _ _
   | exact impl_LearnFrom.mono _ _
   | exact impl_Solve.mono _ _ _
   | exact impl_SolveWith.mono _ _ _ _
   | exact laws_allIn.mono _ _ _
   | exact laws_negated.mono _ _
   | exact laws_sameBools.mono _ _ _
   | exact laws_sameInts.mono _ _ _
   | exact laws_sameRows.mono _ _ _
   | exact spec_DrawLearnFrom.mono _ _
   | exact spec_DrawSolve.mono _ _
   | exact spec_DrawSolveWith.mono _ _
   | exact spec_LearnFrom.mono _ _
   | exact spec_Solve.mono _ _ _
   | exact spec_SolveWith.mono _ _ _ _
   | exact LeO.none _
   | refine LeO.ite ?_ ?_
   | refine LeO.bind ?_ (fun _ => ?_)
set_option maxHeartbeats 8000000 in
set_option maxRecDepth 100000 in
theorem laws_FnSolved.calls (k : Nat) (A0 : Option Addr) (c0 : Nat) (l0 : List Int) (A1 : Option Addr) (c1 : Nat) (l1 : List Int) (r : Bool) (w : World) (hr0 : Kd.C (Kd.int .u8) w A0 l0.length l0) (hc0 : l0.length ≤ c0) (hr1 : Kd.C (Kd.int .u8) w A1 l1.length l1) (hc1 : l1.length ≤ c1) (h : laws_FnSolved.f k l0 l1 = some r) :
  Calls Try.prog 6 #[.slice A0 l0.length c0, .slice A1 l1.length c1] w fun e w' => e = .returned (.bool r) ∧ Below w.heap.size w w' := by
 have HR0 := Aside0.mk hr0
 have HC0 := Aside0.mk hc0
 clear hr0 hc0
 have HR1 := Aside0.mk hr1
 have HC1 := Aside0.mk hc1
 clear hr1 hc1
 have HB := Aside0.mk (Below.refl w.heap.size w)
 have HTop := Aside0.mk (Nat.zero_le w.heap.size)
 have H : (if (wrap64 ((l0.length : Int) + (l1.length : Int))) > 1048576 then (some true) else ((spec_DrawSolve.f k l0).bind fun bt414 => ((impl_Solve.f k bt414.1 bt414.2).bind fun bt418 => ((spec_Solve.f k bt414.1 bt414.2).bind fun bt426 => (if (bt418.2.2.2 != bt426.2.2.2) = true then (laws_FnSolved.j0 k l1 bt414.1 bt414.2 bt418.1 bt418.2.1 bt418.2.2.1 bt418.2.2.2 true) else (if (bt418.1 != bt426.1) = true then (laws_FnSolved.j0 k l1 bt414.1 bt414.2 bt418.1 bt418.2.1 bt418.2.2.1 bt418.2.2.2 true) else ((laws_sameBools.f k bt418.2.1 bt426.2.1).bind fun t434 => (if t434 = true then ((laws_sameRows.f k bt418.2.2.1 bt426.2.2.1).bind fun t435 => (laws_FnSolved.j0 k l1 bt414.1 bt414.2 bt418.1 bt418.2.1 bt418.2.2.1 bt418.2.2.2 (!t435))) else (laws_FnSolved.j0 k l1 bt414.1 bt414.2 bt418.1 bt418.2.1 bt418.2.2.1 bt418.2.2.2 true))))))))) = some r := h
 clear h
 by_cases c3 : (wrap64 ((l0.length : Int) + (l1.length : Int))) > 1048576
 ·rw [if_pos c3] at H
  have c3b0 : decide (1048576 < (wrap64 ((l0.length : Int) + (l1.length : Int)))) = true := decide_eq_true c3
  clear c3
  obtain rfl := Option.some.inj H
  go_enter Try.func6, Try.ntmps6
  go_wp2
  go_ret
  exact ⟨by first | rfl | (simp [errW_none, errW_some] <;> rfl) | (simp [*, errW_none, errW_some] <;> rfl), zb_ HB.out⟩
 ·rw [if_neg c3] at H
  have c3b0 : decide (1048576 < (wrap64 ((l0.length : Int) + (l1.length : Int)))) = false := decide_eq_false c3
  clear c3
  replace H := Option.bind_eq_some_iff.mp H
  obtain ⟨⟨t414, t415⟩, A40, H⟩ := H
  replace H : ((impl_Solve.f k t414 t415).bind fun bt418 => ((spec_Solve.f k t414 t415).bind fun bt426 => (if (bt418.2.2.2 != bt426.2.2.2) = true then (laws_FnSolved.j0 k l1 t414 t415 bt418.1 bt418.2.1 bt418.2.2.1 bt418.2.2.2 true) else (if (bt418.1 != bt426.1) = true then (laws_FnSolved.j0 k l1 t414 t415 bt418.1 bt418.2.1 bt418.2.2.1 bt418.2.2.2 true) else ((laws_sameBools.f k bt418.2.1 bt426.2.1).bind fun t434 => (if t434 = true then ((laws_sameRows.f k bt418.2.2.1 bt426.2.2.1).bind fun t435 => (laws_FnSolved.j0 k l1 t414 t415 bt418.1 bt418.2.1 bt418.2.2.1 bt418.2.2.2 (!t435))) else (laws_FnSolved.j0 k l1 t414 t415 bt418.1 bt418.2.1 bt418.2.2.1 bt418.2.2.2 true))))))) = some r := H
  have A4 := Aside0.mk A40
  clear A40
  replace H := Option.bind_eq_some_iff.mp H
  obtain ⟨⟨t418, t419, t420, t421⟩, A50, H⟩ := H
  replace H : ((spec_Solve.f k t414 t415).bind fun bt426 => (if (t421 != bt426.2.2.2) = true then (laws_FnSolved.j0 k l1 t414 t415 t418 t419 t420 t421 true) else (if (t418 != bt426.1) = true then (laws_FnSolved.j0 k l1 t414 t415 t418 t419 t420 t421 true) else ((laws_sameBools.f k t419 bt426.2.1).bind fun t434 => (if t434 = true then ((laws_sameRows.f k t420 bt426.2.2.1).bind fun t435 => (laws_FnSolved.j0 k l1 t414 t415 t418 t419 t420 t421 (!t435))) else (laws_FnSolved.j0 k l1 t414 t415 t418 t419 t420 t421 true)))))) = some r := H
  have A5 := Aside0.mk A50
  clear A50
  replace H := Option.bind_eq_some_iff.mp H
  obtain ⟨⟨t426, t427, t428, t429⟩, A60, H⟩ := H
  replace H : (if (t421 != t429) = true then (laws_FnSolved.j0 k l1 t414 t415 t418 t419 t420 t421 true) else (if (t418 != t426) = true then (laws_FnSolved.j0 k l1 t414 t415 t418 t419 t420 t421 true) else ((laws_sameBools.f k t419 t427).bind fun t434 => (if t434 = true then ((laws_sameRows.f k t420 t428).bind fun t435 => (laws_FnSolved.j0 k l1 t414 t415 t418 t419 t420 t421 (!t435))) else (laws_FnSolved.j0 k l1 t414 t415 t418 t419 t420 t421 true))))) = some r := H
  have A6 := Aside0.mk A60
  clear A60
  have HC7 := Aside0.mk H
  clear H
  go_enter Try.func6, Try.ntmps6
  go_upto_region 6 with (first | ((with_reducible refine gate_callee (f := 47) rfl ?_); refine goesL_ (some 47) rfl rfl Try.func47 (by kernel_rfl) rfl #[.slice A0 l0.length c0] rfl (by (try simp only [List.map_toArray, List.map_cons, List.map_nil]); first | done | rfl | (simp only [List.length_drop, List.length_take]; rfl)) ?_; (with_reducible refine (spec_DrawSolve.calls k _ _ l0 t414 t415 _ ?side1 ?side2 A4.out).mono ?_); (case side1 => exact zC_ HR0.out); (case side2 => exact HC0.out); rintro e w8 ⟨v416, rfl, ho0, hb⟩; refine ⟨_, rfl, ?_⟩; obtain ⟨lo1, hi1, EL1, EH1, LE1⟩ := iv_ hb; have OR1 := Aside0.mk (show 0 ≤ lo1 ∧ lo1 ≤ hi1 from ⟨Nat.zero_le _, LE1⟩); have n0_ := Aside0.mk (Kd.S_mono (ok' := fun k_ => lo1 ≤ k_ ∧ k_ < hi1) (Kd.S_lower (Kd.S_bound ho0) (below_size (zb_ HB.out))) (fun k_ hk_ => by have a_ := hk_.2.1; have b_ := hk_.2.2.1; omega)); have n1_ := Aside0.mk (Nat.le_of_eq EH1.symm); have n2_ := Aside0.mk (below_step (zb_ HB.out) hb); clear HTop; clear HB; have HO417 := n0_; have HTop := n1_; have HB := n2_; clear n0_ n1_ n2_; (try clear hb); (try clear hb2); (try clear hk); (try clear hi); (try clear ho0); (try clear EL1); (try clear EH1); (try clear LE1); obtain ⟨Ao9, co9, eo9⟩ := Kd.S_slice HO417.out; subst eo9) | ((with_reducible refine gate_callee (f := 21) rfl ?_); refine goesL_ (some 53) rfl rfl Try.func21 (by kernel_rfl) rfl #[.int .i64 t414, .slice Ao9 t415.length co9] rfl (by (try simp only [List.map_toArray, List.map_cons, List.map_nil]); first | done | rfl | (simp only [List.length_drop, List.length_take]; rfl)) ?_; (with_reducible refine (impl_Solve.calls k t414 _ _ t415 t418 t419 t420 t421 _ ?side1 ?side2 A5.out).mono ?_); (case side1 => exact zC_ (Kd.S_reads' HO417.out).2.2); (case side2 => exact (Kd.S_reads' HO417.out).2.1); rintro e w10 ⟨v422, v424, rfl, ho0, ho1, hb⟩; refine ⟨_, rfl, ?_⟩; obtain ⟨lo2, hi2, EL2, EH2, LE2⟩ := iv_ hb; have OR2 := Aside0.mk (show hi1 ≤ lo2 ∧ lo2 ≤ hi2 from ⟨Nat.le_trans HTop.out (Nat.le_of_eq EL2), LE2⟩); have n0_ := Aside0.mk (Kd.S_below (zS_ HO417.out) hb); have n1_ := Aside0.mk (Kd.R_mono (ok' := fun k_ => lo2 ≤ k_ ∧ k_ < hi2) (Kd.R_lower (Kd.R_bound ho0) (below_size (zb_ HB.out))) (fun k_ hk_ => by have a_ := hk_.2.1; have b_ := hk_.2.2.1; omega)); have n2_ := Aside0.mk (Kd.S_mono (ok' := fun k_ => lo2 ≤ k_ ∧ k_ < hi2) (Kd.S_lower (Kd.S_bound ho1) (below_size (zb_ HB.out))) (fun k_ hk_ => by have a_ := hk_.2.1; have b_ := hk_.2.2.1; omega)); have n3_ := Aside0.mk (Nat.le_of_eq EH2.symm); have n4_ := Aside0.mk (below_step (zb_ HB.out) hb); clear HO417; clear HTop; clear HB; have HO417 := n0_; have HO423 := n1_; have HO425 := n2_; have HTop := n3_; have HB := n4_; clear n0_ n1_ n2_ n3_ n4_; (try clear hb); (try clear hb2); (try clear hk); (try clear hi); (try clear ho0); (try clear ho1); (try clear EL2); (try clear EH2); (try clear LE2)) | ((with_reducible refine gate_callee (f := 48) rfl ?_); refine goesL_ (some 61) rfl rfl Try.func48 (by kernel_rfl) rfl #[.int .i64 t414, .slice Ao9 t415.length co9] rfl (by (try simp only [List.map_toArray, List.map_cons, List.map_nil]); first | done | rfl | (simp only [List.length_drop, List.length_take]; rfl)) ?_; (with_reducible refine (spec_Solve.calls k t414 _ _ t415 t426 t427 t428 t429 _ ?side1 ?side2 A6.out).mono ?_); (case side1 => exact zC_ (Kd.S_reads' HO417.out).2.2); (case side2 => exact (Kd.S_reads' HO417.out).2.1); rintro e w11 ⟨v430, v432, rfl, ho0, ho1, hb⟩; refine ⟨_, rfl, ?_⟩; obtain ⟨lo3, hi3, EL3, EH3, LE3⟩ := iv_ hb; have OR3 := Aside0.mk (show hi2 ≤ lo3 ∧ lo3 ≤ hi3 from ⟨Nat.le_trans HTop.out (Nat.le_of_eq EL3), LE3⟩); have n0_ := Aside0.mk (Kd.S_below (zS_ HO417.out) hb); have n1_ := Aside0.mk (Kd.R_below (zR_ HO423.out) hb); have n2_ := Aside0.mk (Kd.S_below (zS_ HO425.out) hb); have n3_ := Aside0.mk (Kd.R_mono (ok' := fun k_ => lo3 ≤ k_ ∧ k_ < hi3) (Kd.R_lower (Kd.R_bound ho0) (below_size (zb_ HB.out))) (fun k_ hk_ => by have a_ := hk_.2.1; have b_ := hk_.2.2.1; omega)); have n4_ := Aside0.mk (Kd.S_mono (ok' := fun k_ => lo3 ≤ k_ ∧ k_ < hi3) (Kd.S_lower (Kd.S_bound ho1) (below_size (zb_ HB.out))) (fun k_ hk_ => by have a_ := hk_.2.1; have b_ := hk_.2.2.1; omega)); have n5_ := Aside0.mk (Nat.le_of_eq EH3.symm); have n6_ := Aside0.mk (below_step (zb_ HB.out) hb); clear HO417; clear HO423; clear HO425; clear HTop; clear HB; have HO417 := n0_; have HO423 := n1_; have HO425 := n2_; have HO431 := n3_; have HO433 := n4_; have HTop := n5_; have HB := n6_; clear n0_ n1_ n2_ n3_ n4_ n5_ n6_; (try clear hb); (try clear hb2); (try clear hk); (try clear hi); (try clear ho0); (try clear ho1); (try clear EL3); (try clear EH3); (try clear LE3)))
  (try simp only [Act.put, List.setIfInBounds_toArray, List.set_cons_zero, List.set_cons_succ])
  go_cut [85] (fun v85 wc => ∃ (kq : Nat) (x85_6 : Bool), v85 = .bool x85_6 ∧ Aside0 (laws_FnSolved.j0 kq l1 t414 t415 t418 t419 t420 t421 x85_6 = some r) ∧ Aside0 (kq ≤ k) ∧ Aside0 (Kd.S (Kd.slice 3 (Kd.int .i64)) 24 wc w.heap.size (fun _ => True) (.slice Ao9 t415.length co9) t415) ∧ Aside0 (Kd.R Kd.bool 4 wc w.heap.size (fun _ => True) v422 t419) ∧ Aside0 (Kd.S (Kd.slice 3 (Kd.int .i64)) 24 wc w.heap.size (fun _ => True) v424 t420) ∧ Aside0 (Below w.heap.size w wc))
  case first => as_aux_lemma =>
   have H := HC7.out
   clear HC7
   by_cases c12 : (t421 != t429) = true
   ·rw [if_pos c12] at H
    have c12b0 : (t421 != t429) = true := c12
    (try (have c12b1 : decide (t421 = t429) = false := by simpa using c12))
    (try (have c12b2 : (t421 == t429) = false := by simpa using c12))
    (try (have c12b3 : ¬ (t421 = t429) := by simpa using c12))
    clear c12
    (first | rw [c12b0] | (simp only [i64_w, i32_w]; rw [c12b0]) | skip)
    have H' := Aside0.mk H
    clear H
    go_wp2
    go_meet
    case rel => exact ⟨_, (true), (by first | rfl | (simp; done) | (simp [*]; done)), H', ⟨by first | omega | exact Nat.le_refl _⟩, ⟨Kd.S_mono (zS_ HO417.out) (fun _ _ => trivial)⟩, ⟨Kd.R_mono (zR_ HO423.out) (fun _ _ => trivial)⟩, ⟨Kd.S_mono (zS_ HO425.out) (fun _ _ => trivial)⟩, ⟨zb_ HB.out⟩⟩
   ·rw [if_neg c12] at H
    have c12b0 : (t421 != t429) = false := by simpa using c12
    (try (have c12b1 : decide (t421 = t429) = true := by simpa using c12))
    (try (have c12b2 : (t421 == t429) = true := by simpa using c12))
    clear c12
    (first | rw [c12b0] | (simp only [i64_w, i32_w]; rw [c12b0]) | skip)
    by_cases c13 : (t418 != t426) = true
    ·rw [if_pos c13] at H
     have c13b0 : (t418 != t426) = true := c13
     (try (have c13b1 : decide (t418 = t426) = false := by simpa using c13))
     (try (have c13b2 : (t418 == t426) = false := by simpa using c13))
     (try (have c13b3 : ¬ (t418 = t426) := by simpa using c13))
     clear c13
     have H' := Aside0.mk H
     clear H
     go_wp2
     go_meet
     case rel => exact ⟨_, (true), (by first | rfl | (simp; done) | (simp [*]; done)), H', ⟨by first | omega | exact Nat.le_refl _⟩, ⟨Kd.S_mono (zS_ HO417.out) (fun _ _ => trivial)⟩, ⟨Kd.R_mono (zR_ HO423.out) (fun _ _ => trivial)⟩, ⟨Kd.S_mono (zS_ HO425.out) (fun _ _ => trivial)⟩, ⟨zb_ HB.out⟩⟩
    ·rw [if_neg c13] at H
     have c13b0 : (t418 != t426) = false := by simpa using c13
     (try (have c13b1 : decide (t418 = t426) = true := by simpa using c13))
     (try (have c13b2 : (t418 == t426) = true := by simpa using c13))
     clear c13
     replace H := Option.bind_eq_some_iff.mp H
     obtain ⟨t434, A140, H⟩ := H
     replace H : (if t434 = true then ((laws_sameRows.f k t420 t428).bind fun t435 => (laws_FnSolved.j0 k l1 t414 t415 t418 t419 t420 t421 (!t435))) else (laws_FnSolved.j0 k l1 t414 t415 t418 t419 t420 t421 true)) = some r := H
     have A14 := Aside0.mk A140
     clear A140
     by_cases c15 : t434 = true
     ·subst c15
      have H1 : ((laws_sameRows.f k t420 t428).bind fun t435 => (laws_FnSolved.j0 k l1 t414 t415 t418 t419 t420 t421 (!t435))) = some r := by rw [if_pos rfl] at H; exact H
      clear H
      have H := H1
      clear H1
      replace H := Option.bind_eq_some_iff.mp H
      obtain ⟨t435, A160, H⟩ := H
      replace H : (laws_FnSolved.j0 k l1 t414 t415 t418 t419 t420 t421 (!t435)) = some r := H
      have A16 := Aside0.mk A160
      clear A160
      have H' := Aside0.mk H
      clear H
      obtain ⟨Ao17, co17, eo17⟩ := Kd.R_slice HO423.out
      subst eo17
      obtain ⟨Ao18, co18, eo18⟩ := Kd.R_slice HO431.out
      subst eo18
      go_wp2_with (first | (go_at_call 49; (with_reducible refine (laws_sameBools.calls k _ _ t419 _ _ t427 true _ ?side1 ?side2 ?side3 ?side4 A14.out).mono ?_); (case side1 => exact zC_ (Kd.R_reads' HO423.out).2.2); (case side2 => exact (Kd.R_reads' HO423.out).2.1); (case side3 => exact zC_ (Kd.R_reads' HO431.out).2.2); (case side4 => exact (Kd.R_reads' HO431.out).2.1); rintro e w' ⟨rfl, ⟨nd, rfl⟩⟩; obtain ⟨Ao19, co19, eo19⟩ := Kd.S_slice HO425.out; subst eo19; obtain ⟨Ao20, co20, eo20⟩ := Kd.S_slice HO433.out; subst eo20) | (go_at_call 34; (with_reducible refine (laws_sameRows.calls k _ _ t420 _ _ t428 t435 _ ?side1 ?side2 ?side3 ?side4 A16.out).mono ?_); (case side1 => exact zC_ (Kd.S_reads' HO425.out).2.2); (case side2 => exact (Kd.S_reads' HO425.out).2.1); (case side3 => exact zC_ (Kd.S_reads' HO433.out).2.2); (case side4 => exact (Kd.S_reads' HO433.out).2.1); rintro e w' ⟨rfl, ⟨nd, rfl⟩⟩))
      go_meet
      case rel => exact ⟨_, (!t435), (by first | rfl | (simp; done) | (simp [*]; done)), H', ⟨by first | omega | exact Nat.le_refl _⟩, ⟨Kd.S_mono (zS_ HO417.out) (fun _ _ => trivial)⟩, ⟨Kd.R_mono (zR_ HO423.out) (fun _ _ => trivial)⟩, ⟨Kd.S_mono (zS_ HO425.out) (fun _ _ => trivial)⟩, ⟨zb_ HB.out⟩⟩
     ·replace c15 := Bool.eq_false_iff.mpr c15
      subst c15
      have H1 : (laws_FnSolved.j0 k l1 t414 t415 t418 t419 t420 t421 true) = some r := by rw [if_neg (show ¬ (false = true) by decide)] at H; exact H
      clear H
      have H := H1
      clear H1
      have H' := Aside0.mk H
      clear H
      obtain ⟨Ao21, co21, eo21⟩ := Kd.R_slice HO423.out
      subst eo21
      obtain ⟨Ao22, co22, eo22⟩ := Kd.R_slice HO431.out
      subst eo22
      go_wp2_with (first | (go_at_call 49; (with_reducible refine (laws_sameBools.calls k _ _ t419 _ _ t427 false _ ?side1 ?side2 ?side3 ?side4 A14.out).mono ?_); (case side1 => exact zC_ (Kd.R_reads' HO423.out).2.2); (case side2 => exact (Kd.R_reads' HO423.out).2.1); (case side3 => exact zC_ (Kd.R_reads' HO431.out).2.2); (case side4 => exact (Kd.R_reads' HO431.out).2.1); rintro e w' ⟨rfl, ⟨nd, rfl⟩⟩))
      go_meet
      case rel => exact ⟨_, (true), (by first | rfl | (simp; done) | (simp [*]; done)), H', ⟨by first | omega | exact Nat.le_refl _⟩, ⟨Kd.S_mono (zS_ HO417.out) (fun _ _ => trivial)⟩, ⟨Kd.R_mono (zR_ HO423.out) (fun _ _ => trivial)⟩, ⟨Kd.S_mono (zS_ HO425.out) (fun _ _ => trivial)⟩, ⟨zb_ HB.out⟩⟩
  case rest => as_aux_lemma =>
   clear HC7
   try clear c1
   try clear c2
   try clear p2
   try clear c3
   try clear c3b0
   try clear c4
   try clear c6
   try clear p6
   try clear c12
   try clear c12b0
   try clear c12b1
   try clear c12b2
   try clear c13
   try clear c13b0
   try clear c13b1
   try clear c13b2
   try clear c15
   try clear c21
   obtain ⟨kq, x85_6, rfl, HA, HJ6, HO_6, HO_8, HO_9, HB⟩ := hcut
   cases kq with
   | zero => exact absurd HA.out (by simp [laws_FnSolved.j0])
   | succ kj6 =>
    have H := HA.out
    clear HA
    simp only [laws_FnSolved.j0] at H
    by_cases c23 : x85_6 = true
    ·subst c23
     have H1 : (none) = some r := by rw [if_pos rfl] at H; exact H
     clear H
     have H := H1
     clear H1
     exact absurd H (by simp)
    ·replace c23 := Bool.eq_false_iff.mpr c23
     subst c23
     have H1 : (if t421 = true then ((impl_CountModels.f kj6 t414 t415).bind fun bt436 => (if bt436.2 = true then (laws_FnSolved.j1 kj6 l1 t414 t415 t418 t419 t420 (t418 != (decide (bt436.1 > 0)))) else (laws_FnSolved.j1 kj6 l1 t414 t415 t418 t419 t420 true))) else (laws_FnSolved.j4 kj6 l1)) = some r := by rw [if_neg (show ¬ (false = true) by decide)] at H; exact H
     clear H
     have H := H1
     clear H1
     have HC24 := Aside0.mk H
     clear H
     go_upto_if 86 with (fail)
     go_cut [] (fun wc => ∃ (kq : Nat), Aside0 (laws_FnSolved.j4 kq l1 = some r) ∧ Aside0 (kq ≤ kj6) ∧ Aside0 (Below w.heap.size w wc))
     case first => as_aux_lemma =>
      have H := HC24.out
      clear HC24
      by_cases c25 : t421 = true
      ·subst c25
       have H1 : ((impl_CountModels.f kj6 t414 t415).bind fun bt436 => (if bt436.2 = true then (laws_FnSolved.j1 kj6 l1 t414 t415 t418 t419 t420 (t418 != (decide (bt436.1 > 0)))) else (laws_FnSolved.j1 kj6 l1 t414 t415 t418 t419 t420 true))) = some r := by rw [if_pos rfl] at H; exact H
       clear H
       have H := H1
       clear H1
       replace H := Option.bind_eq_some_iff.mp H
       obtain ⟨⟨t436, t437⟩, A260, H⟩ := H
       replace H : (if t437 = true then (laws_FnSolved.j1 kj6 l1 t414 t415 t418 t419 t420 (t418 != (decide (t436 > 0)))) else (laws_FnSolved.j1 kj6 l1 t414 t415 t418 t419 t420 true)) = some r := H
       have A26 := Aside0.mk A260
       clear A260
       have HC27 := Aside0.mk H
       clear H
       go_upto_region 10 with (first | ((with_reducible refine gate_callee (f := 10) rfl ?_); refine goesL_ (some 90) rfl rfl Try.func10 (by kernel_rfl) rfl #[.int .i64 t414, .slice Ao9 t415.length co9] rfl (by (try simp only [List.map_toArray, List.map_cons, List.map_nil]); first | done | rfl | (simp only [List.length_drop, List.length_take]; rfl)) ?_; (with_reducible refine (impl_CountModels.calls kj6 t414 _ _ t415 t436 t437 _ ?side1 ?side2 A26.out).mono ?_); (case side1 => exact zC_ (Kd.S_reads' HO_6.out).2.2); (case side2 => exact (Kd.S_reads' HO_6.out).2.1); rintro e w28 ⟨rfl, hb⟩; refine ⟨_, rfl, ?_⟩; obtain ⟨lo1, hi1, EL1, EH1, LE1⟩ := iv_ hb; have OR1 := Aside0.mk (show 0 ≤ lo1 ∧ lo1 ≤ hi1 from ⟨Nat.zero_le _, LE1⟩); have n0_ := Aside0.mk (Kd.S_below (zS_ HO_6.out) hb); have n1_ := Aside0.mk (Kd.R_below (zR_ HO_8.out) hb); have n2_ := Aside0.mk (Kd.S_below (zS_ HO_9.out) hb); have n3_ := Aside0.mk (Nat.le_of_eq EH1.symm); have n4_ := Aside0.mk (below_step (zb_ HB.out) hb); clear HO_6; clear HO_8; clear HO_9; clear HTop; clear HB; have HO_6 := n0_; have HO_8 := n1_; have HO_9 := n2_; have HTop := n3_; have HB := n4_; clear n0_ n1_ n2_ n3_ n4_; (try clear hb); (try clear hb2); (try clear hk); (try clear hi); (try clear EL1); (try clear EH1); (try clear LE1)))
       (try simp only [Act.put, List.setIfInBounds_toArray, List.set_cons_zero, List.set_cons_succ])
       go_cut [100] (fun v100 wc => ∃ (kq : Nat) (x100_26 : Bool), v100 = .bool x100_26 ∧ Aside0 (laws_FnSolved.j1 kq l1 t414 t415 t418 t419 t420 x100_26 = some r) ∧ Aside0 (kq ≤ kj6) ∧ Aside0 (Kd.S (Kd.slice 3 (Kd.int .i64)) 24 wc w.heap.size (fun _ => True) (.slice Ao9 t415.length co9) t415) ∧ Aside0 (Kd.R Kd.bool 4 wc w.heap.size (fun _ => True) v422 t419) ∧ Aside0 (Kd.S (Kd.slice 3 (Kd.int .i64)) 24 wc w.heap.size (fun _ => True) v424 t420) ∧ Aside0 (Below w.heap.size w wc))
       case first => as_aux_lemma =>
        have H := HC27.out
        clear HC27
        by_cases c29 : t437 = true
        ·subst c29
         have H1 : (laws_FnSolved.j1 kj6 l1 t414 t415 t418 t419 t420 (t418 != (decide (t436 > 0)))) = some r := by rw [if_pos rfl] at H; exact H
         clear H
         have H := H1
         clear H1
         have H' := Aside0.mk H
         clear H
         go_wp2
         go_meet
         case rel => exact ⟨_, ((t418 != (decide (t436 > 0)))), (by first | rfl | (simp; done) | (simp [*]; done)), H', ⟨by have := HJ6.out; first | omega | exact Nat.le_refl _⟩, ⟨Kd.S_mono (zS_ HO_6.out) (fun _ _ => trivial)⟩, ⟨Kd.R_mono (zR_ HO_8.out) (fun _ _ => trivial)⟩, ⟨Kd.S_mono (zS_ HO_9.out) (fun _ _ => trivial)⟩, ⟨zb_ HB.out⟩⟩
        ·replace c29 := Bool.eq_false_iff.mpr c29
         subst c29
         have H1 : (laws_FnSolved.j1 kj6 l1 t414 t415 t418 t419 t420 true) = some r := by rw [if_neg (show ¬ (false = true) by decide)] at H; exact H
         clear H
         have H := H1
         clear H1
         have H' := Aside0.mk H
         clear H
         go_wp2
         go_meet
         case rel => exact ⟨_, (true), (by first | rfl | (simp; done) | (simp [*]; done)), H', ⟨by have := HJ6.out; first | omega | exact Nat.le_refl _⟩, ⟨Kd.S_mono (zS_ HO_6.out) (fun _ _ => trivial)⟩, ⟨Kd.R_mono (zR_ HO_8.out) (fun _ _ => trivial)⟩, ⟨Kd.S_mono (zS_ HO_9.out) (fun _ _ => trivial)⟩, ⟨zb_ HB.out⟩⟩
       case rest => as_aux_lemma =>
        clear HC27
        try clear c1
        try clear c2
        try clear p2
        try clear c3
        try clear c3b0
        try clear c4
        try clear c6
        try clear p6
        try clear c10
        try clear c12
        try clear c12b0
        try clear c12b1
        try clear c12b2
        try clear c13
        try clear c13b0
        try clear c13b1
        try clear c13b2
        try clear c15
        try clear c21
        try clear c23
        try clear c25
        try clear c29
        try clear p2
        try clear p6
        obtain ⟨kq, x100_26, rfl, HA, HJ26, HO_6, HO_8, HO_9, HB⟩ := hcut
        cases kq with
        | zero => exact absurd HA.out (by simp [laws_FnSolved.j1])
        | succ kj26 =>
         have H := HA.out
         clear HA
         simp only [laws_FnSolved.j1] at H
         by_cases c30 : x100_26 = true
         ·subst c30
          have H1 : (none) = some r := by rw [if_pos rfl] at H; exact H
          clear H
          have H := H1
          clear H1
          exact absurd H (by simp)
         ·replace c30 := Bool.eq_false_iff.mpr c30
          subst c30
          have H1 : (if t418 = true then ((impl_HoldsAll.f t414 t415 t419).bind fun bt438 => (if bt438.2 = true then (if bt438.1 = true then (laws_FnSolved.j2 kj26 l1 t414 t415 t420) else (none)) else (none))) else (laws_FnSolved.j2 kj26 l1 t414 t415 t420)) = some r := by rw [if_neg (show ¬ (false = true) by decide)] at H; exact H
          clear H
          have H := H1
          clear H1
          have HC31 := Aside0.mk H
          clear H
          go_upto_if 101 with (fail)
          go_cut [] (fun wc => ∃ (kq : Nat), Aside0 (laws_FnSolved.j2 kq l1 t414 t415 t420 = some r) ∧ Aside0 (kq ≤ kj26) ∧ Aside0 (Kd.S (Kd.slice 3 (Kd.int .i64)) 24 wc w.heap.size (fun _ => True) (.slice Ao9 t415.length co9) t415) ∧ Aside0 (Kd.S (Kd.slice 3 (Kd.int .i64)) 24 wc w.heap.size (fun _ => True) v424 t420) ∧ Aside0 (Below w.heap.size w wc))
          case first => as_aux_lemma =>
           have H := HC31.out
           clear HC31
           by_cases c32 : t418 = true
           ·subst c32
            have H1 : ((impl_HoldsAll.f t414 t415 t419).bind fun bt438 => (if bt438.2 = true then (if bt438.1 = true then (laws_FnSolved.j2 kj26 l1 t414 t415 t420) else (none)) else (none))) = some r := by rw [if_pos rfl] at H; exact H
            clear H
            have H := H1
            clear H1
            replace H := Option.bind_eq_some_iff.mp H
            obtain ⟨⟨t438, t439⟩, A330, H⟩ := H
            replace H : (if t439 = true then (if t438 = true then (laws_FnSolved.j2 kj26 l1 t414 t415 t420) else (none)) else (none)) = some r := H
            have A33 := Aside0.mk A330
            clear A330
            by_cases c34 : t439 = true
            ·subst c34
             have H1 : (if t438 = true then (laws_FnSolved.j2 kj26 l1 t414 t415 t420) else (none)) = some r := by rw [if_pos rfl] at H; exact H
             clear H
             have H := H1
             clear H1
             by_cases c35 : t438 = true
             ·subst c35
              have H1 : (laws_FnSolved.j2 kj26 l1 t414 t415 t420) = some r := by rw [if_pos rfl] at H; exact H
              clear H
              have H := H1
              clear H1
              have H' := Aside0.mk H
              clear H
              obtain ⟨Ao36, co36, eo36⟩ := Kd.R_slice HO_8.out
              subst eo36
              go_wp2_with (first | ((with_reducible refine gate_callee (f := 30) rfl ?_); refine goesL_ (some 106) rfl rfl Try.func30 (by kernel_rfl) rfl #[.int .i64 t414, .slice Ao9 t415.length co9, .slice Ao36 t419.length co36] rfl (by (try simp only [List.map_toArray, List.map_cons, List.map_nil]); first | done | rfl | (simp only [List.length_drop, List.length_take]; rfl)) ?_; (with_reducible refine (impl_HoldsAll.calls t414 _ _ t415 _ _ t419 true true _ ?side1 ?side2 ?side3 ?side4 A33.out).mono ?_); (case side1 => exact zC_ (Kd.S_reads' HO_6.out).2.2); (case side2 => exact (Kd.S_reads' HO_6.out).2.1); (case side3 => exact zC_ (Kd.R_reads' HO_8.out).2.2); (case side4 => exact (Kd.R_reads' HO_8.out).2.1); rintro e w37 ⟨rfl, hb⟩; refine ⟨_, rfl, ?_⟩; obtain ⟨lo1, hi1, EL1, EH1, LE1⟩ := iv_ hb; have OR1 := Aside0.mk (show 0 ≤ lo1 ∧ lo1 ≤ hi1 from ⟨Nat.zero_le _, LE1⟩); have n0_ := Aside0.mk (Kd.S_below (zS_ HO_6.out) hb); have n1_ := Aside0.mk (Kd.R_below (zR_ HO_8.out) hb); have n2_ := Aside0.mk (Kd.S_below (zS_ HO_9.out) hb); have n3_ := Aside0.mk (Nat.le_of_eq EH1.symm); have n4_ := Aside0.mk (below_step (zb_ HB.out) hb); clear HO_6; clear HO_8; clear HO_9; clear HTop; clear HB; have HO_6 := n0_; have HO_8 := n1_; have HO_9 := n2_; have HTop := n3_; have HB := n4_; clear n0_ n1_ n2_ n3_ n4_; (try clear hb); (try clear hb2); (try clear hk); (try clear hi); (try clear EL1); (try clear EH1); (try clear LE1)))
              go_meet
              case rel => exact ⟨_, H', ⟨by have := HJ6.out; have := HJ26.out; first | omega | exact Nat.le_refl _⟩, ⟨Kd.S_mono (zS_ HO_6.out) (fun _ _ => trivial)⟩, ⟨Kd.S_mono (zS_ HO_9.out) (fun _ _ => trivial)⟩, ⟨zb_ HB.out⟩⟩
             ·replace c35 := Bool.eq_false_iff.mpr c35
              subst c35
              have H1 : (none) = some r := by rw [if_neg (show ¬ (false = true) by decide)] at H; exact H
              clear H
              have H := H1
              clear H1
              exact absurd H (by simp)
            ·replace c34 := Bool.eq_false_iff.mpr c34
             subst c34
             have H1 : (none) = some r := by rw [if_neg (show ¬ (false = true) by decide)] at H; exact H
             clear H
             have H := H1
             clear H1
             exact absurd H (by simp)
           ·replace c32 := Bool.eq_false_iff.mpr c32
            subst c32
            have H1 : (laws_FnSolved.j2 kj26 l1 t414 t415 t420) = some r := by rw [if_neg (show ¬ (false = true) by decide)] at H; exact H
            clear H
            have H := H1
            clear H1
            have H' := Aside0.mk H
            clear H
            go_wp2
            go_meet
            case rel => exact ⟨_, H', ⟨by have := HJ6.out; have := HJ26.out; first | omega | exact Nat.le_refl _⟩, ⟨Kd.S_mono (zS_ HO_6.out) (fun _ _ => trivial)⟩, ⟨Kd.S_mono (zS_ HO_9.out) (fun _ _ => trivial)⟩, ⟨zb_ HB.out⟩⟩
          case rest => as_aux_lemma =>
           clear HC31
           try clear c1
           try clear c2
           try clear p2
           try clear c3
           try clear c3b0
           try clear c4
           try clear c6
           try clear p6
           try clear c10
           try clear c12
           try clear c12b0
           try clear c12b1
           try clear c12b2
           try clear c13
           try clear c13b0
           try clear c13b1
           try clear c13b2
           try clear c15
           try clear c21
           try clear c23
           try clear c25
           try clear c29
           try clear c30
           try clear c32
           try clear c34
           try clear c35
           try clear p2
           try clear p6
           obtain ⟨kq, HA, HJ30, HO_6, HO_9, HB⟩ := hcut
           cases kq with
           | zero => exact absurd HA.out (by simp [laws_FnSolved.j2])
           | succ kj30 =>
            have H := HA.out
            clear HA
            simp only [laws_FnSolved.j2] at H
            have H' := Aside0.mk H
            clear H
            obtain ⟨Ao38, co38, eo38⟩ := Kd.S_slice HO_9.out
            subst eo38
            go_wp2
            go_loopg [117] kj30 (fun kq v117 w' => ∃ (x117_4 : Int), v117 = .int .i64 x117_4 ∧ Aside0 (laws_FnSolved.l0 kq l1 t414 t415 t420 (t420.length : Int) x117_4 = some r) ∧ Aside0 (kq ≤ kj30) ∧ Aside0 (Kd.S (Kd.slice 3 (Kd.int .i64)) 24 w' w.heap.size (fun _ => True) (.slice Ao9 t415.length co9) t415) ∧ Aside0 (Kd.S (Kd.slice 3 (Kd.int .i64)) 24 w' w.heap.size (fun _ => True) (.slice Ao38 t420.length co38) t420) ∧ Aside0 (Below w.heap.size w w'))
            case atStart => exact ⟨(0), (by first | rfl | (simp; done) | (simp [*]; done)), H', ⟨Nat.le_refl _⟩, ⟨Kd.S_mono (zS_ HO_6.out) (fun _ _ => trivial)⟩, ⟨Kd.S_mono (zS_ HO_9.out) (fun _ _ => trivial)⟩, ⟨zb_ HB.out⟩⟩
            case round =>
             clear H'
             try clear c1
             try clear c2
             try clear p2
             try clear c3
             try clear c3b0
             try clear c4
             try clear c6
             try clear p6
             try clear c10
             try clear c12
             try clear c12b0
             try clear c12b1
             try clear c12b2
             try clear c13
             try clear c13b0
             try clear c13b1
             try clear c13b2
             try clear c15
             try clear c21
             try clear c23
             try clear c25
             try clear c29
             try clear c30
             try clear c32
             try clear c34
             try clear c35
             try clear p2
             try clear p6
             obtain ⟨x117_4, rfl, HA, HK4, HO_6, HO_115, HB⟩ := hrel
             cases gk with
             | zero => exact absurd HA.out (by simp [laws_FnSolved.l0])
             | succ k4 =>
              have H := HA.out
              clear HA
              simp only [laws_FnSolved.l0] at H
              by_cases c39 : x117_4 < (t420.length : Int)
              ·rw [if_pos c39] at H
               have c39b0 : decide (x117_4 < (t420.length : Int)) = true := decide_eq_true c39
               clear c39
               by_cases c40 : 0 ≤ x117_4
               ·rw [if_pos c40] at H
                have c40b0 : decide (0 ≤ x117_4) = true := decide_eq_true c40
                clear c40
                by_cases c41 : x117_4 < (t420.length : Int)
                ·rw [if_pos c41] at H
                 have c41b0 : decide (x117_4 < (t420.length : Int)) = true := decide_eq_true c41
                 clear c41
                 replace H := Option.bind_eq_some_iff.mp H
                 obtain ⟨⟨t441, t442⟩, A420, H⟩ := H
                 replace H : (if t442 = true then (if t441 = true then (laws_FnSolved.l0 k4 l1 t414 t415 t420 (t420.length : Int) (wrap64 (x117_4 + 1))) else (none)) else (laws_FnSolved.l0 k4 l1 t414 t415 t420 (t420.length : Int) (wrap64 (x117_4 + 1)))) = some r := H
                 have A42 := Aside0.mk A420
                 clear A420
                 by_cases c43 : t442 = true
                 ·subst c43
                  have H1 : (if t441 = true then (laws_FnSolved.l0 k4 l1 t414 t415 t420 (t420.length : Int) (wrap64 (x117_4 + 1))) else (none)) = some r := by rw [if_pos rfl] at H; exact H
                  clear H
                  have H := H1
                  clear H1
                  by_cases c44 : t441 = true
                  ·subst c44
                   have H1 : (laws_FnSolved.l0 k4 l1 t414 t415 t420 (t420.length : Int) (wrap64 (x117_4 + 1))) = some r := by rw [if_pos rfl] at H; exact H
                   clear H
                   have H := H1
                   clear H1
                   have H' := Aside0.mk H
                   clear H
                   have p440 : 0 ≤ (x117_4 : Int) := of_decide_eq_true (by first | (with_reducible assumption) | assumption)
                   have q440 : x117_4 < (t420.length : Int) := of_decide_eq_true (by first | (with_reducible assumption) | assumption)
                   obtain ⟨ad440, A440_0, c440_0, e440, hx440_0, hl440_0, hi440_0⟩ := at_L1 (Kd.S_reads' HO_115.out).2.2 x117_4 p440 q440
                   cases e440
                   obtain ⟨ce440, hce440, hMe440, hcc440⟩ := Kd.S_get HO_115.out [] x117_4 p440 (by first | exact q440 | exact of_decide_eq_true (by first | (with_reducible assumption) | assumption) | (have e_ := (Kd.S_reads' HO_115.out).1; omega))
                   obtain ⟨ve440_0, rfl, ge440_0⟩ := hMe440
                   have hv440_0 := hcc440 0 _ rfl
                   rw [Nat.add_zero, show ((Kd.slice 3 (Kd.int .i64))).sz = 1 from rfl, Nat.mul_one] at hv440_0
                   replace hv440_0 := Option.some.inj (hv440_0.symm.trans hx440_0)
                   rw [hv440_0] at ge440_0
                   have HL440_0 := Aside0.mk (show Kd.R (Kd.int .i64) 3 _ _ _ _ (rd_L1 t420 x117_4) from ge440_0)
                   clear hv440_0 ge440_0
                   clear hcc440 hce440
                   have HR440_0 := Aside0.mk hi440_0
                   have HC440_0 := Aside0.mk hl440_0
                   clear hi440_0 hl440_0
                   replace p440 := eq_true p440
                   replace q440 := eq_true q440
                   go_wp2_with (first | ((with_reducible refine gate_callee (f := 8) rfl ?_); refine goesL_ (some 125) rfl rfl Try.func8 (by kernel_rfl) rfl #[.int .i64 t414, .slice Ao9 t415.length co9, .slice A440_0 (rd_L1 t420 x117_4).length c440_0] rfl (by (try simp only [List.map_toArray, List.map_cons, List.map_nil]); first | done | rfl | (simp only [List.length_drop, List.length_take]; rfl)) ?_; (with_reducible refine (impl_FollowsFrom.calls k4 t414 _ _ t415 _ _ (rd_L1 t420 x117_4) true true _ ?side1 ?side2 ?side3 ?side4 A42.out).mono ?_); (case side1 => exact zC_ (Kd.S_reads' HO_6.out).2.2); (case side2 => exact (Kd.S_reads' HO_6.out).2.1); (case side3 => repeat (first | exact (by repeat (first | (with_reducible exact HR440_0.out) | (with_reducible refine Kd.C_alloc ?_ _) | (with_reducible refine Kd.C_drewN ?_ _) | (with_reducible refine Kd.C_drew ?_) | exact HR440_0.out)) | (with_reducible refine Kd.C_alloc ?_ _) | (with_reducible refine Kd.C_drewN ?_ _) | (with_reducible refine Kd.C_drew ?_))); (case side4 => exact HC440_0.out); rintro e w45 ⟨rfl, hb⟩; refine ⟨_, rfl, ?_⟩; obtain ⟨lo1, hi1, EL1, EH1, LE1⟩ := iv_ hb; have OR1 := Aside0.mk (show 0 ≤ lo1 ∧ lo1 ≤ hi1 from ⟨Nat.zero_le _, LE1⟩); have n0_ := Aside0.mk (Kd.S_below (zS_ HO_6.out) hb); have n1_ := Aside0.mk (Kd.S_below (zS_ HO_115.out) hb); have n2_ := Aside0.mk (Kd.R_below (zR_ HL440_0.out) hb); have n3_ := Aside0.mk (Nat.le_of_eq EH1.symm); have n4_ := Aside0.mk (Kd.C_below (by repeat (first | (with_reducible exact HR440_0.out) | (with_reducible refine Kd.C_alloc ?_ _) | (with_reducible refine Kd.C_drewN ?_ _) | (with_reducible refine Kd.C_drew ?_) | exact HR440_0.out)) hb); have n5_ := Aside0.mk (below_step (zb_ HB.out) hb); clear HO_6; clear HO_115; clear HL440_0; clear HTop; clear HR440_0; clear HB; have HO_6 := n0_; have HO_115 := n1_; have HL440_0 := n2_; have HTop := n3_; have HR440_0 := n4_; have HB := n5_; clear n0_ n1_ n2_ n3_ n4_ n5_; (try clear hb); (try clear hb2); (try clear hk); (try clear hi); (try clear EL1); (try clear EH1); (try clear LE1)))
                   go_roundg k4
                   case measure => have := HJ6.out; have := HJ26.out; have := HJ30.out; have := HK4.out; omega
                   case rel => exact ⟨(wrap64 (x117_4 + 1)), (by first | rfl | (simp; done) | (simp [*]; done)), H', ⟨by have := HJ6.out; have := HJ26.out; have := HJ30.out; have := HK4.out; omega⟩, ⟨Kd.S_mono (zS_ HO_6.out) (fun _ _ => trivial)⟩, ⟨Kd.S_mono (zS_ HO_115.out) (fun _ _ => trivial)⟩, ⟨zb_ HB.out⟩⟩
                  ·replace c44 := Bool.eq_false_iff.mpr c44
                   subst c44
                   have H1 : (none) = some r := by rw [if_neg (show ¬ (false = true) by decide)] at H; exact H
                   clear H
                   have H := H1
                   clear H1
                   exact absurd H (by simp)
                 ·replace c43 := Bool.eq_false_iff.mpr c43
                  subst c43
                  have H1 : (laws_FnSolved.l0 k4 l1 t414 t415 t420 (t420.length : Int) (wrap64 (x117_4 + 1))) = some r := by rw [if_neg (show ¬ (false = true) by decide)] at H; exact H
                  clear H
                  have H := H1
                  clear H1
                  have H' := Aside0.mk H
                  clear H
                  have p440 : 0 ≤ (x117_4 : Int) := of_decide_eq_true (by first | (with_reducible assumption) | assumption)
                  have q440 : x117_4 < (t420.length : Int) := of_decide_eq_true (by first | (with_reducible assumption) | assumption)
                  obtain ⟨ad440, A440_0, c440_0, e440, hx440_0, hl440_0, hi440_0⟩ := at_L1 (Kd.S_reads' HO_115.out).2.2 x117_4 p440 q440
                  cases e440
                  obtain ⟨ce440, hce440, hMe440, hcc440⟩ := Kd.S_get HO_115.out [] x117_4 p440 (by first | exact q440 | exact of_decide_eq_true (by first | (with_reducible assumption) | assumption) | (have e_ := (Kd.S_reads' HO_115.out).1; omega))
                  obtain ⟨ve440_0, rfl, ge440_0⟩ := hMe440
                  have hv440_0 := hcc440 0 _ rfl
                  rw [Nat.add_zero, show ((Kd.slice 3 (Kd.int .i64))).sz = 1 from rfl, Nat.mul_one] at hv440_0
                  replace hv440_0 := Option.some.inj (hv440_0.symm.trans hx440_0)
                  rw [hv440_0] at ge440_0
                  have HL440_0 := Aside0.mk (show Kd.R (Kd.int .i64) 3 _ _ _ _ (rd_L1 t420 x117_4) from ge440_0)
                  clear hv440_0 ge440_0
                  clear hcc440 hce440
                  have HR440_0 := Aside0.mk hi440_0
                  have HC440_0 := Aside0.mk hl440_0
                  clear hi440_0 hl440_0
                  replace p440 := eq_true p440
                  replace q440 := eq_true q440
                  go_wp2_with (first | ((with_reducible refine gate_callee (f := 8) rfl ?_); refine goesL_ (some 125) rfl rfl Try.func8 (by kernel_rfl) rfl #[.int .i64 t414, .slice Ao9 t415.length co9, .slice A440_0 (rd_L1 t420 x117_4).length c440_0] rfl (by (try simp only [List.map_toArray, List.map_cons, List.map_nil]); first | done | rfl | (simp only [List.length_drop, List.length_take]; rfl)) ?_; (with_reducible refine (impl_FollowsFrom.calls k4 t414 _ _ t415 _ _ (rd_L1 t420 x117_4) t441 false _ ?side1 ?side2 ?side3 ?side4 A42.out).mono ?_); (case side1 => exact zC_ (Kd.S_reads' HO_6.out).2.2); (case side2 => exact (Kd.S_reads' HO_6.out).2.1); (case side3 => repeat (first | exact (by repeat (first | (with_reducible exact HR440_0.out) | (with_reducible refine Kd.C_alloc ?_ _) | (with_reducible refine Kd.C_drewN ?_ _) | (with_reducible refine Kd.C_drew ?_) | exact HR440_0.out)) | (with_reducible refine Kd.C_alloc ?_ _) | (with_reducible refine Kd.C_drewN ?_ _) | (with_reducible refine Kd.C_drew ?_))); (case side4 => exact HC440_0.out); rintro e w46 ⟨rfl, hb⟩; refine ⟨_, rfl, ?_⟩; obtain ⟨lo1, hi1, EL1, EH1, LE1⟩ := iv_ hb; have OR1 := Aside0.mk (show 0 ≤ lo1 ∧ lo1 ≤ hi1 from ⟨Nat.zero_le _, LE1⟩); have n0_ := Aside0.mk (Kd.S_below (zS_ HO_6.out) hb); have n1_ := Aside0.mk (Kd.S_below (zS_ HO_115.out) hb); have n2_ := Aside0.mk (Kd.R_below (zR_ HL440_0.out) hb); have n3_ := Aside0.mk (Nat.le_of_eq EH1.symm); have n4_ := Aside0.mk (Kd.C_below (by repeat (first | (with_reducible exact HR440_0.out) | (with_reducible refine Kd.C_alloc ?_ _) | (with_reducible refine Kd.C_drewN ?_ _) | (with_reducible refine Kd.C_drew ?_) | exact HR440_0.out)) hb); have n5_ := Aside0.mk (below_step (zb_ HB.out) hb); clear HO_6; clear HO_115; clear HL440_0; clear HTop; clear HR440_0; clear HB; have HO_6 := n0_; have HO_115 := n1_; have HL440_0 := n2_; have HTop := n3_; have HR440_0 := n4_; have HB := n5_; clear n0_ n1_ n2_ n3_ n4_ n5_; (try clear hb); (try clear hb2); (try clear hk); (try clear hi); (try clear EL1); (try clear EH1); (try clear LE1)))
                  go_roundg k4
                  case measure => have := HJ6.out; have := HJ26.out; have := HJ30.out; have := HK4.out; omega
                  case rel => exact ⟨(wrap64 (x117_4 + 1)), (by first | rfl | (simp; done) | (simp [*]; done)), H', ⟨by have := HJ6.out; have := HJ26.out; have := HJ30.out; have := HK4.out; omega⟩, ⟨Kd.S_mono (zS_ HO_6.out) (fun _ _ => trivial)⟩, ⟨Kd.S_mono (zS_ HO_115.out) (fun _ _ => trivial)⟩, ⟨zb_ HB.out⟩⟩
                ·rw [if_neg c41] at H
                 exact absurd H (by simp)
               ·rw [if_neg c40] at H
                exact absurd H (by simp)
              ·rw [if_neg c39] at H
               have c39b0 : decide (x117_4 < (t420.length : Int)) = false := decide_eq_false c39
               clear c39
               have H' := Aside0.mk H
               clear H
               go_wp2
               go_meet
               case rel => exact ⟨_, H', ⟨by have := HJ6.out; have := HJ26.out; have := HJ30.out; have := HK4.out; first | omega | exact Nat.le_refl _⟩, ⟨zb_ HB.out⟩⟩
      ·replace c25 := Bool.eq_false_iff.mpr c25
       subst c25
       have H1 : (laws_FnSolved.j4 kj6 l1) = some r := by rw [if_neg (show ¬ (false = true) by decide)] at H; exact H
       clear H
       have H := H1
       clear H1
       have H' := Aside0.mk H
       clear H
       go_wp2
       go_meet
       case rel => exact ⟨_, H', ⟨by have := HJ6.out; first | omega | exact Nat.le_refl _⟩, ⟨zb_ HB.out⟩⟩
     case rest => as_aux_lemma =>
      clear HC24
      try clear c1
      try clear c2
      try clear p2
      try clear c3
      try clear c3b0
      try clear c4
      try clear p4
      try clear q4
      try clear hx4
      try clear c6
      try clear p6
      try clear c8
      try clear c10
      try clear c12
      try clear c12b0
      try clear c12b1
      try clear c12b2
      try clear c13
      try clear c13b0
      try clear c13b1
      try clear c13b2
      try clear c15
      try clear c21
      try clear c23
      try clear c25
      try clear c29
      try clear c30
      try clear c32
      try clear c34
      try clear c35
      try clear c39
      try clear c39b0
      try clear c40
      try clear c40b0
      try clear c41
      try clear c41b0
      try clear c43
      try clear c44
      try clear p44
      try clear q44
      try clear hx44
      try clear hx440_0
      try clear p2
      try clear p440
      try clear p6
      try clear q440
      obtain ⟨kq, HA, HJ23, HB⟩ := hcut
      cases kq with
      | zero => exact absurd HA.out (by simp [laws_FnSolved.j4])
      | succ kj23 =>
       have H := HA.out
       clear HA
       simp only [laws_FnSolved.j4] at H
       replace H := Option.bind_eq_some_iff.mp H
       obtain ⟨⟨t443, t444, t445⟩, A470, H⟩ := H
       replace H : ((impl_SolveWith.f kj23 t443 t444 t445).bind fun bt450 => ((spec_SolveWith.f kj23 t443 t444 t445).bind fun bt458 => (if (bt450.2.2.2 != bt458.2.2.2) = true then (laws_FnSolved.j5 kj23 l1 true) else (if (bt450.1 != bt458.1) = true then (laws_FnSolved.j5 kj23 l1 true) else ((laws_sameBools.f kj23 bt450.2.1 bt458.2.1).bind fun t466 => (if t466 = true then ((laws_sameRows.f kj23 bt450.2.2.1 bt458.2.2.1).bind fun t467 => (if t467 = true then (if bt450.2.2.2 = true then (if bt450.1 = true then ((laws_allIn.f kj23 t445 bt450.2.1).bind fun t468 => (laws_FnSolved.j5 kj23 l1 (!t468))) else (laws_FnSolved.j5 kj23 l1 false)) else (laws_FnSolved.j5 kj23 l1 false)) else (laws_FnSolved.j5 kj23 l1 true))) else (laws_FnSolved.j5 kj23 l1 true))))))) = some r := H
       have A47 := Aside0.mk A470
       clear A470
       replace H := Option.bind_eq_some_iff.mp H
       obtain ⟨⟨t450, t451, t452, t453⟩, A480, H⟩ := H
       replace H : ((spec_SolveWith.f kj23 t443 t444 t445).bind fun bt458 => (if (t453 != bt458.2.2.2) = true then (laws_FnSolved.j5 kj23 l1 true) else (if (t450 != bt458.1) = true then (laws_FnSolved.j5 kj23 l1 true) else ((laws_sameBools.f kj23 t451 bt458.2.1).bind fun t466 => (if t466 = true then ((laws_sameRows.f kj23 t452 bt458.2.2.1).bind fun t467 => (if t467 = true then (if t453 = true then (if t450 = true then ((laws_allIn.f kj23 t445 t451).bind fun t468 => (laws_FnSolved.j5 kj23 l1 (!t468))) else (laws_FnSolved.j5 kj23 l1 false)) else (laws_FnSolved.j5 kj23 l1 false)) else (laws_FnSolved.j5 kj23 l1 true))) else (laws_FnSolved.j5 kj23 l1 true)))))) = some r := H
       have A48 := Aside0.mk A480
       clear A480
       replace H := Option.bind_eq_some_iff.mp H
       obtain ⟨⟨t458, t459, t460, t461⟩, A490, H⟩ := H
       replace H : (if (t453 != t461) = true then (laws_FnSolved.j5 kj23 l1 true) else (if (t450 != t458) = true then (laws_FnSolved.j5 kj23 l1 true) else ((laws_sameBools.f kj23 t451 t459).bind fun t466 => (if t466 = true then ((laws_sameRows.f kj23 t452 t460).bind fun t467 => (if t467 = true then (if t453 = true then (if t450 = true then ((laws_allIn.f kj23 t445 t451).bind fun t468 => (laws_FnSolved.j5 kj23 l1 (!t468))) else (laws_FnSolved.j5 kj23 l1 false)) else (laws_FnSolved.j5 kj23 l1 false)) else (laws_FnSolved.j5 kj23 l1 true))) else (laws_FnSolved.j5 kj23 l1 true))))) = some r := H
       have A49 := Aside0.mk A490
       clear A490
       have HC50 := Aside0.mk H
       clear H
       go_upto_region 26 with (first | ((with_reducible refine gate_callee (f := 50) rfl ?_); refine goesL_ (some 136) rfl rfl Try.func50 (by kernel_rfl) rfl #[.slice A1 l1.length c1] rfl (by (try simp only [List.map_toArray, List.map_cons, List.map_nil]); first | done | rfl | (simp only [List.length_drop, List.length_take]; rfl)) ?_; (with_reducible refine (spec_DrawSolveWith.calls kj23 _ _ l1 t443 t444 t445 _ ?side1 ?side2 A47.out).mono ?_); (case side1 => exact zC_ (Kd.C_below HR1.out HB.out)); (case side2 => exact HC1.out); rintro e w51 ⟨v446, v448, rfl, ho0, ho1, hb⟩; refine ⟨_, rfl, ?_⟩; obtain ⟨lo1, hi1, EL1, EH1, LE1⟩ := iv_ hb; have OR1 := Aside0.mk (show 0 ≤ lo1 ∧ lo1 ≤ hi1 from ⟨Nat.zero_le _, LE1⟩); have n0_ := Aside0.mk (Kd.S_mono (ok' := fun k_ => lo1 ≤ k_ ∧ k_ < hi1) (Kd.S_lower (Kd.S_bound ho0) (below_size (zb_ HB.out))) (fun k_ hk_ => by have a_ := hk_.2.1; have b_ := hk_.2.2.1; omega)); have n1_ := Aside0.mk (Kd.R_mono (ok' := fun k_ => lo1 ≤ k_ ∧ k_ < hi1) (Kd.R_lower (Kd.R_bound ho1) (below_size (zb_ HB.out))) (fun k_ hk_ => by have a_ := hk_.2.1; have b_ := hk_.2.2.1; omega)); have n2_ := Aside0.mk (Nat.le_of_eq EH1.symm); have n3_ := Aside0.mk (below_step (zb_ HB.out) hb); clear HTop; clear HB; have HO447 := n0_; have HO449 := n1_; have HTop := n2_; have HB := n3_; clear n0_ n1_ n2_ n3_; (try clear hb); (try clear hb2); (try clear hk); (try clear hi); (try clear ho0); (try clear ho1); (try clear EL1); (try clear EH1); (try clear LE1); obtain ⟨Ao52, co52, eo52⟩ := Kd.S_slice HO447.out; subst eo52; obtain ⟨Ao53, co53, eo53⟩ := Kd.R_slice HO449.out; subst eo53) | ((with_reducible refine gate_callee (f := 22) rfl ?_); refine goesL_ (some 144) rfl rfl Try.func22 (by kernel_rfl) rfl #[.int .i64 t443, .slice Ao52 t444.length co52, .slice Ao53 t445.length co53] rfl (by (try simp only [List.map_toArray, List.map_cons, List.map_nil]); first | done | rfl | (simp only [List.length_drop, List.length_take]; rfl)) ?_; (with_reducible refine (impl_SolveWith.calls kj23 t443 _ _ t444 _ _ t445 t450 t451 t452 t453 _ ?side1 ?side2 ?side3 ?side4 A48.out).mono ?_); (case side1 => exact zC_ (Kd.S_reads' HO447.out).2.2); (case side2 => exact (Kd.S_reads' HO447.out).2.1); (case side3 => exact zC_ (Kd.R_reads' HO449.out).2.2); (case side4 => exact (Kd.R_reads' HO449.out).2.1); rintro e w54 ⟨v454, v456, rfl, ho0, ho1, hb⟩; refine ⟨_, rfl, ?_⟩; obtain ⟨lo2, hi2, EL2, EH2, LE2⟩ := iv_ hb; have OR2 := Aside0.mk (show hi1 ≤ lo2 ∧ lo2 ≤ hi2 from ⟨Nat.le_trans HTop.out (Nat.le_of_eq EL2), LE2⟩); have n0_ := Aside0.mk (Kd.S_below (zS_ HO447.out) hb); have n1_ := Aside0.mk (Kd.R_below (zR_ HO449.out) hb); have n2_ := Aside0.mk (Kd.R_mono (ok' := fun k_ => lo2 ≤ k_ ∧ k_ < hi2) (Kd.R_lower (Kd.R_bound ho0) (below_size (zb_ HB.out))) (fun k_ hk_ => by have a_ := hk_.2.1; have b_ := hk_.2.2.1; omega)); have n3_ := Aside0.mk (Kd.S_mono (ok' := fun k_ => lo2 ≤ k_ ∧ k_ < hi2) (Kd.S_lower (Kd.S_bound ho1) (below_size (zb_ HB.out))) (fun k_ hk_ => by have a_ := hk_.2.1; have b_ := hk_.2.2.1; omega)); have n4_ := Aside0.mk (Nat.le_of_eq EH2.symm); have n5_ := Aside0.mk (below_step (zb_ HB.out) hb); clear HO447; clear HO449; clear HTop; clear HB; have HO447 := n0_; have HO449 := n1_; have HO455 := n2_; have HO457 := n3_; have HTop := n4_; have HB := n5_; clear n0_ n1_ n2_ n3_ n4_ n5_; (try clear hb); (try clear hb2); (try clear hk); (try clear hi); (try clear ho0); (try clear ho1); (try clear EL2); (try clear EH2); (try clear LE2)) | ((with_reducible refine gate_callee (f := 51) rfl ?_); refine goesL_ (some 153) rfl rfl Try.func51 (by kernel_rfl) rfl #[.int .i64 t443, .slice Ao52 t444.length co52, .slice Ao53 t445.length co53] rfl (by (try simp only [List.map_toArray, List.map_cons, List.map_nil]); first | done | rfl | (simp only [List.length_drop, List.length_take]; rfl)) ?_; (with_reducible refine (spec_SolveWith.calls kj23 t443 _ _ t444 _ _ t445 t458 t459 t460 t461 _ ?side1 ?side2 ?side3 ?side4 A49.out).mono ?_); (case side1 => exact zC_ (Kd.S_reads' HO447.out).2.2); (case side2 => exact (Kd.S_reads' HO447.out).2.1); (case side3 => exact zC_ (Kd.R_reads' HO449.out).2.2); (case side4 => exact (Kd.R_reads' HO449.out).2.1); rintro e w55 ⟨v462, v464, rfl, ho0, ho1, hb⟩; refine ⟨_, rfl, ?_⟩; obtain ⟨lo3, hi3, EL3, EH3, LE3⟩ := iv_ hb; have OR3 := Aside0.mk (show hi2 ≤ lo3 ∧ lo3 ≤ hi3 from ⟨Nat.le_trans HTop.out (Nat.le_of_eq EL3), LE3⟩); have n0_ := Aside0.mk (Kd.S_below (zS_ HO447.out) hb); have n1_ := Aside0.mk (Kd.R_below (zR_ HO449.out) hb); have n2_ := Aside0.mk (Kd.R_below (zR_ HO455.out) hb); have n3_ := Aside0.mk (Kd.S_below (zS_ HO457.out) hb); have n4_ := Aside0.mk (Kd.R_mono (ok' := fun k_ => lo3 ≤ k_ ∧ k_ < hi3) (Kd.R_lower (Kd.R_bound ho0) (below_size (zb_ HB.out))) (fun k_ hk_ => by have a_ := hk_.2.1; have b_ := hk_.2.2.1; omega)); have n5_ := Aside0.mk (Kd.S_mono (ok' := fun k_ => lo3 ≤ k_ ∧ k_ < hi3) (Kd.S_lower (Kd.S_bound ho1) (below_size (zb_ HB.out))) (fun k_ hk_ => by have a_ := hk_.2.1; have b_ := hk_.2.2.1; omega)); have n6_ := Aside0.mk (Nat.le_of_eq EH3.symm); have n7_ := Aside0.mk (below_step (zb_ HB.out) hb); clear HO447; clear HO449; clear HO455; clear HO457; clear HTop; clear HB; have HO447 := n0_; have HO449 := n1_; have HO455 := n2_; have HO457 := n3_; have HO463 := n4_; have HO465 := n5_; have HTop := n6_; have HB := n7_; clear n0_ n1_ n2_ n3_ n4_ n5_ n6_ n7_; (try clear hb); (try clear hb2); (try clear hk); (try clear hi); (try clear ho0); (try clear ho1); (try clear EL3); (try clear EH3); (try clear LE3)))
       (try simp only [Act.put, List.setIfInBounds_toArray, List.set_cons_zero, List.set_cons_succ])
       go_cut [189] (fun v189 wc => ∃ (kq : Nat) (x189_49 : Bool), v189 = .bool x189_49 ∧ Aside0 (laws_FnSolved.j5 kq l1 x189_49 = some r) ∧ Aside0 (kq ≤ kj23) ∧ Aside0 (Below w.heap.size w wc))
       case first => as_aux_lemma =>
        have H := HC50.out
        clear HC50
        by_cases c56 : (t453 != t461) = true
        ·rw [if_pos c56] at H
         have c56b0 : (t453 != t461) = true := c56
         (try (have c56b1 : decide (t453 = t461) = false := by simpa using c56))
         (try (have c56b2 : (t453 == t461) = false := by simpa using c56))
         (try (have c56b3 : ¬ (t453 = t461) := by simpa using c56))
         clear c56
         (first | rw [c56b0] | (simp only [i64_w, i32_w]; rw [c56b0]) | skip)
         have H' := Aside0.mk H
         clear H
         go_wp2
         go_meet
         case rel => exact ⟨_, (true), (by first | rfl | (simp; done) | (simp [*]; done)), H', ⟨by have := HJ6.out; have := HJ23.out; first | omega | exact Nat.le_refl _⟩, ⟨zb_ HB.out⟩⟩
        ·rw [if_neg c56] at H
         have c56b0 : (t453 != t461) = false := by simpa using c56
         (try (have c56b1 : decide (t453 = t461) = true := by simpa using c56))
         (try (have c56b2 : (t453 == t461) = true := by simpa using c56))
         clear c56
         (first | rw [c56b0] | (simp only [i64_w, i32_w]; rw [c56b0]) | skip)
         by_cases c57 : (t450 != t458) = true
         ·rw [if_pos c57] at H
          have c57b0 : (t450 != t458) = true := c57
          (try (have c57b1 : decide (t450 = t458) = false := by simpa using c57))
          (try (have c57b2 : (t450 == t458) = false := by simpa using c57))
          (try (have c57b3 : ¬ (t450 = t458) := by simpa using c57))
          clear c57
          have H' := Aside0.mk H
          clear H
          go_wp2
          go_meet
          case rel => exact ⟨_, (true), (by first | rfl | (simp; done) | (simp [*]; done)), H', ⟨by have := HJ6.out; have := HJ23.out; first | omega | exact Nat.le_refl _⟩, ⟨zb_ HB.out⟩⟩
         ·rw [if_neg c57] at H
          have c57b0 : (t450 != t458) = false := by simpa using c57
          (try (have c57b1 : decide (t450 = t458) = true := by simpa using c57))
          (try (have c57b2 : (t450 == t458) = true := by simpa using c57))
          clear c57
          replace H := Option.bind_eq_some_iff.mp H
          obtain ⟨t466, A580, H⟩ := H
          replace H : (if t466 = true then ((laws_sameRows.f kj23 t452 t460).bind fun t467 => (if t467 = true then (if t453 = true then (if t450 = true then ((laws_allIn.f kj23 t445 t451).bind fun t468 => (laws_FnSolved.j5 kj23 l1 (!t468))) else (laws_FnSolved.j5 kj23 l1 false)) else (laws_FnSolved.j5 kj23 l1 false)) else (laws_FnSolved.j5 kj23 l1 true))) else (laws_FnSolved.j5 kj23 l1 true)) = some r := H
          have A58 := Aside0.mk A580
          clear A580
          by_cases c59 : t466 = true
          ·subst c59
           have H1 : ((laws_sameRows.f kj23 t452 t460).bind fun t467 => (if t467 = true then (if t453 = true then (if t450 = true then ((laws_allIn.f kj23 t445 t451).bind fun t468 => (laws_FnSolved.j5 kj23 l1 (!t468))) else (laws_FnSolved.j5 kj23 l1 false)) else (laws_FnSolved.j5 kj23 l1 false)) else (laws_FnSolved.j5 kj23 l1 true))) = some r := by rw [if_pos rfl] at H; exact H
           clear H
           have H := H1
           clear H1
           replace H := Option.bind_eq_some_iff.mp H
           obtain ⟨t467, A600, H⟩ := H
           replace H : (if t467 = true then (if t453 = true then (if t450 = true then ((laws_allIn.f kj23 t445 t451).bind fun t468 => (laws_FnSolved.j5 kj23 l1 (!t468))) else (laws_FnSolved.j5 kj23 l1 false)) else (laws_FnSolved.j5 kj23 l1 false)) else (laws_FnSolved.j5 kj23 l1 true)) = some r := H
           have A60 := Aside0.mk A600
           clear A600
           by_cases c61 : t467 = true
           ·subst c61
            have H1 : (if t453 = true then (if t450 = true then ((laws_allIn.f kj23 t445 t451).bind fun t468 => (laws_FnSolved.j5 kj23 l1 (!t468))) else (laws_FnSolved.j5 kj23 l1 false)) else (laws_FnSolved.j5 kj23 l1 false)) = some r := by rw [if_pos rfl] at H; exact H
            clear H
            have H := H1
            clear H1
            by_cases c62 : t453 = true
            ·subst c62
             have H1 : (if t450 = true then ((laws_allIn.f kj23 t445 t451).bind fun t468 => (laws_FnSolved.j5 kj23 l1 (!t468))) else (laws_FnSolved.j5 kj23 l1 false)) = some r := by rw [if_pos rfl] at H; exact H
             clear H
             have H := H1
             clear H1
             by_cases c63 : t450 = true
             ·subst c63
              have H1 : ((laws_allIn.f kj23 t445 t451).bind fun t468 => (laws_FnSolved.j5 kj23 l1 (!t468))) = some r := by rw [if_pos rfl] at H; exact H
              clear H
              have H := H1
              clear H1
              replace H := Option.bind_eq_some_iff.mp H
              obtain ⟨t468, A640, H⟩ := H
              replace H : (laws_FnSolved.j5 kj23 l1 (!t468)) = some r := H
              have A64 := Aside0.mk A640
              clear A640
              have H' := Aside0.mk H
              clear H
              obtain ⟨Ao65, co65, eo65⟩ := Kd.R_slice HO455.out
              subst eo65
              obtain ⟨Ao66, co66, eo66⟩ := Kd.R_slice HO463.out
              subst eo66
              go_wp2_with (first | (go_at_call 49; (with_reducible refine (laws_sameBools.calls kj23 _ _ t451 _ _ t459 true _ ?side1 ?side2 ?side3 ?side4 A58.out).mono ?_); (case side1 => exact zC_ (Kd.R_reads' HO455.out).2.2); (case side2 => exact (Kd.R_reads' HO455.out).2.1); (case side3 => exact zC_ (Kd.R_reads' HO463.out).2.2); (case side4 => exact (Kd.R_reads' HO463.out).2.1); rintro e w' ⟨rfl, ⟨nd, rfl⟩⟩; obtain ⟨Ao67, co67, eo67⟩ := Kd.S_slice HO457.out; subst eo67; obtain ⟨Ao68, co68, eo68⟩ := Kd.S_slice HO465.out; subst eo68) | (go_at_call 34; (with_reducible refine (laws_sameRows.calls kj23 _ _ t452 _ _ t460 true _ ?side1 ?side2 ?side3 ?side4 A60.out).mono ?_); (case side1 => exact zC_ (Kd.S_reads' HO457.out).2.2); (case side2 => exact (Kd.S_reads' HO457.out).2.1); (case side3 => exact zC_ (Kd.S_reads' HO465.out).2.2); (case side4 => exact (Kd.S_reads' HO465.out).2.1); rintro e w' ⟨rfl, ⟨nd, rfl⟩⟩) | (go_at_call 31; (with_reducible refine (laws_allIn.calls kj23 _ _ t445 _ _ t451 t468 _ ?side1 ?side2 ?side3 ?side4 A64.out).mono ?_); (case side1 => exact zC_ (Kd.R_reads' HO449.out).2.2); (case side2 => exact (Kd.R_reads' HO449.out).2.1); (case side3 => exact zC_ (Kd.R_reads' HO455.out).2.2); (case side4 => exact (Kd.R_reads' HO455.out).2.1); rintro e w' ⟨rfl, ⟨nd, rfl⟩⟩))
              go_meet
              case rel => exact ⟨_, (!t468), (by first | rfl | (simp; done) | (simp [*]; done)), H', ⟨by have := HJ6.out; have := HJ23.out; first | omega | exact Nat.le_refl _⟩, ⟨zb_ HB.out⟩⟩
             ·replace c63 := Bool.eq_false_iff.mpr c63
              subst c63
              have H1 : (laws_FnSolved.j5 kj23 l1 false) = some r := by rw [if_neg (show ¬ (false = true) by decide)] at H; exact H
              clear H
              have H := H1
              clear H1
              have H' := Aside0.mk H
              clear H
              obtain ⟨Ao69, co69, eo69⟩ := Kd.R_slice HO455.out
              subst eo69
              obtain ⟨Ao70, co70, eo70⟩ := Kd.R_slice HO463.out
              subst eo70
              go_wp2_with (first | (go_at_call 49; (with_reducible refine (laws_sameBools.calls kj23 _ _ t451 _ _ t459 true _ ?side1 ?side2 ?side3 ?side4 A58.out).mono ?_); (case side1 => exact zC_ (Kd.R_reads' HO455.out).2.2); (case side2 => exact (Kd.R_reads' HO455.out).2.1); (case side3 => exact zC_ (Kd.R_reads' HO463.out).2.2); (case side4 => exact (Kd.R_reads' HO463.out).2.1); rintro e w' ⟨rfl, ⟨nd, rfl⟩⟩; obtain ⟨Ao71, co71, eo71⟩ := Kd.S_slice HO457.out; subst eo71; obtain ⟨Ao72, co72, eo72⟩ := Kd.S_slice HO465.out; subst eo72) | (go_at_call 34; (with_reducible refine (laws_sameRows.calls kj23 _ _ t452 _ _ t460 true _ ?side1 ?side2 ?side3 ?side4 A60.out).mono ?_); (case side1 => exact zC_ (Kd.S_reads' HO457.out).2.2); (case side2 => exact (Kd.S_reads' HO457.out).2.1); (case side3 => exact zC_ (Kd.S_reads' HO465.out).2.2); (case side4 => exact (Kd.S_reads' HO465.out).2.1); rintro e w' ⟨rfl, ⟨nd, rfl⟩⟩))
              go_meet
              case rel => exact ⟨_, (false), (by first | rfl | (simp; done) | (simp [*]; done)), H', ⟨by have := HJ6.out; have := HJ23.out; first | omega | exact Nat.le_refl _⟩, ⟨zb_ HB.out⟩⟩
            ·replace c62 := Bool.eq_false_iff.mpr c62
             subst c62
             have H1 : (laws_FnSolved.j5 kj23 l1 false) = some r := by rw [if_neg (show ¬ (false = true) by decide)] at H; exact H
             clear H
             have H := H1
             clear H1
             have H' := Aside0.mk H
             clear H
             obtain ⟨Ao73, co73, eo73⟩ := Kd.R_slice HO455.out
             subst eo73
             obtain ⟨Ao74, co74, eo74⟩ := Kd.R_slice HO463.out
             subst eo74
             go_wp2_with (first | (go_at_call 49; (with_reducible refine (laws_sameBools.calls kj23 _ _ t451 _ _ t459 true _ ?side1 ?side2 ?side3 ?side4 A58.out).mono ?_); (case side1 => exact zC_ (Kd.R_reads' HO455.out).2.2); (case side2 => exact (Kd.R_reads' HO455.out).2.1); (case side3 => exact zC_ (Kd.R_reads' HO463.out).2.2); (case side4 => exact (Kd.R_reads' HO463.out).2.1); rintro e w' ⟨rfl, ⟨nd, rfl⟩⟩; obtain ⟨Ao75, co75, eo75⟩ := Kd.S_slice HO457.out; subst eo75; obtain ⟨Ao76, co76, eo76⟩ := Kd.S_slice HO465.out; subst eo76) | (go_at_call 34; (with_reducible refine (laws_sameRows.calls kj23 _ _ t452 _ _ t460 true _ ?side1 ?side2 ?side3 ?side4 A60.out).mono ?_); (case side1 => exact zC_ (Kd.S_reads' HO457.out).2.2); (case side2 => exact (Kd.S_reads' HO457.out).2.1); (case side3 => exact zC_ (Kd.S_reads' HO465.out).2.2); (case side4 => exact (Kd.S_reads' HO465.out).2.1); rintro e w' ⟨rfl, ⟨nd, rfl⟩⟩))
             go_meet
             case rel => exact ⟨_, (false), (by first | rfl | (simp; done) | (simp [*]; done)), H', ⟨by have := HJ6.out; have := HJ23.out; first | omega | exact Nat.le_refl _⟩, ⟨zb_ HB.out⟩⟩
           ·replace c61 := Bool.eq_false_iff.mpr c61
            subst c61
            have H1 : (laws_FnSolved.j5 kj23 l1 true) = some r := by rw [if_neg (show ¬ (false = true) by decide)] at H; exact H
            clear H
            have H := H1
            clear H1
            have H' := Aside0.mk H
            clear H
            obtain ⟨Ao77, co77, eo77⟩ := Kd.R_slice HO455.out
            subst eo77
            obtain ⟨Ao78, co78, eo78⟩ := Kd.R_slice HO463.out
            subst eo78
            go_wp2_with (first | (go_at_call 49; (with_reducible refine (laws_sameBools.calls kj23 _ _ t451 _ _ t459 true _ ?side1 ?side2 ?side3 ?side4 A58.out).mono ?_); (case side1 => exact zC_ (Kd.R_reads' HO455.out).2.2); (case side2 => exact (Kd.R_reads' HO455.out).2.1); (case side3 => exact zC_ (Kd.R_reads' HO463.out).2.2); (case side4 => exact (Kd.R_reads' HO463.out).2.1); rintro e w' ⟨rfl, ⟨nd, rfl⟩⟩; obtain ⟨Ao79, co79, eo79⟩ := Kd.S_slice HO457.out; subst eo79; obtain ⟨Ao80, co80, eo80⟩ := Kd.S_slice HO465.out; subst eo80) | (go_at_call 34; (with_reducible refine (laws_sameRows.calls kj23 _ _ t452 _ _ t460 false _ ?side1 ?side2 ?side3 ?side4 A60.out).mono ?_); (case side1 => exact zC_ (Kd.S_reads' HO457.out).2.2); (case side2 => exact (Kd.S_reads' HO457.out).2.1); (case side3 => exact zC_ (Kd.S_reads' HO465.out).2.2); (case side4 => exact (Kd.S_reads' HO465.out).2.1); rintro e w' ⟨rfl, ⟨nd, rfl⟩⟩))
            go_meet
            case rel => exact ⟨_, (true), (by first | rfl | (simp; done) | (simp [*]; done)), H', ⟨by have := HJ6.out; have := HJ23.out; first | omega | exact Nat.le_refl _⟩, ⟨zb_ HB.out⟩⟩
          ·replace c59 := Bool.eq_false_iff.mpr c59
           subst c59
           have H1 : (laws_FnSolved.j5 kj23 l1 true) = some r := by rw [if_neg (show ¬ (false = true) by decide)] at H; exact H
           clear H
           have H := H1
           clear H1
           have H' := Aside0.mk H
           clear H
           obtain ⟨Ao81, co81, eo81⟩ := Kd.R_slice HO455.out
           subst eo81
           obtain ⟨Ao82, co82, eo82⟩ := Kd.R_slice HO463.out
           subst eo82
           go_wp2_with (first | (go_at_call 49; (with_reducible refine (laws_sameBools.calls kj23 _ _ t451 _ _ t459 false _ ?side1 ?side2 ?side3 ?side4 A58.out).mono ?_); (case side1 => exact zC_ (Kd.R_reads' HO455.out).2.2); (case side2 => exact (Kd.R_reads' HO455.out).2.1); (case side3 => exact zC_ (Kd.R_reads' HO463.out).2.2); (case side4 => exact (Kd.R_reads' HO463.out).2.1); rintro e w' ⟨rfl, ⟨nd, rfl⟩⟩))
           go_meet
           case rel => exact ⟨_, (true), (by first | rfl | (simp; done) | (simp [*]; done)), H', ⟨by have := HJ6.out; have := HJ23.out; first | omega | exact Nat.le_refl _⟩, ⟨zb_ HB.out⟩⟩
       case rest => as_aux_lemma =>
        clear HC50
        try clear c1
        try clear c2
        try clear p2
        try clear c3
        try clear c3b0
        try clear c4
        try clear p4
        try clear q4
        try clear hx4
        try clear c5
        try clear c6
        try clear p6
        try clear c8
        try clear c10
        try clear c12
        try clear c12b0
        try clear c12b1
        try clear c12b2
        try clear c13
        try clear c13b0
        try clear c13b1
        try clear c13b2
        try clear c15
        try clear c21
        try clear c22
        try clear c23
        try clear c25
        try clear c29
        try clear c30
        try clear c32
        try clear c34
        try clear c35
        try clear c39
        try clear c39b0
        try clear c40
        try clear c40b0
        try clear c41
        try clear c41b0
        try clear c43
        try clear c44
        try clear p44
        try clear q44
        try clear hx44
        try clear c50
        try clear c51
        try clear c56
        try clear c56b0
        try clear c56b1
        try clear c56b2
        try clear c57
        try clear c57b0
        try clear c57b1
        try clear c57b2
        try clear c59
        try clear c61
        try clear c62
        try clear c63
        try clear p64
        try clear hx440_0
        try clear p2
        try clear p4
        try clear p44
        try clear p440
        try clear p6
        try clear q4
        try clear q44
        try clear q440
        obtain ⟨kq, x189_49, rfl, HA, HJ49, HB⟩ := hcut
        cases kq with
        | zero => exact absurd HA.out (by simp [laws_FnSolved.j5])
        | succ kj49 =>
         have H := HA.out
         clear HA
         simp only [laws_FnSolved.j5] at H
         by_cases c83 : x189_49 = true
         ·subst c83
          have H1 : (none) = some r := by rw [if_pos rfl] at H; exact H
          clear H
          have H := H1
          clear H1
          exact absurd H (by simp)
         ·replace c83 := Bool.eq_false_iff.mpr c83
          subst c83
          have H1 : ((spec_DrawLearnFrom.f kj49 l1).bind fun t469 => ((impl_LearnFrom.f kj49 t469).bind fun bt472 => ((spec_LearnFrom.f kj49 t469).bind fun bt476 => (if (bt472.2 == bt476.2) = true then ((laws_sameInts.f kj49 bt472.1 bt476.1).bind fun t480 => (if t480 = true then (if bt472.2 = true then ((laws_negated.f kj49 t469).bind fun t481 => ((laws_sameInts.f kj49 bt472.1 t481).bind fun t484 => (some t484))) else (some true)) else (none))) else (none))))) = some r := by rw [if_neg (show ¬ (false = true) by decide)] at H; exact H
          clear H
          have H := H1
          clear H1
          replace H := Option.bind_eq_some_iff.mp H
          obtain ⟨t469, A840, H⟩ := H
          replace H : ((impl_LearnFrom.f kj49 t469).bind fun bt472 => ((spec_LearnFrom.f kj49 t469).bind fun bt476 => (if (bt472.2 == bt476.2) = true then ((laws_sameInts.f kj49 bt472.1 bt476.1).bind fun t480 => (if t480 = true then (if bt472.2 = true then ((laws_negated.f kj49 t469).bind fun t481 => ((laws_sameInts.f kj49 bt472.1 t481).bind fun t484 => (some t484))) else (some true)) else (none))) else (none)))) = some r := H
          have A84 := Aside0.mk A840
          clear A840
          replace H := Option.bind_eq_some_iff.mp H
          obtain ⟨⟨t472, t473⟩, A850, H⟩ := H
          replace H : ((spec_LearnFrom.f kj49 t469).bind fun bt476 => (if (t473 == bt476.2) = true then ((laws_sameInts.f kj49 t472 bt476.1).bind fun t480 => (if t480 = true then (if t473 = true then ((laws_negated.f kj49 t469).bind fun t481 => ((laws_sameInts.f kj49 t472 t481).bind fun t484 => (some t484))) else (some true)) else (none))) else (none))) = some r := H
          have A85 := Aside0.mk A850
          clear A850
          replace H := Option.bind_eq_some_iff.mp H
          obtain ⟨⟨t476, t477⟩, A860, H⟩ := H
          replace H : (if (t473 == t477) = true then ((laws_sameInts.f kj49 t472 t476).bind fun t480 => (if t480 = true then (if t473 = true then ((laws_negated.f kj49 t469).bind fun t481 => ((laws_sameInts.f kj49 t472 t481).bind fun t484 => (some t484))) else (some true)) else (none))) else (none)) = some r := H
          have A86 := Aside0.mk A860
          clear A860
          by_cases c87 : (t473 == t477) = true
          ·rw [if_pos c87] at H
           have c87b0 : (t473 == t477) = true := c87
           (try (have c87b1 : decide (t473 = t477) = true := by simpa using c87))
           (try (have c87b2 : (t473 == t477) = true := by simpa using c87))
           clear c87
           replace H := Option.bind_eq_some_iff.mp H
           obtain ⟨t480, A880, H⟩ := H
           replace H : (if t480 = true then (if t473 = true then ((laws_negated.f kj49 t469).bind fun t481 => ((laws_sameInts.f kj49 t472 t481).bind fun t484 => (some t484))) else (some true)) else (none)) = some r := H
           have A88 := Aside0.mk A880
           clear A880
           by_cases c89 : t480 = true
           ·subst c89
            have H1 : (if t473 = true then ((laws_negated.f kj49 t469).bind fun t481 => ((laws_sameInts.f kj49 t472 t481).bind fun t484 => (some t484))) else (some true)) = some r := by rw [if_pos rfl] at H; exact H
            clear H
            have H := H1
            clear H1
            by_cases c90 : t473 = true
            ·subst c90
             have H1 : ((laws_negated.f kj49 t469).bind fun t481 => ((laws_sameInts.f kj49 t472 t481).bind fun t484 => (some t484))) = some r := by rw [if_pos rfl] at H; exact H
             clear H
             have H := H1
             clear H1
             replace H := Option.bind_eq_some_iff.mp H
             obtain ⟨t481, A910, H⟩ := H
             replace H : ((laws_sameInts.f kj49 t472 t481).bind fun t484 => (some t484)) = some r := H
             have A91 := Aside0.mk A910
             clear A910
             replace H := Option.bind_eq_some_iff.mp H
             obtain ⟨t484, A920, H⟩ := H
             replace H : (some t484) = some r := H
             have A92 := Aside0.mk A920
             clear A920
             obtain rfl := Option.some.inj H
             go_wp2_with (first | ((with_reducible refine gate_callee (f := 52) rfl ?_); refine goesL_ (some 191) rfl rfl Try.func52 (by kernel_rfl) rfl #[.slice A1 l1.length c1] rfl (by (try simp only [List.map_toArray, List.map_cons, List.map_nil]); first | done | rfl | (simp only [List.length_drop, List.length_take]; rfl)) ?_; (with_reducible refine (spec_DrawLearnFrom.calls kj49 _ _ l1 t469 _ ?side1 ?side2 A84.out).mono ?_); (case side1 => exact zC_ (Kd.C_below HR1.out HB.out)); (case side2 => exact HC1.out); rintro e w93 ⟨v470, rfl, ho0, hb⟩; refine ⟨_, rfl, ?_⟩; obtain ⟨lo1, hi1, EL1, EH1, LE1⟩ := iv_ hb; have OR1 := Aside0.mk (show 0 ≤ lo1 ∧ lo1 ≤ hi1 from ⟨Nat.zero_le _, LE1⟩); have n0_ := Aside0.mk (Kd.R_mono (ok' := fun k_ => lo1 ≤ k_ ∧ k_ < hi1) (Kd.R_lower (Kd.R_bound ho0) (below_size (zb_ HB.out))) (fun k_ hk_ => by have a_ := hk_.2.1; have b_ := hk_.2.2.1; omega)); have n1_ := Aside0.mk (Nat.le_of_eq EH1.symm); have n2_ := Aside0.mk (below_step (zb_ HB.out) hb); clear HTop; clear HB; have HO471 := n0_; have HTop := n1_; have HB := n2_; clear n0_ n1_ n2_; (try clear hb); (try clear hb2); (try clear hk); (try clear hi); (try clear ho0); (try clear EL1); (try clear EH1); (try clear LE1); obtain ⟨Ao94, co94, eo94⟩ := Kd.R_slice HO471.out; subst eo94) | ((with_reducible refine gate_callee (f := 53) rfl ?_); refine goesL_ (some 194) rfl rfl Try.func53 (by kernel_rfl) rfl #[.slice Ao94 t469.length co94] rfl (by (try simp only [List.map_toArray, List.map_cons, List.map_nil]); first | done | rfl | (simp only [List.length_drop, List.length_take]; rfl)) ?_; (with_reducible refine (impl_LearnFrom.calls kj49 _ _ t469 t472 true _ ?side1 ?side2 A85.out).mono ?_); (case side1 => exact zC_ (Kd.R_reads' HO471.out).2.2); (case side2 => exact (Kd.R_reads' HO471.out).2.1); rintro e w95 ⟨v474, rfl, ho0, hb⟩; refine ⟨_, rfl, ?_⟩; obtain ⟨lo2, hi2, EL2, EH2, LE2⟩ := iv_ hb; have OR2 := Aside0.mk (show hi1 ≤ lo2 ∧ lo2 ≤ hi2 from ⟨Nat.le_trans HTop.out (Nat.le_of_eq EL2), LE2⟩); have n0_ := Aside0.mk (Kd.R_below (zR_ HO471.out) hb); have n1_ := Aside0.mk (Kd.R_mono (ok' := fun k_ => lo2 ≤ k_ ∧ k_ < hi2) (Kd.R_lower (Kd.R_bound ho0) (below_size (zb_ HB.out))) (fun k_ hk_ => by have a_ := hk_.2.1; have b_ := hk_.2.2.1; omega)); have n2_ := Aside0.mk (Nat.le_of_eq EH2.symm); have n3_ := Aside0.mk (below_step (zb_ HB.out) hb); clear HO471; clear HTop; clear HB; have HO471 := n0_; have HO475 := n1_; have HTop := n2_; have HB := n3_; clear n0_ n1_ n2_ n3_; (try clear hb); (try clear hb2); (try clear hk); (try clear hi); (try clear ho0); (try clear EL2); (try clear EH2); (try clear LE2)) | ((with_reducible refine gate_callee (f := 54) rfl ?_); refine goesL_ (some 199) rfl rfl Try.func54 (by kernel_rfl) rfl #[.slice Ao94 t469.length co94] rfl (by (try simp only [List.map_toArray, List.map_cons, List.map_nil]); first | done | rfl | (simp only [List.length_drop, List.length_take]; rfl)) ?_; (with_reducible refine (spec_LearnFrom.calls kj49 _ _ t469 t476 t477 _ ?side1 ?side2 A86.out).mono ?_); (case side1 => exact zC_ (Kd.R_reads' HO471.out).2.2); (case side2 => exact (Kd.R_reads' HO471.out).2.1); rintro e w96 ⟨v478, rfl, ho0, hb⟩; refine ⟨_, rfl, ?_⟩; obtain ⟨lo3, hi3, EL3, EH3, LE3⟩ := iv_ hb; have OR3 := Aside0.mk (show hi2 ≤ lo3 ∧ lo3 ≤ hi3 from ⟨Nat.le_trans HTop.out (Nat.le_of_eq EL3), LE3⟩); have n0_ := Aside0.mk (Kd.R_below (zR_ HO471.out) hb); have n1_ := Aside0.mk (Kd.R_below (zR_ HO475.out) hb); have n2_ := Aside0.mk (Kd.R_mono (ok' := fun k_ => lo3 ≤ k_ ∧ k_ < hi3) (Kd.R_lower (Kd.R_bound ho0) (below_size (zb_ HB.out))) (fun k_ hk_ => by have a_ := hk_.2.1; have b_ := hk_.2.2.1; omega)); have n3_ := Aside0.mk (Nat.le_of_eq EH3.symm); have n4_ := Aside0.mk (below_step (zb_ HB.out) hb); clear HO471; clear HO475; clear HTop; clear HB; have HO471 := n0_; have HO475 := n1_; have HO479 := n2_; have HTop := n3_; have HB := n4_; clear n0_ n1_ n2_ n3_ n4_; (try clear hb); (try clear hb2); (try clear hk); (try clear hi); (try clear ho0); (try clear EL3); (try clear EH3); (try clear LE3); obtain ⟨Ao97, co97, eo97⟩ := Kd.R_slice HO475.out; subst eo97; obtain ⟨Ao98, co98, eo98⟩ := Kd.R_slice HO479.out; subst eo98) | (go_at_call 20; (with_reducible refine (laws_sameInts.calls kj49 _ _ t472 _ _ t476 true _ ?side1 ?side2 ?side3 ?side4 A88.out).mono ?_); (case side1 => exact zC_ (Kd.R_reads' HO475.out).2.2); (case side2 => exact (Kd.R_reads' HO475.out).2.1); (case side3 => exact zC_ (Kd.R_reads' HO479.out).2.2); (case side4 => exact (Kd.R_reads' HO479.out).2.1); rintro e w' ⟨rfl, ⟨nd, rfl⟩⟩) | (go_at_call 55; (with_reducible refine (laws_negated.calls kj49 _ _ t469 t481 _ ?side1 ?side2 A91.out).mono ?_); (case side1 => exact zC_ (Kd.R_reads' HO471.out).2.2); (case side2 => exact (Kd.R_reads' HO471.out).2.1); rintro e w99 ⟨v482, rfl, ho0, hb⟩; obtain ⟨lo4, hi4, EL4, EH4, LE4⟩ := iv_ hb; have OR4 := Aside0.mk (show hi3 ≤ lo4 ∧ lo4 ≤ hi4 from ⟨Nat.le_trans HTop.out (Nat.le_of_eq EL4), LE4⟩); have n0_ := Aside0.mk (Kd.R_below (zR_ HO471.out) hb); have n1_ := Aside0.mk (Kd.R_below (zR_ HO475.out) hb); have n2_ := Aside0.mk (Kd.R_below (zR_ HO479.out) hb); have n3_ := Aside0.mk (Kd.R_mono (ok' := fun k_ => lo4 ≤ k_ ∧ k_ < hi4) (Kd.R_lower (Kd.R_bound ho0) (below_size (zb_ HB.out))) (fun k_ hk_ => by have a_ := hk_.2.1; have b_ := hk_.2.2.1; omega)); have n4_ := Aside0.mk (Nat.le_of_eq EH4.symm); have n5_ := Aside0.mk (below_step (zb_ HB.out) hb); clear HO471; clear HO475; clear HO479; clear HTop; clear HB; have HO471 := n0_; have HO475 := n1_; have HO479 := n2_; have HO483 := n3_; have HTop := n4_; have HB := n5_; clear n0_ n1_ n2_ n3_ n4_ n5_; (try clear hb); (try clear hb2); (try clear hk); (try clear hi); (try clear ho0); (try clear EL4); (try clear EH4); (try clear LE4); obtain ⟨Ao100, co100, eo100⟩ := Kd.R_slice HO483.out; subst eo100) | (go_at_call 20; (with_reducible refine (laws_sameInts.calls kj49 _ _ t472 _ _ t481 t484 _ ?side1 ?side2 ?side3 ?side4 A92.out).mono ?_); (case side1 => exact zC_ (Kd.R_reads' HO475.out).2.2); (case side2 => exact (Kd.R_reads' HO475.out).2.1); (case side3 => exact zC_ (Kd.R_reads' HO483.out).2.2); (case side4 => exact (Kd.R_reads' HO483.out).2.1); rintro e w' ⟨rfl, ⟨nd, rfl⟩⟩))
             go_ret
             exact ⟨by first | rfl | (simp [errW_none, errW_some] <;> rfl) | (simp [*, errW_none, errW_some] <;> rfl), zb_ HB.out⟩
            ·replace c90 := Bool.eq_false_iff.mpr c90
             subst c90
             have H1 : (some true) = some r := by rw [if_neg (show ¬ (false = true) by decide)] at H; exact H
             clear H
             have H := H1
             clear H1
             obtain rfl := Option.some.inj H
             go_wp2_with (first | ((with_reducible refine gate_callee (f := 52) rfl ?_); refine goesL_ (some 191) rfl rfl Try.func52 (by kernel_rfl) rfl #[.slice A1 l1.length c1] rfl (by (try simp only [List.map_toArray, List.map_cons, List.map_nil]); first | done | rfl | (simp only [List.length_drop, List.length_take]; rfl)) ?_; (with_reducible refine (spec_DrawLearnFrom.calls kj49 _ _ l1 t469 _ ?side1 ?side2 A84.out).mono ?_); (case side1 => exact zC_ (Kd.C_below HR1.out HB.out)); (case side2 => exact HC1.out); rintro e w101 ⟨v470, rfl, ho0, hb⟩; refine ⟨_, rfl, ?_⟩; obtain ⟨lo1, hi1, EL1, EH1, LE1⟩ := iv_ hb; have OR1 := Aside0.mk (show 0 ≤ lo1 ∧ lo1 ≤ hi1 from ⟨Nat.zero_le _, LE1⟩); have n0_ := Aside0.mk (Kd.R_mono (ok' := fun k_ => lo1 ≤ k_ ∧ k_ < hi1) (Kd.R_lower (Kd.R_bound ho0) (below_size (zb_ HB.out))) (fun k_ hk_ => by have a_ := hk_.2.1; have b_ := hk_.2.2.1; omega)); have n1_ := Aside0.mk (Nat.le_of_eq EH1.symm); have n2_ := Aside0.mk (below_step (zb_ HB.out) hb); clear HTop; clear HB; have HO471 := n0_; have HTop := n1_; have HB := n2_; clear n0_ n1_ n2_; (try clear hb); (try clear hb2); (try clear hk); (try clear hi); (try clear ho0); (try clear EL1); (try clear EH1); (try clear LE1); obtain ⟨Ao102, co102, eo102⟩ := Kd.R_slice HO471.out; subst eo102) | ((with_reducible refine gate_callee (f := 53) rfl ?_); refine goesL_ (some 194) rfl rfl Try.func53 (by kernel_rfl) rfl #[.slice Ao102 t469.length co102] rfl (by (try simp only [List.map_toArray, List.map_cons, List.map_nil]); first | done | rfl | (simp only [List.length_drop, List.length_take]; rfl)) ?_; (with_reducible refine (impl_LearnFrom.calls kj49 _ _ t469 t472 false _ ?side1 ?side2 A85.out).mono ?_); (case side1 => exact zC_ (Kd.R_reads' HO471.out).2.2); (case side2 => exact (Kd.R_reads' HO471.out).2.1); rintro e w103 ⟨v474, rfl, ho0, hb⟩; refine ⟨_, rfl, ?_⟩; obtain ⟨lo2, hi2, EL2, EH2, LE2⟩ := iv_ hb; have OR2 := Aside0.mk (show hi1 ≤ lo2 ∧ lo2 ≤ hi2 from ⟨Nat.le_trans HTop.out (Nat.le_of_eq EL2), LE2⟩); have n0_ := Aside0.mk (Kd.R_below (zR_ HO471.out) hb); have n1_ := Aside0.mk (Kd.R_mono (ok' := fun k_ => lo2 ≤ k_ ∧ k_ < hi2) (Kd.R_lower (Kd.R_bound ho0) (below_size (zb_ HB.out))) (fun k_ hk_ => by have a_ := hk_.2.1; have b_ := hk_.2.2.1; omega)); have n2_ := Aside0.mk (Nat.le_of_eq EH2.symm); have n3_ := Aside0.mk (below_step (zb_ HB.out) hb); clear HO471; clear HTop; clear HB; have HO471 := n0_; have HO475 := n1_; have HTop := n2_; have HB := n3_; clear n0_ n1_ n2_ n3_; (try clear hb); (try clear hb2); (try clear hk); (try clear hi); (try clear ho0); (try clear EL2); (try clear EH2); (try clear LE2)) | ((with_reducible refine gate_callee (f := 54) rfl ?_); refine goesL_ (some 199) rfl rfl Try.func54 (by kernel_rfl) rfl #[.slice Ao102 t469.length co102] rfl (by (try simp only [List.map_toArray, List.map_cons, List.map_nil]); first | done | rfl | (simp only [List.length_drop, List.length_take]; rfl)) ?_; (with_reducible refine (spec_LearnFrom.calls kj49 _ _ t469 t476 t477 _ ?side1 ?side2 A86.out).mono ?_); (case side1 => exact zC_ (Kd.R_reads' HO471.out).2.2); (case side2 => exact (Kd.R_reads' HO471.out).2.1); rintro e w104 ⟨v478, rfl, ho0, hb⟩; refine ⟨_, rfl, ?_⟩; obtain ⟨lo3, hi3, EL3, EH3, LE3⟩ := iv_ hb; have OR3 := Aside0.mk (show hi2 ≤ lo3 ∧ lo3 ≤ hi3 from ⟨Nat.le_trans HTop.out (Nat.le_of_eq EL3), LE3⟩); have n0_ := Aside0.mk (Kd.R_below (zR_ HO471.out) hb); have n1_ := Aside0.mk (Kd.R_below (zR_ HO475.out) hb); have n2_ := Aside0.mk (Kd.R_mono (ok' := fun k_ => lo3 ≤ k_ ∧ k_ < hi3) (Kd.R_lower (Kd.R_bound ho0) (below_size (zb_ HB.out))) (fun k_ hk_ => by have a_ := hk_.2.1; have b_ := hk_.2.2.1; omega)); have n3_ := Aside0.mk (Nat.le_of_eq EH3.symm); have n4_ := Aside0.mk (below_step (zb_ HB.out) hb); clear HO471; clear HO475; clear HTop; clear HB; have HO471 := n0_; have HO475 := n1_; have HO479 := n2_; have HTop := n3_; have HB := n4_; clear n0_ n1_ n2_ n3_ n4_; (try clear hb); (try clear hb2); (try clear hk); (try clear hi); (try clear ho0); (try clear EL3); (try clear EH3); (try clear LE3); obtain ⟨Ao105, co105, eo105⟩ := Kd.R_slice HO475.out; subst eo105; obtain ⟨Ao106, co106, eo106⟩ := Kd.R_slice HO479.out; subst eo106) | (go_at_call 20; (with_reducible refine (laws_sameInts.calls kj49 _ _ t472 _ _ t476 true _ ?side1 ?side2 ?side3 ?side4 A88.out).mono ?_); (case side1 => exact zC_ (Kd.R_reads' HO475.out).2.2); (case side2 => exact (Kd.R_reads' HO475.out).2.1); (case side3 => exact zC_ (Kd.R_reads' HO479.out).2.2); (case side4 => exact (Kd.R_reads' HO479.out).2.1); rintro e w' ⟨rfl, ⟨nd, rfl⟩⟩))
             go_ret
             exact ⟨by first | rfl | (simp [errW_none, errW_some] <;> rfl) | (simp [*, errW_none, errW_some] <;> rfl), zb_ HB.out⟩
           ·replace c89 := Bool.eq_false_iff.mpr c89
            subst c89
            have H1 : (none) = some r := by rw [if_neg (show ¬ (false = true) by decide)] at H; exact H
            clear H
            have H := H1
            clear H1
            exact absurd H (by simp)
          ·rw [if_neg c87] at H
           exact absurd H (by simp)

/-- THE ONE PURE STATEMENT of laws_FnSolved: yours. -/
def laws_FnSolved.Pure : Prop := ∀ (l0 : List Int) (l1 : List Int), l0.length ≤ maxLen → l0.length * 1 ≤ 140737488351232 → (∀ x ∈ l0, (Lit.int .u8 x).wf = true) → l1.length ≤ maxLen → l1.length * 1 ≤ 140737488351232 → (∀ x ∈ l1, (Lit.int .u8 x).wf = true) → ∃ k, laws_FnSolved.f k l0 l1 = some true
theorem laws_FnSolved.walk (P : laws_FnSolved.Pure) (a0 : Option Addr) (len0 cap0 : Nat) (z0 : List Int) (a1 : Option Addr) (len1 cap1 : Nat) (z1 : List Int) (w : World) (w0 : (a0 = none ∧ len0 = 0 ∧ cap0 = 0 ∧ z0 = []) ∨ ∃ x, a0 = some x ∧ len0 ≤ cap0 ∧ cap0 ≤ maxLen ∧ z0.length = cap0 ∧ (∀ i, i < z0.length → w.cell? (x.add i) = some (.int .u8 (z0.getD i 0))) ∧ ∀ n ∈ z0, (Lit.int .u8 n).wf = true) (y0 : len0 * 1 ≤ 140737488351232) (w1 : (a1 = none ∧ len1 = 0 ∧ cap1 = 0 ∧ z1 = []) ∨ ∃ x, a1 = some x ∧ len1 ≤ cap1 ∧ cap1 ≤ maxLen ∧ z1.length = cap1 ∧ (∀ i, i < z1.length → w.cell? (x.add i) = some (.int .u8 (z1.getD i 0))) ∧ ∀ n ∈ z1, (Lit.int .u8 n).wf = true) (y1 : len1 * 1 ≤ 140737488351232) :
  Calls Try.prog 6 #[.slice a0 len0 cap0, .slice a1 len1 cap1] w fun e w' => e = .returned (.bool true) ∧ Below w.heap.size w w' := by
 obtain ⟨l0, rfl, hr0, hm0, hw0, hc0⟩ := ReadsInt.ofRowC w0
 obtain ⟨l1, rfl, hr1, hm1, hw1, hc1⟩ := ReadsInt.ofRowC w1
 obtain ⟨k, h⟩ := P l0 l1 hm0 y0 hw0 hm1 y1 hw1
 refine (laws_FnSolved.calls k _ _ l0 _ _ l1 true w (Kd.C_of_reads (d := (0 : Int)) (h1 := fun _ => rfl) hr0) hc0 (Kd.C_of_reads (d := (0 : Int)) (h1 := fun _ => rfl) hr1) hc1 h).mono ?_
 rintro e w' ⟨rfl, hd⟩
 exact ⟨rfl, hd⟩

end Go.Proofs.Ytpkbjgmeejlchab.PFnSolved
-- squeezed
