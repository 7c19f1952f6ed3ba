-- Made by a program of this session (wip/tools), which leans on the kit's print: checked by Lean alone.
import Derived.Test.YtpkbjgmeejlchabPFnFollowsx0
import Derived.Test.YtpkbjgmeejlchabPFnFollowsx5
import Derived.Test.YtpkbjgmeejlchabPFnFollowsx8
import Derived.Test.YtpkbjgmeejlchabPFnFollowsx10
import Derived.Test.YtpkbjgmeejlchabPFnFollowsx11
import Derived.Test.YtpkbjgmeejlchabPFnFollowsx12
import Derived.Test.YtpkbjgmeejlchabPFnFollowsx13
import Derived.Test.YtpkbjgmeejlchabPFnFollowsx14
namespace Go.Proofs.Ytpkbjgmeejlchab.PFnFollows
open Go.RowKit Go.Proofs.YtpkbjgmeejlchabW.PrintWords Go.Proofs.YtpkbjgmeejlchabW.PrintLast Go.Proofs.YtpkbjgmeejlchabW.PrintMore
attribute [local go_sem] max2_int min2_int max_two min_two max_three min_three max_four min_four   -- for this text's walks alone
set_option linter.unusedVariables false
set_option linter.unusedSimpArgs false
mutual
def laws_FnFollows.j0 : Nat → List Int → Int → List (List Int) → List Int → Bool → Bool → Bool → Option (Bool)
 | 0, _, _, _, _, _, _, _ => none
 | k + 1, x1, x5, x6, x7, x8, x9, x79 => if x79 = true then (none) else (if x9 = true then (if x5 ≤ 8 then (laws_FnFollows.j1 k x1 x5 x6 x7 x8 (decide ((x6.length : Int) < 60))) else (laws_FnFollows.j1 k x1 x5 x6 x7 x8 false)) else (laws_FnFollows.j1 k x1 x5 x6 x7 x8 false))
def laws_FnFollows.j1 : Nat → List Int → Int → List (List Int) → List Int → Bool → Bool → Option (Bool)
 | 0, _, _, _, _, _, _ => none
 | k + 1, x1, x5, x6, x7, x8, x89 => if x89 = true then ((impl_CountModels.f k x5 x6).bind fun bt532 => ((some (([] : List (List Int)) : List (List Int))).bind fun y534 => (if y534.length + x6.length < 5864062014805 then ((some (y534 ++ x6 : List (List Int))).bind fun y537 => (if y537.length < 5864062014805 then ((impl_CountModels.f k x5 (y537 ++ [x7])).bind fun bt543 => (if bt532.2 = true then (if bt543.2 = true then (if (x8 != (bt532.1 == bt543.1)) = true then (none) else (laws_FnFollows.j2 k x1)) else (none)) else (none))) else (none))) else (none)))) else (laws_FnFollows.j2 k x1)
def laws_FnFollows.j2 : Nat → List Int → Option (Bool)
 | 0, _ => none
 | k + 1, x1 => (spec_DrawDecideFrom.f k x1).bind fun bt545 => ((impl_DecideFrom.f k bt545.1 bt545.2.1 bt545.2.2).bind fun bt552 => ((spec_DecideFrom.f k bt545.1 bt545.2.1 bt545.2.2).bind fun bt554 => ((spec_DrawPureIn.f k x1).bind fun bt556 => ((impl_PureIn.f k bt556.1 bt556.2).bind fun bt560 => ((spec_PureIn.f k bt556.1 bt556.2).bind fun bt564 => ((spec_DrawSameModels.f k x1).bind fun bt568 => ((impl_SameModels.f k bt568.1 bt568.2.1 bt568.2.2).bind fun bt575 => ((spec_SameModels.f k bt568.1 bt568.2.1 bt568.2.2).bind fun bt577 => (if (bt552.2 != bt554.2) = true then (laws_FnFollows.j3 k bt556.1 bt556.2 bt560.1 bt560.2 true) else (if bt552.1 = bt554.1 then (if (bt560.2 != bt564.2) = true then (laws_FnFollows.j3 k bt556.1 bt556.2 bt560.1 bt560.2 true) else ((laws_sameInts.f k bt560.1 bt564.1).bind fun t579 => (if t579 = true then (if (bt575.2 != bt577.2) = true then (laws_FnFollows.j3 k bt556.1 bt556.2 bt560.1 bt560.2 true) else (laws_FnFollows.j3 k bt556.1 bt556.2 bt560.1 bt560.2 (bt575.1 != bt577.1))) else (laws_FnFollows.j3 k bt556.1 bt556.2 bt560.1 bt560.2 true)))) else (laws_FnFollows.j3 k bt556.1 bt556.2 bt560.1 bt560.2 true)))))))))))
def laws_FnFollows.j3 : Nat → Int → List (List Int) → List Int → Bool → Bool → Option (Bool)
 | 0, _, _, _, _, _ => none
 | k + 1, x23, x24, x25, x26, x205 => if x205 = true then (none) else (if x26 = true then (if x23 ≤ 8 then (laws_FnFollows.j4 k x23 x24 x25 (decide ((x24.length : Int) > 0))) else (laws_FnFollows.j4 k x23 x24 x25 false)) else (laws_FnFollows.j4 k x23 x24 x25 false))
def laws_FnFollows.j4 : Nat → Int → List (List Int) → List Int → Bool → Option (Bool)
 | 0, _, _, _, _ => none
 | k + 1, x23, x24, x25, x215 => if x215 = true then ((impl_Solve.f k x23 x24).bind fun bt580 => (laws_FnFollows.l0 k x23 x24 bt580.1 bt580.2.2.2 x25 (x25.length : Int) 0)) else (some true)
def laws_FnFollows.l0 : Nat → Int → List (List Int) → Bool → Bool → List Int → Int → Int → Option (Bool)
 | 0, _, _, _, _, _, _, _ => none
 | k + 1, x23, x24, x36, x39, x224, x225, x226 => if x226 < x225 then (if 0 ≤ x226 then (if x226 < (x224.length : Int) then ((impl_SolveWith.f k x23 x24 (([rd x224 x226] : List Int))).bind fun bt592 => (if x39 = true then (if bt592.2.2.2 = true then (if (bt592.1 != x36) = true then (none) else (laws_FnFollows.l0 k x23 x24 x36 x39 x224 x225 (wrap64 (x226 + 1)))) else (laws_FnFollows.l0 k x23 x24 x36 x39 x224 x225 (wrap64 (x226 + 1)))) else (laws_FnFollows.l0 k x23 x24 x36 x39 x224 x225 (wrap64 (x226 + 1))))) else (none)) else (none)) else (some true)
end
def laws_FnFollows.f (k : Nat) (l0 : List Int) (l1 : List Int) : Option (Bool) := if (wrap64 ((l0.length : Int) + (l1.length : Int))) > 1048576 then (some true) else ((spec_DrawFollowsFrom.f k l0).bind fun bt521 => ((impl_FollowsFrom.f k bt521.1 bt521.2.1 bt521.2.2).bind fun bt528 => ((spec_FollowsFrom.f k bt521.1 bt521.2.1 bt521.2.2).bind fun bt530 => (if (bt528.2 != bt530.2) = true then (laws_FnFollows.j0 k l1 bt521.1 bt521.2.1 bt521.2.2 bt528.1 bt528.2 true) else (laws_FnFollows.j0 k l1 bt521.1 bt521.2.1 bt521.2.2 bt528.1 bt528.2 (bt528.1 != bt530.1))))))
theorem laws_FnFollows.mono_l : ∀ k, (∀ y0 y1 y2 y3 y4 y5 y6, LeO (laws_FnFollows.j0 k y0 y1 y2 y3 y4 y5 y6) (laws_FnFollows.j0 (k + 1) y0 y1 y2 y3 y4 y5 y6)) ∧ (∀ y0 y1 y2 y3 y4 y5, LeO (laws_FnFollows.j1 k y0 y1 y2 y3 y4 y5) (laws_FnFollows.j1 (k + 1) y0 y1 y2 y3 y4 y5)) ∧ (∀ y0, LeO (laws_FnFollows.j2 k y0) (laws_FnFollows.j2 (k + 1) y0)) ∧ (∀ y0 y1 y2 y3 y4, LeO (laws_FnFollows.j3 k y0 y1 y2 y3 y4) (laws_FnFollows.j3 (k + 1) y0 y1 y2 y3 y4)) ∧ (∀ y0 y1 y2 y3, LeO (laws_FnFollows.j4 k y0 y1 y2 y3) (laws_FnFollows.j4 (k + 1) y0 y1 y2 y3)) ∧ (∀ y0 y1 y2 y3 y4 y5 y6, LeO (laws_FnFollows.l0 k y0 y1 y2 y3 y4 y5 y6) (laws_FnFollows.l0 (k + 1) y0 y1 y2 y3 y4 y5 y6))
 | 0 => ⟨fun _ _ _ _ _ _ _ r h => by simp [laws_FnFollows.j0] at h, fun _ _ _ _ _ _ r h => by simp [laws_FnFollows.j1] at h, fun _ r h => by simp [laws_FnFollows.j2] at h, fun _ _ _ _ _ r h => by simp [laws_FnFollows.j3] at h, fun _ _ _ _ r h => by simp [laws_FnFollows.j4] at h, fun _ _ _ _ _ _ _ r h => by simp [laws_FnFollows.l0] at h⟩
 | k + 1 => by
  obtain ⟨ih0, ih1, ih2, ih3, ih4, ih5⟩ := laws_FnFollows.mono_l k
  refine ⟨?_, ?_, ?_, ?_, ?_, ?_⟩
  ·intro y0 y1 y2 y3 y4 y5 y6
   unfold laws_FnFollows.j0
   repeat' first
   | (with_reducible exact ih0 _ _ _ _ _ _ _)
   | (with_reducible exact ih1 _ _ _ _ _ _)
   | (with_reducible exact ih2 _)
   | (with_reducible exact ih3 _ _ _ _ _)
   | (with_reducible exact ih4 _ _ _ _)
   | (with_reducible exact ih5 _ _ _ _ _ _ _)
   | (with_reducible exact impl_CountModels.mono _ _ _)
   | (with_reducible exact impl_DecideFrom.mono _ _ _ _)
   | (with_reducible exact impl_FollowsFrom.mono _ _ _ _)
   | (with_reducible exact impl_PureIn.mono _ _ _)
   | (with_reducible exact impl_SameModels.mono _ _ _ _)
   | (with_reducible exact impl_Solve.mono _ _ _)
   | (with_reducible exact impl_SolveWith.mono _ _ _ _)
   | (with_reducible exact laws_sameInts.mono _ _ _)
   | (with_reducible exact spec_DecideFrom.mono _ _ _ _)
   | (with_reducible exact spec_DrawDecideFrom.mono _ _)
   | (with_reducible exact spec_DrawFollowsFrom.mono _ _)
   | (with_reducible exact spec_DrawPureIn.mono _ _)
   | (with_reducible exact spec_DrawSameModels.mono _ _)
   | (with_reducible exact spec_FollowsFrom.mono _ _ _ _)
   | (with_reducible exact spec_PureIn.mono _ _ _)
   | (with_reducible exact spec_SameModels.mono _ _ _ _)
   | (with_reducible exact LeO.refl _)
   | (with_reducible exact LeO.none _)
   | (with_reducible refine LeO.ite ?_ ?_)
   | (with_reducible refine LeO.bind ?_ (fun _ => ?_))
   | exact ih0 _ _ _ _ _ _ _
   | exact ih1 _ _ _ _ _ _
   | exact ih2 _
   | exact ih3 _ _ _ _ _
   | exact ih4 _ _ _ _
   | exact ih5 _ _ _ _ _ _ _
   | exact impl_CountModels.mono _ _ _
   | exact impl_DecideFrom.mono _ _ _ _
   | exact impl_FollowsFrom.mono _ _ _ _
   | exact impl_PureIn.mono _ _ _
   | exact impl_SameModels.mono _ _ _ _
   | exact impl_Solve.mono _ _ _
   | exact impl_SolveWith.mono _ _ _ _
   | exact laws_sameInts.mono _ _ _
   | exact spec_DecideFrom.mono _ _ _ _
   | exact spec_DrawDecideFrom.mono _ _
   | exact spec_DrawFollowsFrom.mono _ _
   | exact spec_DrawPureIn.mono _ _
   | exact spec_DrawSameModels.mono _ _
   | exact spec_FollowsFrom.mono _ _ _ _
   | exact spec_PureIn.mono _ _ _
   | exact spec_SameModels.mono _ _ _ _
   | exact LeO.none _
   | refine LeO.ite ?_ ?_
   | refine LeO.bind ?_ (fun _ => ?_)
  ·intro y0 y1 y2 y3 y4 y5
   unfold laws_FnFollows.j1
   repeat' first
   | (with_reducible exact ih0 _ _ _ _ _ _ _)
   | (with_reducible exact ih1 _ _ _ _ _ _)
   | (with_reducible exact ih2 _)
   | (with_reducible exact ih3 _ _ _ _ _)
   | (with_reducible exact ih4 _ _ _ _)
   | (with_reducible exact ih5 _ _ _ _ _ _ _)
   | (with_reducible exact impl_CountModels.mono _ _ _)
   | (with_reducible exact impl_DecideFrom.mono _ _ _ _)
   | (with_reducible exact impl_FollowsFrom.mono _ _ _ _)
   | (with_reducible exact impl_PureIn.mono _ _ _)
   | (with_reducible exact impl_SameModels.mono _ _ _ _)
   | (with_reducible exact impl_Solve.mono _ _ _)
   | (with_reducible exact impl_SolveWith.mono _ _ _ _)
   | (with_reducible exact laws_sameInts.mono _ _ _)
   | (with_reducible exact spec_DecideFrom.mono _ _ _ _)
   | (with_reducible exact spec_DrawDecideFrom.mono _ _)
   | (with_reducible exact spec_DrawFollowsFrom.mono _ _)
   | (with_reducible exact spec_DrawPureIn.mono _ _)
   | (with_reducible exact spec_DrawSameModels.mono _ _)
   | (with_reducible exact spec_FollowsFrom.mono _ _ _ _)
   | (with_reducible exact spec_PureIn.mono _ _ _)
   | (with_reducible exact spec_SameModels.mono _ _ _ _)
   | (with_reducible exact LeO.refl _)
   | (with_reducible exact LeO.none _)
   | (with_reducible refine LeO.ite ?_ ?_)
   | (with_reducible refine LeO.bind ?_ (fun _ => ?_))
   | exact ih0 _ _ _ _ _ _ _
   | exact ih1 _ _ _ _ _ _
   | exact ih2 _
   | exact ih3 _ _ _ _ _
   | exact ih4 _ _ _ _
   | exact ih5 _ _ _ _ _ _ _
   | exact impl_CountModels.mono _ _ _
   | exact impl_DecideFrom.mono _ _ _ _
   | exact impl_FollowsFrom.mono _ _ _ _
   | exact impl_PureIn.mono _ _ _
   | exact impl_SameModels.mono _ _ _ _
   | exact impl_Solve.mono _ _ _
   | exact impl_SolveWith.mono _ _ _ _
   | exact laws_sameInts.mono _ _ _
   | exact spec_DecideFrom.mono _ _ _ _
   | exact spec_DrawDecideFrom.mono _ _
   | exact spec_DrawFollowsFrom.mono _ _
   | exact spec_DrawPureIn.mono _ _
   | exact spec_DrawSameModels.mono _ _
   | exact spec_FollowsFrom.mono _ _ _ _
   | exact spec_PureIn.mono _ _ _
   | exact spec_SameModels.mono _ _ _ _
   | exact LeO.none _
   | refine LeO.ite ?_ ?_
   | refine LeO.bind ?_ (fun _ => ?_)
  ·intro y0
   unfold laws_FnFollows.j2
   repeat' first
   | (with_reducible exact ih0 _ _ _ _ _ _ _)
   | (with_reducible exact ih1 _ _ _ _ _ _)
   | (with_reducible exact ih2 _)
   | (with_reducible exact ih3 _ _ _ _ _)
   | (with_reducible exact ih4 _ _ _ _)
   | (with_reducible exact ih5 _ _ _ _ _ _ _)
   | (with_reducible exact impl_CountModels.mono _ _ _)
   | (with_reducible exact impl_DecideFrom.mono _ _ _ _)
   | (with_reducible exact impl_FollowsFrom.mono _ _ _ _)
   | (with_reducible exact impl_PureIn.mono _ _ _)
   | (with_reducible exact impl_SameModels.mono _ _ _ _)
   | (with_reducible exact impl_Solve.mono _ _ _)
   | (with_reducible exact impl_SolveWith.mono _ _ _ _)
   | (with_reducible exact laws_sameInts.mono _ _ _)
   | (with_reducible exact spec_DecideFrom.mono _ _ _ _)
   | (with_reducible exact spec_DrawDecideFrom.mono _ _)
   | (with_reducible exact spec_DrawFollowsFrom.mono _ _)
   | (with_reducible exact spec_DrawPureIn.mono _ _)
   | (with_reducible exact spec_DrawSameModels.mono _ _)
   | (with_reducible exact spec_FollowsFrom.mono _ _ _ _)
   | (with_reducible exact spec_PureIn.mono _ _ _)
   | (with_reducible exact spec_SameModels.mono _ _ _ _)
   | (with_reducible exact LeO.refl _)
   | (with_reducible exact LeO.none _)
   | (with_reducible refine LeO.ite ?_ ?_)
   | (with_reducible refine LeO.bind ?_ (fun _ => ?_))
   | exact ih0 _ _ _ _ _ _ _
   | exact ih1 _ _ _ _ _ _
   | exact ih2 _
   | exact ih3 _ _ _ _ _
   | exact ih4 _ _ _ _
   | exact ih5 _ _ _ _ _ _ _
   | exact impl_CountModels.mono _ _ _
   | exact impl_DecideFrom.mono _ _ _ _
   | exact impl_FollowsFrom.mono _ _ _ _
   | exact impl_PureIn.mono _ _ _
   | exact impl_SameModels.mono _ _ _ _
   | exact impl_Solve.mono _ _ _
   | exact impl_SolveWith.mono _ _ _ _
   | exact laws_sameInts.mono _ _ _
   | exact spec_DecideFrom.mono _ _ _ _
   | exact spec_DrawDecideFrom.mono _ _
   | exact spec_DrawFollowsFrom.mono _ _
   | exact spec_DrawPureIn.mono _ _
   | exact spec_DrawSameModels.mono _ _
   | exact spec_FollowsFrom.mono _ _ _ _
   | exact spec_PureIn.mono _ _ _
   | exact spec_SameModels.mono _ _ _ _
   | exact LeO.none _
   | refine LeO.ite ?_ ?_
   | refine LeO.bind ?_ (fun _ => ?_)
  ·intro y0 y1 y2 y3 y4
   unfold laws_FnFollows.j3
   repeat' first
   | (with_reducible exact ih0 _ _ _ _ _ _ _)
   | (with_reducible exact ih1 _ _ _ _ _ _)
   | (with_reducible exact ih2 _)
   | (with_reducible exact ih3 _ _ _ _ _)
   | (with_reducible exact ih4 _ _ _ _)
   | (with_reducible exact ih5 _ _ _ _ _ _ _)
   | (with_reducible exact impl_CountModels.mono _ _ _)
   | (with_reducible exact impl_DecideFrom.mono _ _ _ _)
   | (with_reducible exact impl_FollowsFrom.mono _ _ _ _)
   | (with_reducible exact impl_PureIn.mono _ _ _)
   | (with_reducible exact impl_SameModels.mono _ _ _ _)
   | (with_reducible exact impl_Solve.mono _ _ _)
   | (with_reducible exact impl_SolveWith.mono _ _ _ _)
   | (with_reducible exact laws_sameInts.mono _ _ _)
   | (with_reducible exact spec_DecideFrom.mono _ _ _ _)
   | (with_reducible exact spec_DrawDecideFrom.mono _ _)
   | (with_reducible exact spec_DrawFollowsFrom.mono _ _)
   | (with_reducible exact spec_DrawPureIn.mono _ _)
   | (with_reducible exact spec_DrawSameModels.mono _ _)
   | (with_reducible exact spec_FollowsFrom.mono _ _ _ _)
   | (with_reducible exact spec_PureIn.mono _ _ _)
   | (with_reducible exact spec_SameModels.mono _ _ _ _)
   | (with_reducible exact LeO.refl _)
   | (with_reducible exact LeO.none _)
   | (with_reducible refine LeO.ite ?_ ?_)
   | (with_reducible refine LeO.bind ?_ (fun _ => ?_))
   | exact ih0 _ _ _ _ _ _ _
   | exact ih1 _ _ _ _ _ _
   | exact ih2 _
   | exact ih3 _ _ _ _ _
   | exact ih4 _ _ _ _
   | exact ih5 _ _ _ _ _ _ _
   | exact impl_CountModels.mono _ _ _
   | exact impl_DecideFrom.mono _ _ _ _
   | exact impl_FollowsFrom.mono _ _ _ _
   | exact impl_PureIn.mono _ _ _
   | exact impl_SameModels.mono _ _ _ _
   | exact impl_Solve.mono _ _ _
   | exact impl_SolveWith.mono _ _ _ _
   | exact laws_sameInts.mono _ _ _
   | exact spec_DecideFrom.mono _ _ _ _
   | exact spec_DrawDecideFrom.mono _ _
   | exact spec_DrawFollowsFrom.mono _ _
   | exact spec_DrawPureIn.mono _ _
   | exact spec_DrawSameModels.mono _ _
   | exact spec_FollowsFrom.mono _ _ _ _
   | exact spec_PureIn.mono _ _ _
   | exact spec_SameModels.mono _ _ _ _
   | exact LeO.none _
   | refine LeO.ite ?_ ?_
   | refine LeO.bind ?_ (fun _ => ?_)
  ·intro y0 y1 y2 y3
   unfold laws_FnFollows.j4
   repeat' first
   | (with_reducible exact ih0 _ _ _ _ _ _ _)
   | (with_reducible exact ih1 _ _ _ _ _ _)
   | (with_reducible exact ih2 _)
   | (with_reducible exact ih3 _ _ _ _ _)
   | (with_reducible exact ih4 _ _ _ _)
   | (with_reducible exact ih5 _ _ _ _ _ _ _)
   | (with_reducible exact impl_CountModels.mono _ _ _)
   | (with_reducible exact impl_DecideFrom.mono _ _ _ _)
   | (with_reducible exact impl_FollowsFrom.mono _ _ _ _)
   | (with_reducible exact impl_PureIn.mono _ _ _)
   | (with_reducible exact impl_SameModels.mono _ _ _ _)
   | (with_reducible exact impl_Solve.mono _ _ _)
   | (with_reducible exact impl_SolveWith.mono _ _ _ _)
   | (with_reducible exact laws_sameInts.mono _ _ _)
   | (with_reducible exact spec_DecideFrom.mono _ _ _ _)
   | (with_reducible exact spec_DrawDecideFrom.mono _ _)
   | (with_reducible exact spec_DrawFollowsFrom.mono _ _)
   | (with_reducible exact spec_DrawPureIn.mono _ _)
   | (with_reducible exact spec_DrawSameModels.mono _ _)
   | (with_reducible exact spec_FollowsFrom.mono _ _ _ _)
   | (with_reducible exact spec_PureIn.mono _ _ _)
   | (with_reducible exact spec_SameModels.mono _ _ _ _)
   | (with_reducible exact LeO.refl _)
   | (with_reducible exact LeO.none _)
   | (with_reducible refine LeO.ite ?_ ?_)
   | (with_reducible refine LeO.bind ?_ (fun _ => ?_))
   | exact ih0 _ _ _ _ _ _ _
   | exact ih1 _ _ _ _ _ _
   | exact ih2 _
   | exact ih3 _ _ _ _ _
   | exact ih4 _ _ _ _
   | exact ih5 _ _ _ _ _ _ _
   | exact impl_CountModels.mono _ _ _
   | exact impl_DecideFrom.mono _ _ _ _
   | exact impl_FollowsFrom.mono _ _ _ _
   | exact impl_PureIn.mono _ _ _
   | exact impl_SameModels.mono _ _ _ _
   | exact impl_Solve.mono _ _ _
   | exact impl_SolveWith.mono _ _ _ _
   | exact laws_sameInts.mono _ _ _
   | exact spec_DecideFrom.mono _ _ _ _
   | exact spec_DrawDecideFrom.mono _ _
   | exact spec_DrawFollowsFrom.mono _ _
   | exact spec_DrawPureIn.mono _ _
   | exact spec_DrawSameModels.mono _ _
   | exact spec_FollowsFrom.mono _ _ _ _
   | exact spec_PureIn.mono _ _ _
   | exact spec_SameModels.mono _ _ _ _
   | exact LeO.none _
   | refine LeO.ite ?_ ?_
   | refine LeO.bind ?_ (fun _ => ?_)
  ·intro y0 y1 y2 y3 y4 y5 y6
   unfold laws_FnFollows.l0
   repeat' first
   | (with_reducible exact ih0 _ _ _ _ _ _ _)
   | (with_reducible exact ih1 _ _ _ _ _ _)
   | (with_reducible exact ih2 _)
   | (with_reducible exact ih3 _ _ _ _ _)
   | (with_reducible exact ih4 _ _ _ _)
   | (with_reducible exact ih5 _ _ _ _ _ _ _)
   | (with_reducible exact impl_CountModels.mono _ _ _)
   | (with_reducible exact impl_DecideFrom.mono _ _ _ _)
   | (with_reducible exact impl_FollowsFrom.mono _ _ _ _)
   | (with_reducible exact impl_PureIn.mono _ _ _)
   | (with_reducible exact impl_SameModels.mono _ _ _ _)
   | (with_reducible exact impl_Solve.mono _ _ _)
   | (with_reducible exact impl_SolveWith.mono _ _ _ _)
   | (with_reducible exact laws_sameInts.mono _ _ _)
   | (with_reducible exact spec_DecideFrom.mono _ _ _ _)
   | (with_reducible exact spec_DrawDecideFrom.mono _ _)
   | (with_reducible exact spec_DrawFollowsFrom.mono _ _)
   | (with_reducible exact spec_DrawPureIn.mono _ _)
   | (with_reducible exact spec_DrawSameModels.mono _ _)
   | (with_reducible exact spec_FollowsFrom.mono _ _ _ _)
   | (with_reducible exact spec_PureIn.mono _ _ _)
   | (with_reducible exact spec_SameModels.mono _ _ _ _)
   | (with_reducible exact LeO.refl _)
   | (with_reducible exact LeO.none _)
   | (with_reducible refine LeO.ite ?_ ?_)
   | (with_reducible refine LeO.bind ?_ (fun _ => ?_))
   | exact ih0 _ _ _ _ _ _ _
   | exact ih1 _ _ _ _ _ _
   | exact ih2 _
   | exact ih3 _ _ _ _ _
   | exact ih4 _ _ _ _
   | exact ih5 _ _ _ _ _ _ _
   | exact impl_CountModels.mono _ _ _
   | exact impl_DecideFrom.mono _ _ _ _
   | exact impl_FollowsFrom.mono _ _ _ _
   | exact impl_PureIn.mono _ _ _
   | exact impl_SameModels.mono _ _ _ _
   | exact impl_Solve.mono _ _ _
   | exact impl_SolveWith.mono _ _ _ _
   | exact laws_sameInts.mono _ _ _
   | exact spec_DecideFrom.mono _ _ _ _
   | exact spec_DrawDecideFrom.mono _ _
   | exact spec_DrawFollowsFrom.mono _ _
   | exact spec_DrawPureIn.mono _ _
   | exact spec_DrawSameModels.mono _ _
   | exact spec_FollowsFrom.mono _ _ _ _
   | exact spec_PureIn.mono _ _ _
   | exact spec_SameModels.mono _ _ _ _
   | exact LeO.none _
   | refine LeO.ite ?_ ?_
   | refine LeO.bind ?_ (fun _ => ?_)
theorem laws_FnFollows.mono : ∀ a0 a1 k, LeO (laws_FnFollows.f k a0 a1) (laws_FnFollows.f (k + 1) a0 a1) := by
 intro a0 a1 k
 obtain ⟨ih0, ih1, ih2, ih3, ih4, ih5⟩ := laws_FnFollows.mono_l k
 unfold laws_FnFollows.f
 repeat' first
   | (with_reducible exact ih0 _ _ _ _ _ _ _)
   | (with_reducible exact ih1 _ _ _ _ _ _)
   | (with_reducible exact ih2 _)
   | (with_reducible exact ih3 _ _ _ _ _)
   | (with_reducible exact ih4 _ _ _ _)
   | (with_reducible exact ih5 _ _ _ _ _ _ _)
   | (with_reducible exact impl_CountModels.mono _ _ _)
   | (with_reducible exact impl_DecideFrom.mono _ _ _ _)
   | (with_reducible exact impl_FollowsFrom.mono _ _ _ _)
   | (with_reducible exact impl_PureIn.mono _ _ _)
   | (with_reducible exact impl_SameModels.mono _ _ _ _)
   | (with_reducible exact impl_Solve.mono _ _ _)
   | (with_reducible exact impl_SolveWith.mono _ _ _ _)
   | (with_reducible exact laws_sameInts.mono _ _ _)
   | (with_reducible exact spec_DecideFrom.mono _ _ _ _)
   | (with_reducible exact spec_DrawDecideFrom.mono _ _)
   | (with_reducible exact spec_DrawFollowsFrom.mono _ _)
   | (with_reducible exact spec_DrawPureIn.mono _ _)
   | (with_reducible exact spec_DrawSameModels.mono _ _)
   | (with_reducible exact spec_FollowsFrom.mono _ _ _ _)
   | (with_reducible exact spec_PureIn.mono _ _ _)
   | (with_reducible exact spec_SameModels.mono _ _ _ _)
   | (with_reducible exact LeO.refl _)
   | (with_reducible exact LeO.none _)
   | (with_reducible refine LeO.ite ?_ ?_)
   | (with_reducible refine LeO.bind ?_ (fun _ => ?_))
   | exact ih0 _ _ _ _ _ _ _
   | exact ih1 _ _ _ _ _ _
   | exact ih2 _
   | exact ih3 _ _ _ _ _
   | exact ih4 _ _ _ _
   | exact ih5 _ _ _ _ _ _ _
   | exact impl_CountModels.mono _ _ _
   | exact impl_DecideFrom.mono _ _ _ _
   | exact impl_FollowsFrom.mono _ _ _ _
   | exact impl_PureIn.mono _ _ _
   | exact impl_SameModels.mono _ _ _ _
   | exact impl_Solve.mono _ _ _
   | exact impl_SolveWith.mono _ _ _ _
   | exact laws_sameInts.mono _ _ _
   | exact spec_DecideFrom.mono _ _ _ _
   | exact spec_DrawDecideFrom.mono _ _
   | exact spec_DrawFollowsFrom.mono _ _
   | exact spec_DrawPureIn.mono _ _
   | exact spec_DrawSameModels.mono _ _
   | exact spec_FollowsFrom.mono _ _ _ _
   | exact spec_PureIn.mono _ _ _
   | exact spec_SameModels.mono _ _ _ _
   | exact LeO.none _
   | refine LeO.ite ?_ ?_
   | refine LeO.bind ?_ (fun _ => ?_)
set_option maxHeartbeats 8000000 in
set_option maxRecDepth 100000 in
theorem laws_FnFollows.calls (k : Nat) (A0 : Option Addr) (c0 : Nat) (l0 : List Int) (A1 : Option Addr) (c1 : Nat) (l1 : List Int) (r : Bool) (w : World) (hr0 : Kd.C (Kd.int .u8) w A0 l0.length l0) (hc0 : l0.length ≤ c0) (hr1 : Kd.C (Kd.int .u8) w A1 l1.length l1) (hc1 : l1.length ≤ c1) (h : laws_FnFollows.f k l0 l1 = some r) :
  Calls Try.prog 3 #[.slice A0 l0.length c0, .slice A1 l1.length c1] w fun e w' => e = .returned (.bool r) ∧ Below w.heap.size w w' := by
 have HR0 := Aside0.mk hr0
 have HC0 := Aside0.mk hc0
 clear hr0 hc0
 have HR1 := Aside0.mk hr1
 have HC1 := Aside0.mk hc1
 clear hr1 hc1
 have HB := Aside0.mk (Below.refl w.heap.size w)
 have HTop := Aside0.mk (Nat.zero_le w.heap.size)
 have H : (if (wrap64 ((l0.length : Int) + (l1.length : Int))) > 1048576 then (some true) else ((spec_DrawFollowsFrom.f k l0).bind fun bt521 => ((impl_FollowsFrom.f k bt521.1 bt521.2.1 bt521.2.2).bind fun bt528 => ((spec_FollowsFrom.f k bt521.1 bt521.2.1 bt521.2.2).bind fun bt530 => (if (bt528.2 != bt530.2) = true then (laws_FnFollows.j0 k l1 bt521.1 bt521.2.1 bt521.2.2 bt528.1 bt528.2 true) else (laws_FnFollows.j0 k l1 bt521.1 bt521.2.1 bt521.2.2 bt528.1 bt528.2 (bt528.1 != bt530.1))))))) = some r := h
 clear h
 by_cases c3 : (wrap64 ((l0.length : Int) + (l1.length : Int))) > 1048576
 ·rw [if_pos c3] at H
  have c3b0 : decide (1048576 < (wrap64 ((l0.length : Int) + (l1.length : Int)))) = true := decide_eq_true c3
  clear c3
  obtain rfl := Option.some.inj H
  go_enter Try.func3, Try.ntmps3
  go_wp2
  go_ret
  exact ⟨by first | rfl | (simp [errW_none, errW_some] <;> rfl) | (simp [*, errW_none, errW_some] <;> rfl), zb_ HB.out⟩
 ·rw [if_neg c3] at H
  have c3b0 : decide (1048576 < (wrap64 ((l0.length : Int) + (l1.length : Int)))) = false := decide_eq_false c3
  clear c3
  replace H := Option.bind_eq_some_iff.mp H
  obtain ⟨⟨t521, t522, t523⟩, A40, H⟩ := H
  replace H : ((impl_FollowsFrom.f k t521 t522 t523).bind fun bt528 => ((spec_FollowsFrom.f k t521 t522 t523).bind fun bt530 => (if (bt528.2 != bt530.2) = true then (laws_FnFollows.j0 k l1 t521 t522 t523 bt528.1 bt528.2 true) else (laws_FnFollows.j0 k l1 t521 t522 t523 bt528.1 bt528.2 (bt528.1 != bt530.1))))) = some r := H
  have A4 := Aside0.mk A40
  clear A40
  replace H := Option.bind_eq_some_iff.mp H
  obtain ⟨⟨t528, t529⟩, A50, H⟩ := H
  replace H : ((spec_FollowsFrom.f k t521 t522 t523).bind fun bt530 => (if (t529 != bt530.2) = true then (laws_FnFollows.j0 k l1 t521 t522 t523 t528 t529 true) else (laws_FnFollows.j0 k l1 t521 t522 t523 t528 t529 (t528 != bt530.1)))) = some r := H
  have A5 := Aside0.mk A50
  clear A50
  replace H := Option.bind_eq_some_iff.mp H
  obtain ⟨⟨t530, t531⟩, A60, H⟩ := H
  replace H : (if (t529 != t531) = true then (laws_FnFollows.j0 k l1 t521 t522 t523 t528 t529 true) else (laws_FnFollows.j0 k l1 t521 t522 t523 t528 t529 (t528 != t530))) = some r := H
  have A6 := Aside0.mk A60
  clear A60
  have HC7 := Aside0.mk H
  clear H
  go_enter Try.func3, Try.ntmps3
  go_upto_region 6 with (first | ((with_reducible refine gate_callee (f := 7) rfl ?_); refine goesL_ (some 54) rfl rfl Try.func7 (by kernel_rfl) rfl #[.slice A0 l0.length c0] rfl (by simp only [zA_, zB_, zD_] <;> rfl) ?_; (with_reducible refine (spec_DrawFollowsFrom.calls k _ _ l0 t521 t522 t523 _ ?side1 ?side2 A4.out).mono ?_); (case side1 => exact zC_ HR0.out); (case side2 => exact HC0.out); rintro e w8 ⟨v524, v526, rfl, ho0, ho1, hb⟩; refine ⟨_, rfl, ?_⟩; have n0_ := Aside0.mk (Kd.N_lower (by first | exact ho0 | exact Kd.S_N ho0 | exact Kd.R_N ho0) (below_size (zb_ HB.out))); have n1_ := Aside0.mk (Kd.R_mono (ok' := fun _ => True) (Kd.R_lower ho1 (below_size (zb_ HB.out))) (fun _ _ => trivial)); have n2_ := Aside0.mk (below_step (zb_ HB.out) hb); clear HB; have HO525 := n0_; have HO527 := n1_; have HB := n2_; clear n0_ n1_ n2_; (try clear hb); (try clear hb2); (try clear hk); (try clear hi); (try clear ho0); (try clear ho1); obtain ⟨Ao9, co9, eo9⟩ := Kd.N_slice HO525.out; subst eo9; obtain ⟨Ao10, co10, eo10⟩ := Kd.R_slice HO527.out; subst eo10) | ((with_reducible refine gate_callee (f := 8) rfl ?_); refine goesL_ (some 62) rfl rfl Try.func8 (by kernel_rfl) rfl #[.int .i64 t521, .slice Ao9 t522.length co9, .slice Ao10 t523.length co10] rfl (by simp only [zA_, zB_, zD_] <;> rfl) ?_; (with_reducible refine (impl_FollowsFrom.calls k t521 _ _ t522 _ _ t523 t528 t529 _ ?side1 ?side2 ?side3 ?side4 A5.out).mono ?_); (case side1 => exact zC_ (Kd.N_reads' HO525.out).2.2); (case side2 => exact (Kd.N_reads' HO525.out).2.1); (case side3 => exact zC_ (Kd.R_reads' HO527.out).2.2); (case side4 => exact (Kd.R_reads' HO527.out).2.1); rintro e w11 ⟨rfl, hb⟩; refine ⟨_, rfl, ?_⟩; have n0_ := Aside0.mk (Kd.N_below (zN_ HO525.out) hb); have n1_ := Aside0.mk (Kd.R_below (zR_ HO527.out) hb); have n2_ := Aside0.mk (below_step (zb_ HB.out) hb); clear HO525; clear HO527; clear HB; have HO525 := n0_; have HO527 := n1_; have HB := n2_; clear n0_ n1_ n2_; (try clear hb); (try clear hb2); (try clear hk); (try clear hi)) | ((with_reducible refine gate_callee (f := 9) rfl ?_); refine goesL_ (some 69) rfl rfl Try.func9 (by kernel_rfl) rfl #[.int .i64 t521, .slice Ao9 t522.length co9, .slice Ao10 t523.length co10] rfl (by simp only [zA_, zB_, zD_] <;> rfl) ?_; (with_reducible refine (spec_FollowsFrom.calls k t521 _ _ t522 _ _ t523 t530 t531 _ ?side1 ?side2 ?side3 ?side4 A6.out).mono ?_); (case side1 => exact zC_ (Kd.N_reads' HO525.out).2.2); (case side2 => exact (Kd.N_reads' HO525.out).2.1); (case side3 => exact zC_ (Kd.R_reads' HO527.out).2.2); (case side4 => exact (Kd.R_reads' HO527.out).2.1); rintro e w12 ⟨rfl, hb⟩; refine ⟨_, rfl, ?_⟩; have n0_ := Aside0.mk (Kd.N_below (zN_ HO525.out) hb); have n1_ := Aside0.mk (Kd.R_below (zR_ HO527.out) hb); have n2_ := Aside0.mk (below_step (zb_ HB.out) hb); clear HO525; clear HO527; clear HB; have HO525 := n0_; have HO527 := n1_; have HB := n2_; clear n0_ n1_ n2_; (try clear hb); (try clear hb2); (try clear hk); (try clear hi)))
  (try simp only [Act.put, List.setIfInBounds_toArray, List.set_cons_zero, List.set_cons_succ])
  go_cut [79] (fun v79 wc => ∃ (kq : Nat) (x79_6 : Bool), v79 = .bool x79_6 ∧ Aside0 (laws_FnFollows.j0 kq l1 t521 t522 t523 t528 t529 x79_6 = some r) ∧ Aside0 (kq ≤ k) ∧ Aside0 (Kd.N (Kd.slice 3 (Kd.int .i64)) 24 wc w.heap.size (fun _ => True) (.slice Ao9 t522.length co9) t522) ∧ Aside0 (Kd.R (Kd.int .i64) 3 wc w.heap.size (fun _ => True) (.slice Ao10 t523.length co10) t523) ∧ Aside0 (Below w.heap.size w wc))
  case first => as_aux_lemma =>
   have H := HC7.out
   clear HC7
   by_cases c13 : (t529 != t531) = true
   ·rw [if_pos c13] at H
    have c13b0 : (t529 != t531) = true := c13
    (try (have c13b1 : decide (t529 = t531) = false := by simpa using c13))
    (try (have c13b2 : (t529 == t531) = false := by simpa using c13))
    (try (have c13b3 : ¬ (t529 = t531) := by simpa using c13))
    clear c13
    (first | rw [c13b0] | (simp only [i64_w, i32_w]; rw [c13b0]) | skip)
    have H' := Aside0.mk H
    clear H
    go_wp2
    go_meet
    case rel => exact ⟨_, (true), (by first | rfl | (simp; done) | (simp [*]; done)), H', ⟨by first | omega | exact Nat.le_refl _⟩, ⟨Kd.N_mono (zN_ HO525.out) (fun _ _ => trivial)⟩, ⟨Kd.R_mono (zR_ HO527.out) (fun _ _ => trivial)⟩, ⟨zb_ HB.out⟩⟩
   ·rw [if_neg c13] at H
    have c13b0 : (t529 != t531) = false := by simpa using c13
    (try (have c13b1 : decide (t529 = t531) = true := by simpa using c13))
    (try (have c13b2 : (t529 == t531) = true := by simpa using c13))
    clear c13
    (first | rw [c13b0] | (simp only [i64_w, i32_w]; rw [c13b0]) | skip)
    have H' := Aside0.mk H
    clear H
    go_wp2
    go_meet
    case rel => exact ⟨_, ((t528 != t530)), (by first | rfl | (simp; done) | (simp [*]; done)), H', ⟨by first | omega | exact Nat.le_refl _⟩, ⟨Kd.N_mono (zN_ HO525.out) (fun _ _ => trivial)⟩, ⟨Kd.R_mono (zR_ HO527.out) (fun _ _ => trivial)⟩, ⟨zb_ HB.out⟩⟩
  case rest => as_aux_lemma =>
   clear HC7
   try clear c1
   try clear p2
   try clear c3
   try clear c3b0
   try clear p6
   try clear c7
   try clear c8
   try clear c9
   try clear c13
   try clear c13b0
   try clear c13b1
   try clear c13b2
   obtain ⟨kq, x79_6, rfl, HA, HJ6, HO_6, HO_7, HB⟩ := hcut
   cases kq with
   | zero => exact absurd HA.out (by simp [laws_FnFollows.j0])
   | succ kj6 =>
    have H := HA.out
    clear HA
    simp only [laws_FnFollows.j0] at H
    by_cases c14 : x79_6 = true
    ·subst c14
     have H1 : (none) = some r := by rw [if_pos rfl] at H; exact H
     clear H
     have H := H1
     clear H1
     exact absurd H (by simp)
    ·replace c14 := Bool.eq_false_iff.mpr c14
     subst c14
     have H1 : (if t529 = true then (if t521 ≤ 8 then (laws_FnFollows.j1 kj6 l1 t521 t522 t523 t528 (decide ((t522.length : Int) < 60))) else (laws_FnFollows.j1 kj6 l1 t521 t522 t523 t528 false)) else (laws_FnFollows.j1 kj6 l1 t521 t522 t523 t528 false)) = some r := by rw [if_neg (show ¬ (false = true) by decide)] at H; exact H
     clear H
     have H := H1
     clear H1
     have HC15 := Aside0.mk H
     clear H
     go_upto_region 8 with (fail)
     go_cut [89] (fun v89 wc => ∃ (kq : Nat) (x89_14 : Bool), v89 = .bool x89_14 ∧ Aside0 (laws_FnFollows.j1 kq l1 t521 t522 t523 t528 x89_14 = some r) ∧ Aside0 (kq ≤ kj6) ∧ Aside0 (Kd.N (Kd.slice 3 (Kd.int .i64)) 24 wc w.heap.size (fun _ => True) (.slice Ao9 t522.length co9) t522) ∧ Aside0 (Kd.R (Kd.int .i64) 3 wc w.heap.size (fun _ => True) (.slice Ao10 t523.length co10) t523) ∧ Aside0 (Below w.heap.size w wc))
     case first => as_aux_lemma =>
      have H := HC15.out
      clear HC15
      by_cases c16 : t529 = true
      ·subst c16
       have H1 : (if t521 ≤ 8 then (laws_FnFollows.j1 kj6 l1 t521 t522 t523 t528 (decide ((t522.length : Int) < 60))) else (laws_FnFollows.j1 kj6 l1 t521 t522 t523 t528 false)) = some r := by rw [if_pos rfl] at H; exact H
       clear H
       have H := H1
       clear H1
       by_cases c17 : t521 ≤ 8
       ·rw [if_pos c17] at H
        have c17b0 : decide (t521 ≤ 8) = true := decide_eq_true c17
        clear c17
        (first | rw [c17b0] | (simp only [i64_w, i32_w]; rw [c17b0]) | skip)
        have H' := Aside0.mk H
        clear H
        go_wp2
        go_meet
        case rel => exact ⟨_, (decide ((t522.length : Int) < 60)), (by first | rfl | (simp; done) | (simp [*]; done)), H', ⟨by have := HJ6.out; first | omega | exact Nat.le_refl _⟩, ⟨Kd.N_mono (zN_ HO_6.out) (fun _ _ => trivial)⟩, ⟨Kd.R_mono (zR_ HO_7.out) (fun _ _ => trivial)⟩, ⟨zb_ HB.out⟩⟩
       ·rw [if_neg c17] at H
        have c17b0 : decide (t521 ≤ 8) = false := decide_eq_false c17
        clear c17
        (first | rw [c17b0] | (simp only [i64_w, i32_w]; rw [c17b0]) | skip)
        have H' := Aside0.mk H
        clear H
        go_wp2
        go_meet
        case rel => exact ⟨_, (false), (by first | rfl | (simp; done) | (simp [*]; done)), H', ⟨by have := HJ6.out; first | omega | exact Nat.le_refl _⟩, ⟨Kd.N_mono (zN_ HO_6.out) (fun _ _ => trivial)⟩, ⟨Kd.R_mono (zR_ HO_7.out) (fun _ _ => trivial)⟩, ⟨zb_ HB.out⟩⟩
      ·replace c16 := Bool.eq_false_iff.mpr c16
       subst c16
       have H1 : (laws_FnFollows.j1 kj6 l1 t521 t522 t523 t528 false) = some r := by rw [if_neg (show ¬ (false = true) by decide)] at H; exact H
       clear H
       have H := H1
       clear H1
       have H' := Aside0.mk H
       clear H
       go_wp2
       go_meet
       case rel => exact ⟨_, (false), (by first | rfl | (simp; done) | (simp [*]; done)), H', ⟨by have := HJ6.out; first | omega | exact Nat.le_refl _⟩, ⟨Kd.N_mono (zN_ HO_6.out) (fun _ _ => trivial)⟩, ⟨Kd.R_mono (zR_ HO_7.out) (fun _ _ => trivial)⟩, ⟨zb_ HB.out⟩⟩
     case rest => as_aux_lemma =>
      clear HC15
      try clear c1
      try clear p2
      try clear c3
      try clear c3b0
      try clear p6
      try clear c7
      try clear c8
      try clear c9
      try clear c13
      try clear c13b0
      try clear c13b1
      try clear c13b2
      try clear c14
      try clear c16
      try clear c17
      try clear c17b0
      try clear p2
      try clear p6
      obtain ⟨kq, x89_14, rfl, HA, HJ14, HO_6, HO_7, HB⟩ := hcut
      cases kq with
      | zero => exact absurd HA.out (by simp [laws_FnFollows.j1])
      | succ kj14 =>
       have H := HA.out
       clear HA
       simp only [laws_FnFollows.j1] at H
       have HC18 := Aside0.mk H
       clear H
       go_upto_if 89 with (fail)
       go_cut [] (fun wc => ∃ (kq : Nat), Aside0 (laws_FnFollows.j2 kq l1 = some r) ∧ Aside0 (kq ≤ kj14) ∧ Aside0 (Below w.heap.size w wc))
       case first => as_aux_lemma =>
        have H := HC18.out
        clear HC18
        by_cases c19 : x89_14 = true
        ·subst c19
         have H1 : ((impl_CountModels.f kj14 t521 t522).bind fun bt532 => ((some (([] : List (List Int)) : List (List Int))).bind fun y534 => (if y534.length + t522.length < 5864062014805 then ((some (y534 ++ t522 : List (List Int))).bind fun y537 => (if y537.length < 5864062014805 then ((impl_CountModels.f kj14 t521 (y537 ++ [t523])).bind fun bt543 => (if bt532.2 = true then (if bt543.2 = true then (if (t528 != (bt532.1 == bt543.1)) = true then (none) else (laws_FnFollows.j2 kj14 l1)) else (none)) else (none))) else (none))) else (none)))) = some r := by rw [if_pos rfl] at H; exact H
         clear H
         have H := H1
         clear H1
         replace H := Option.bind_eq_some_iff.mp H
         obtain ⟨⟨t532, t533⟩, A200, H⟩ := H
         replace H : ((some (([] : List (List Int)) : List (List Int))).bind fun y534 => (if y534.length + t522.length < 5864062014805 then ((some (y534 ++ t522 : List (List Int))).bind fun y537 => (if y537.length < 5864062014805 then ((impl_CountModels.f kj14 t521 (y537 ++ [t523])).bind fun bt543 => (if t533 = true then (if bt543.2 = true then (if (t528 != (t532 == bt543.1)) = true then (none) else (laws_FnFollows.j2 kj14 l1)) else (none)) else (none))) else (none))) else (none))) = some r := H
         have A20 := Aside0.mk A200
         clear A200
         obtain ⟨y534, hy534⟩ : ∃ y_ : List (List Int), y_ = (([] : List (List Int))) := ⟨_, rfl⟩
         replace H : (if y534.length + t522.length < 5864062014805 then ((some (y534 ++ t522 : List (List Int))).bind fun y537 => (if y537.length < 5864062014805 then ((impl_CountModels.f kj14 t521 (y537 ++ [t523])).bind fun bt543 => (if t533 = true then (if bt543.2 = true then (if (t528 != (t532 == bt543.1)) = true then (none) else (laws_FnFollows.j2 kj14 l1)) else (none)) else (none))) else (none))) else (none)) = some r := by first | (rw [hy534]; with_reducible exact H) | (have H2_ := (Option.bind_some _ _).symm.trans H; rw [hy534]; with_reducible exact H2_) | (have H2_ := (Option.bind_some _ _).symm.trans H; with_reducible exact H2_) | with_reducible exact H | (rw [hy534]; exact H) | exact H
         have Ny534 := Aside0.mk hy534
         clear hy534
         by_cases c21 : y534.length + t522.length < 5864062014805
         ·rw [if_pos c21] at H
          have LMc21 := Aside0.mk c21
          clear c21
          obtain ⟨y537, hy537⟩ : ∃ y_ : List (List Int), y_ = (y534 ++ t522) := ⟨_, rfl⟩
          replace H : (if y537.length < 5864062014805 then ((impl_CountModels.f kj14 t521 (y537 ++ [t523])).bind fun bt543 => (if t533 = true then (if bt543.2 = true then (if (t528 != (t532 == bt543.1)) = true then (none) else (laws_FnFollows.j2 kj14 l1)) else (none)) else (none))) else (none)) = some r := by first | (rw [hy537]; with_reducible exact H) | (have H2_ := (Option.bind_some _ _).symm.trans H; rw [hy537]; with_reducible exact H2_) | (have H2_ := (Option.bind_some _ _).symm.trans H; with_reducible exact H2_) | with_reducible exact H | (rw [hy537]; exact H) | exact H
          have Ny537 := Aside0.mk hy537
          clear hy537
          by_cases c22 : y537.length < 5864062014805
          ·rw [if_pos c22] at H
           have LMc22 := Aside0.mk c22
           clear c22
           obtain ⟨y540, hy540⟩ : ∃ y_ : List (List Int), y_ = (y537 ++ [t523]) := ⟨_, rfl⟩
           replace H : ((impl_CountModels.f kj14 t521 y540).bind fun bt543 => (if t533 = true then (if bt543.2 = true then (if (t528 != (t532 == bt543.1)) = true then (none) else (laws_FnFollows.j2 kj14 l1)) else (none)) else (none))) = some r := by first | (rw [hy540]; with_reducible exact H) | (have H2_ := (Option.bind_some _ _).symm.trans H; rw [hy540]; with_reducible exact H2_) | (have H2_ := (Option.bind_some _ _).symm.trans H; with_reducible exact H2_) | with_reducible exact H | (rw [hy540]; exact H) | exact H
           have Ny540 := Aside0.mk hy540
           clear hy540
           replace H := Option.bind_eq_some_iff.mp H
           obtain ⟨⟨t543, t544⟩, A230, H⟩ := H
           replace H : (if t533 = true then (if t544 = true then (if (t528 != (t532 == t543)) = true then (none) else (laws_FnFollows.j2 kj14 l1)) else (none)) else (none)) = some r := H
           have A23 := Aside0.mk A230
           clear A230
           by_cases c24 : t533 = true
           ·subst c24
            have H1 : (if t544 = true then (if (t528 != (t532 == t543)) = true then (none) else (laws_FnFollows.j2 kj14 l1)) else (none)) = some r := by rw [if_pos rfl] at H; exact H
            clear H
            have H := H1
            clear H1
            by_cases c25 : t544 = true
            ·subst c25
             have H1 : (if (t528 != (t532 == t543)) = true then (none) else (laws_FnFollows.j2 kj14 l1)) = some r := by rw [if_pos rfl] at H; exact H
             clear H
             have H := H1
             clear H1
             by_cases c26 : (t528 != (t532 == t543)) = true
             ·rw [if_pos c26] at H
              exact absurd H (by simp)
             ·rw [if_neg c26] at H
              have c26b0 : (t528 != (t532 == t543)) = false := by simpa using c26
              (try (have c26b1 : decide (t528 = (t532 == t543)) = true := by simpa using c26))
              (try (have c26b2 : (t528 == (t532 == t543)) = true := by simpa using c26))
              clear c26
              (first | rw [c26b0] | (simp only [i64_w, i32_w]; rw [c26b0]) | skip)
              have H' := Aside0.mk H
              clear H
              go_wp2_with (first | ((with_reducible refine gate_callee (f := 10) rfl ?_); refine goesL_ (some 93) rfl rfl Try.func10 (by kernel_rfl) rfl #[.int .i64 t521, .slice Ao9 t522.length co9] rfl (by simp only [zA_, zB_, zD_] <;> rfl) ?_; (with_reducible refine (impl_CountModels.calls kj14 t521 _ _ t522 t532 true _ ?side1 ?side2 A20.out).mono ?_); (case side1 => exact zC_ (Kd.N_reads' HO_6.out).2.2); (case side2 => exact (Kd.N_reads' HO_6.out).2.1); rintro e w27 ⟨rfl, hb⟩; refine ⟨_, rfl, ?_⟩; have n0_ := Aside0.mk (Kd.N_below (zN_ HO_6.out) hb); have n1_ := Aside0.mk (Kd.R_below (zR_ HO_7.out) hb); have n2_ := Aside0.mk (below_step (zb_ HB.out) hb); clear HO_6; clear HO_7; clear HB; have HO_6 := n0_; have HO_7 := n1_; have HB := n2_; clear n0_ n1_ n2_; (try clear hb); (try clear hb2); (try clear hk); (try clear hi)) | ((with_reducible refine gate_dst (N := 98) rfl ?_); (try (refine gate_guard (by rfl) ?_; dsimp only)); refine Kd.N_lit (Kd.slice 3 (Kd.int .i64)) _ 24 ?hg (N' := 98) ?hd (xs := ([] : List (List Int))) (inner := []) (ok := (fun _ => True)) (okp := (fun _ => True)) ?hr ?hp (fun _ hk => hk) ((show ∀ k_, w27.heap.size ≤ k_ → (fun _ => True) k_ from fun k_ hk => trivial) _ (Nat.le_refl _)) (Below.refl _ _) (Nat.le_refl _) (by simp) ?_; (case hd => rfl); (case hg => rfl); (case hr => first | (go_simp; done) | (go_simp; rfl)); (case hp => exact (Reps.none _ _)); intro v535 w28 ho29 hb hg_ hnew_; clear hg_ hnew_; (first | rw [← Ny534.out] at ho29 | (simp only [Int.reduceToNat] at ho29; rw [← Ny534.out] at ho29)); have n0_ := Aside0.mk (Kd.N_elder' (zN_ HO_6.out) (by first | exact Kd.N_base ho29 | exact Kd.S_base ho29) hb); have n1_ := Aside0.mk (Kd.R_below (zR_ HO_7.out) hb); have n2_ := Aside0.mk (Kd.N_lower ho29 (below_size (zb_ HB.out))); have n3_ := Aside0.mk (below_step (zb_ HB.out) hb); clear HO_6; clear HO_7; clear HB; have HO_6 := n0_; have HO_7 := n1_; have HO536 := n2_; have HB := n3_; clear n0_ n1_ n2_ n3_; clear hb ho29) | ((with_reducible refine gate_builtin (b := .append) (xs := #[.tmp 98, .tmp 99]) rfl ?_); (try (refine gate_guard (by rfl) ?_; dsimp only)); at_builtin; refine Kd.N_append_rows (Kd.slice 3 (Kd.int .i64)) (w0 := w) w.heap.size rfl (.tmp 98) (.tmp 99) 23 24 (.slice none 0 0) 24 rfl Try.underlying23 info24 rfl (by decide) (by omega) v535 y534 t522 _ _ _ (fun _ => True) (fun k_ => ((fun _ => True)) k_ ∧ some k_ ≠ (v535 : Value).ownBlock) rfl rfl ?aO ?aR (fun _ hk => hk) ?aF ?aB ?aS ?aL ?_; (case aR => exact (by skip; exact Kd.N_F (Kd.N_mono (ok' := (fun k_ => ((fun _ => True)) k_ ∧ some k_ ≠ (v535 : Value).ownBlock)) (HO_6.out) (fun k_ hk => ⟨trivial, hk.2⟩)))); (case aB => exact (zb_ HB.out)); (case aF => exact (fun _ _ => trivial)); (case aO => exact (zN_ HO536.out)); (case aS => exact (below_size (zb_ HB.out))); (case aL => have := LMc21.out; omega); intro v538 w30 ho hb hg hat; rw [← Ny537.out] at ho; have n0_ := Aside0.mk (Kd.N_afterv (ok := (fun _ => True)) (zN_ HO_6.out) hg hat); have n1_ := Aside0.mk (Kd.R_over' (zR_ HO_7.out) (Kd.N_typed (zN_ HO536.out)) (by decide) hg); have n2_ := Aside0.mk (hb); have n3_ := Aside0.mk (ho); clear HO_6; clear HO_7; clear HB; clear HO536; have HO_6 := n0_; have HO_7 := n1_; have HB := n2_; have HO539 := n3_; clear n0_ n1_ n2_ n3_; clear ho hb hg hat) | ((with_reducible refine gate_builtin (b := .append) (xs := #[.tmp 100, .tmp 102]) rfl ?_); (try (refine gate_guard (by rfl) ?_; dsimp only)); at_builtin; refine Kd.N_append (Kd.slice 3 (Kd.int .i64)) (w0 := w) w.heap.size rfl (.tmp 100) (.tmp 102) 23 24 (.slice none 0 0) 24 rfl Try.underlying23 info24 rfl (by decide) (by omega) v538 y537 t523 [.slice Ao10 t523.length co10] (fun _ => True) (fun k_ => ((fun _ => True)) k_ ∧ some k_ ≠ (v538 : Value).ownBlock) rfl rfl ?aP (fun _ hk => hk) ?aF ?aO ?aB ?aS ?aL ?_; (case aP => exact (Kd.FK_slice_mk (Kd.R_reads' (Kd.R_mono (ok' := (fun k_ => ((fun _ => True)) k_ ∧ some k_ ≠ (v538 : Value).ownBlock)) (Kd.R_apart' (HO_7.out) (Kd.N_typed HO539.out) (by decide)) (fun k_ hk => ⟨trivial, hk.2⟩))).2.1 (Kd.R_F (Kd.R_mono (ok' := (fun k_ => ((fun _ => True)) k_ ∧ some k_ ≠ (v538 : Value).ownBlock)) (Kd.R_apart' (HO_7.out) (Kd.N_typed HO539.out) (by decide)) (fun k_ hk => ⟨trivial, hk.2⟩))))); (case aB => exact (zb_ HB.out)); (case aF => exact (fun _ _ => trivial)); (case aO => exact (zN_ HO539.out)); (case aS => exact (below_size (zb_ HB.out))); (case aL => have := LMc22.out; omega); intro v541 w31 ho hb hg hat; rw [← Ny540.out] at ho; have n0_ := Aside0.mk (Kd.N_afterv (ok := (fun _ => True)) (zN_ HO_6.out) hg hat); have n1_ := Aside0.mk (hb); have n2_ := Aside0.mk (ho); clear HO_6; clear HB; clear HO539; clear HO_7; have HO_6 := n0_; have HB := n1_; have HO542 := n2_; clear n0_ n1_ n2_; clear ho hb hg hat; obtain ⟨Ao32, co32, eo32⟩ := Kd.N_slice HO542.out; subst eo32) | ((with_reducible refine gate_callee (f := 10) rfl ?_); refine goesL_ (some 104) rfl rfl Try.func10 (by kernel_rfl) rfl #[.int .i64 t521, .slice Ao32 y540.length co32] rfl (by simp only [zA_, zB_, zD_] <;> rfl) ?_; (with_reducible refine (impl_CountModels.calls kj14 t521 _ _ y540 t543 true _ ?side1 ?side2 A23.out).mono ?_); (case side1 => exact zC_ (Kd.N_reads' HO542.out).2.2); (case side2 => exact (Kd.N_reads' HO542.out).2.1); rintro e w33 ⟨rfl, hb⟩; refine ⟨_, rfl, ?_⟩; have n0_ := Aside0.mk (Kd.N_below (zN_ HO_6.out) hb); have n1_ := Aside0.mk (Kd.N_below (zN_ HO542.out) hb); have n2_ := Aside0.mk (below_step (zb_ HB.out) hb); clear HO_6; clear HO542; clear HB; have HO_6 := n0_; have HO542 := n1_; have HB := n2_; clear n0_ n1_ n2_; (try clear hb); (try clear hb2); (try clear hk); (try clear hi)))
              go_meet
              case rel => exact ⟨_, H', ⟨by have := HJ6.out; have := HJ14.out; first | omega | exact Nat.le_refl _⟩, ⟨zb_ HB.out⟩⟩
            ·replace c25 := Bool.eq_false_iff.mpr c25
             subst c25
             have H1 : (none) = some r := by rw [if_neg (show ¬ (false = true) by decide)] at H; exact H
             clear H
             have H := H1
             clear H1
             exact absurd H (by simp)
           ·replace c24 := Bool.eq_false_iff.mpr c24
            subst c24
            have H1 : (none) = some r := by rw [if_neg (show ¬ (false = true) by decide)] at H; exact H
            clear H
            have H := H1
            clear H1
            exact absurd H (by simp)
          ·rw [if_neg c22] at H
           exact absurd H (by simp)
         ·rw [if_neg c21] at H
          exact absurd H (by simp)
        ·replace c19 := Bool.eq_false_iff.mpr c19
         subst c19
         have H1 : (laws_FnFollows.j2 kj14 l1) = some r := by rw [if_neg (show ¬ (false = true) by decide)] at H; exact H
         clear H
         have H := H1
         clear H1
         have H' := Aside0.mk H
         clear H
         go_wp2
         go_meet
         case rel => exact ⟨_, H', ⟨by have := HJ6.out; have := HJ14.out; first | omega | exact Nat.le_refl _⟩, ⟨zb_ HB.out⟩⟩
       case rest => as_aux_lemma =>
        clear HC18
        try clear c1
        try clear c2
        try clear p2
        try clear c3
        try clear c3b0
        try clear p6
        try clear c7
        try clear c8
        try clear c9
        try clear c10
        try clear c13
        try clear c13b0
        try clear c13b1
        try clear c13b2
        try clear c14
        try clear c16
        try clear c17
        try clear c17b0
        try clear c19
        try clear c21
        try clear c22
        try clear c24
        try clear c25
        try clear c26
        try clear c26b0
        try clear c26b1
        try clear c26b2
        try clear p2
        try clear p6
        obtain ⟨kq, HA, HJ17, HB⟩ := hcut
        cases kq with
        | zero => exact absurd HA.out (by simp [laws_FnFollows.j2])
        | succ kj17 =>
         have H := HA.out
         clear HA
         simp only [laws_FnFollows.j2] at H
         replace H := Option.bind_eq_some_iff.mp H
         obtain ⟨⟨t545, t546, t547⟩, A340, H⟩ := H
         replace H : ((impl_DecideFrom.f kj17 t545 t546 t547).bind fun bt552 => ((spec_DecideFrom.f kj17 t545 t546 t547).bind fun bt554 => ((spec_DrawPureIn.f kj17 l1).bind fun bt556 => ((impl_PureIn.f kj17 bt556.1 bt556.2).bind fun bt560 => ((spec_PureIn.f kj17 bt556.1 bt556.2).bind fun bt564 => ((spec_DrawSameModels.f kj17 l1).bind fun bt568 => ((impl_SameModels.f kj17 bt568.1 bt568.2.1 bt568.2.2).bind fun bt575 => ((spec_SameModels.f kj17 bt568.1 bt568.2.1 bt568.2.2).bind fun bt577 => (if (bt552.2 != bt554.2) = true then (laws_FnFollows.j3 kj17 bt556.1 bt556.2 bt560.1 bt560.2 true) else (if bt552.1 = bt554.1 then (if (bt560.2 != bt564.2) = true then (laws_FnFollows.j3 kj17 bt556.1 bt556.2 bt560.1 bt560.2 true) else ((laws_sameInts.f kj17 bt560.1 bt564.1).bind fun t579 => (if t579 = true then (if (bt575.2 != bt577.2) = true then (laws_FnFollows.j3 kj17 bt556.1 bt556.2 bt560.1 bt560.2 true) else (laws_FnFollows.j3 kj17 bt556.1 bt556.2 bt560.1 bt560.2 (bt575.1 != bt577.1))) else (laws_FnFollows.j3 kj17 bt556.1 bt556.2 bt560.1 bt560.2 true)))) else (laws_FnFollows.j3 kj17 bt556.1 bt556.2 bt560.1 bt560.2 true))))))))))) = some r := H
         have A34 := Aside0.mk A340
         clear A340
         replace H := Option.bind_eq_some_iff.mp H
         obtain ⟨⟨t552, t553⟩, A350, H⟩ := H
         replace H : ((spec_DecideFrom.f kj17 t545 t546 t547).bind fun bt554 => ((spec_DrawPureIn.f kj17 l1).bind fun bt556 => ((impl_PureIn.f kj17 bt556.1 bt556.2).bind fun bt560 => ((spec_PureIn.f kj17 bt556.1 bt556.2).bind fun bt564 => ((spec_DrawSameModels.f kj17 l1).bind fun bt568 => ((impl_SameModels.f kj17 bt568.1 bt568.2.1 bt568.2.2).bind fun bt575 => ((spec_SameModels.f kj17 bt568.1 bt568.2.1 bt568.2.2).bind fun bt577 => (if (t553 != bt554.2) = true then (laws_FnFollows.j3 kj17 bt556.1 bt556.2 bt560.1 bt560.2 true) else (if t552 = bt554.1 then (if (bt560.2 != bt564.2) = true then (laws_FnFollows.j3 kj17 bt556.1 bt556.2 bt560.1 bt560.2 true) else ((laws_sameInts.f kj17 bt560.1 bt564.1).bind fun t579 => (if t579 = true then (if (bt575.2 != bt577.2) = true then (laws_FnFollows.j3 kj17 bt556.1 bt556.2 bt560.1 bt560.2 true) else (laws_FnFollows.j3 kj17 bt556.1 bt556.2 bt560.1 bt560.2 (bt575.1 != bt577.1))) else (laws_FnFollows.j3 kj17 bt556.1 bt556.2 bt560.1 bt560.2 true)))) else (laws_FnFollows.j3 kj17 bt556.1 bt556.2 bt560.1 bt560.2 true)))))))))) = some r := H
         have A35 := Aside0.mk A350
         clear A350
         replace H := Option.bind_eq_some_iff.mp H
         obtain ⟨⟨t554, t555⟩, A360, H⟩ := H
         replace H : ((spec_DrawPureIn.f kj17 l1).bind fun bt556 => ((impl_PureIn.f kj17 bt556.1 bt556.2).bind fun bt560 => ((spec_PureIn.f kj17 bt556.1 bt556.2).bind fun bt564 => ((spec_DrawSameModels.f kj17 l1).bind fun bt568 => ((impl_SameModels.f kj17 bt568.1 bt568.2.1 bt568.2.2).bind fun bt575 => ((spec_SameModels.f kj17 bt568.1 bt568.2.1 bt568.2.2).bind fun bt577 => (if (t553 != t555) = true then (laws_FnFollows.j3 kj17 bt556.1 bt556.2 bt560.1 bt560.2 true) else (if t552 = t554 then (if (bt560.2 != bt564.2) = true then (laws_FnFollows.j3 kj17 bt556.1 bt556.2 bt560.1 bt560.2 true) else ((laws_sameInts.f kj17 bt560.1 bt564.1).bind fun t579 => (if t579 = true then (if (bt575.2 != bt577.2) = true then (laws_FnFollows.j3 kj17 bt556.1 bt556.2 bt560.1 bt560.2 true) else (laws_FnFollows.j3 kj17 bt556.1 bt556.2 bt560.1 bt560.2 (bt575.1 != bt577.1))) else (laws_FnFollows.j3 kj17 bt556.1 bt556.2 bt560.1 bt560.2 true)))) else (laws_FnFollows.j3 kj17 bt556.1 bt556.2 bt560.1 bt560.2 true))))))))) = some r := H
         have A36 := Aside0.mk A360
         clear A360
         replace H := Option.bind_eq_some_iff.mp H
         obtain ⟨⟨t556, t557⟩, A370, H⟩ := H
         replace H : ((impl_PureIn.f kj17 t556 t557).bind fun bt560 => ((spec_PureIn.f kj17 t556 t557).bind fun bt564 => ((spec_DrawSameModels.f kj17 l1).bind fun bt568 => ((impl_SameModels.f kj17 bt568.1 bt568.2.1 bt568.2.2).bind fun bt575 => ((spec_SameModels.f kj17 bt568.1 bt568.2.1 bt568.2.2).bind fun bt577 => (if (t553 != t555) = true then (laws_FnFollows.j3 kj17 t556 t557 bt560.1 bt560.2 true) else (if t552 = t554 then (if (bt560.2 != bt564.2) = true then (laws_FnFollows.j3 kj17 t556 t557 bt560.1 bt560.2 true) else ((laws_sameInts.f kj17 bt560.1 bt564.1).bind fun t579 => (if t579 = true then (if (bt575.2 != bt577.2) = true then (laws_FnFollows.j3 kj17 t556 t557 bt560.1 bt560.2 true) else (laws_FnFollows.j3 kj17 t556 t557 bt560.1 bt560.2 (bt575.1 != bt577.1))) else (laws_FnFollows.j3 kj17 t556 t557 bt560.1 bt560.2 true)))) else (laws_FnFollows.j3 kj17 t556 t557 bt560.1 bt560.2 true)))))))) = some r := H
         have A37 := Aside0.mk A370
         clear A370
         replace H := Option.bind_eq_some_iff.mp H
         obtain ⟨⟨t560, t561⟩, A380, H⟩ := H
         replace H : ((spec_PureIn.f kj17 t556 t557).bind fun bt564 => ((spec_DrawSameModels.f kj17 l1).bind fun bt568 => ((impl_SameModels.f kj17 bt568.1 bt568.2.1 bt568.2.2).bind fun bt575 => ((spec_SameModels.f kj17 bt568.1 bt568.2.1 bt568.2.2).bind fun bt577 => (if (t553 != t555) = true then (laws_FnFollows.j3 kj17 t556 t557 t560 t561 true) else (if t552 = t554 then (if (t561 != bt564.2) = true then (laws_FnFollows.j3 kj17 t556 t557 t560 t561 true) else ((laws_sameInts.f kj17 t560 bt564.1).bind fun t579 => (if t579 = true then (if (bt575.2 != bt577.2) = true then (laws_FnFollows.j3 kj17 t556 t557 t560 t561 true) else (laws_FnFollows.j3 kj17 t556 t557 t560 t561 (bt575.1 != bt577.1))) else (laws_FnFollows.j3 kj17 t556 t557 t560 t561 true)))) else (laws_FnFollows.j3 kj17 t556 t557 t560 t561 true))))))) = some r := H
         have A38 := Aside0.mk A380
         clear A380
         replace H := Option.bind_eq_some_iff.mp H
         obtain ⟨⟨t564, t565⟩, A390, H⟩ := H
         replace H : ((spec_DrawSameModels.f kj17 l1).bind fun bt568 => ((impl_SameModels.f kj17 bt568.1 bt568.2.1 bt568.2.2).bind fun bt575 => ((spec_SameModels.f kj17 bt568.1 bt568.2.1 bt568.2.2).bind fun bt577 => (if (t553 != t555) = true then (laws_FnFollows.j3 kj17 t556 t557 t560 t561 true) else (if t552 = t554 then (if (t561 != t565) = true then (laws_FnFollows.j3 kj17 t556 t557 t560 t561 true) else ((laws_sameInts.f kj17 t560 t564).bind fun t579 => (if t579 = true then (if (bt575.2 != bt577.2) = true then (laws_FnFollows.j3 kj17 t556 t557 t560 t561 true) else (laws_FnFollows.j3 kj17 t556 t557 t560 t561 (bt575.1 != bt577.1))) else (laws_FnFollows.j3 kj17 t556 t557 t560 t561 true)))) else (laws_FnFollows.j3 kj17 t556 t557 t560 t561 true)))))) = some r := H
         have A39 := Aside0.mk A390
         clear A390
         replace H := Option.bind_eq_some_iff.mp H
         obtain ⟨⟨t568, t569, t572⟩, A400, H⟩ := H
         replace H : ((impl_SameModels.f kj17 t568 t569 t572).bind fun bt575 => ((spec_SameModels.f kj17 t568 t569 t572).bind fun bt577 => (if (t553 != t555) = true then (laws_FnFollows.j3 kj17 t556 t557 t560 t561 true) else (if t552 = t554 then (if (t561 != t565) = true then (laws_FnFollows.j3 kj17 t556 t557 t560 t561 true) else ((laws_sameInts.f kj17 t560 t564).bind fun t579 => (if t579 = true then (if (bt575.2 != bt577.2) = true then (laws_FnFollows.j3 kj17 t556 t557 t560 t561 true) else (laws_FnFollows.j3 kj17 t556 t557 t560 t561 (bt575.1 != bt577.1))) else (laws_FnFollows.j3 kj17 t556 t557 t560 t561 true)))) else (laws_FnFollows.j3 kj17 t556 t557 t560 t561 true))))) = some r := H
         have A40 := Aside0.mk A400
         clear A400
         replace H := Option.bind_eq_some_iff.mp H
         obtain ⟨⟨t575, t576⟩, A410, H⟩ := H
         replace H : ((spec_SameModels.f kj17 t568 t569 t572).bind fun bt577 => (if (t553 != t555) = true then (laws_FnFollows.j3 kj17 t556 t557 t560 t561 true) else (if t552 = t554 then (if (t561 != t565) = true then (laws_FnFollows.j3 kj17 t556 t557 t560 t561 true) else ((laws_sameInts.f kj17 t560 t564).bind fun t579 => (if t579 = true then (if (t576 != bt577.2) = true then (laws_FnFollows.j3 kj17 t556 t557 t560 t561 true) else (laws_FnFollows.j3 kj17 t556 t557 t560 t561 (t575 != bt577.1))) else (laws_FnFollows.j3 kj17 t556 t557 t560 t561 true)))) else (laws_FnFollows.j3 kj17 t556 t557 t560 t561 true)))) = some r := H
         have A41 := Aside0.mk A410
         clear A410
         replace H := Option.bind_eq_some_iff.mp H
         obtain ⟨⟨t577, t578⟩, A420, H⟩ := H
         replace H : (if (t553 != t555) = true then (laws_FnFollows.j3 kj17 t556 t557 t560 t561 true) else (if t552 = t554 then (if (t561 != t565) = true then (laws_FnFollows.j3 kj17 t556 t557 t560 t561 true) else ((laws_sameInts.f kj17 t560 t564).bind fun t579 => (if t579 = true then (if (t576 != t578) = true then (laws_FnFollows.j3 kj17 t556 t557 t560 t561 true) else (laws_FnFollows.j3 kj17 t556 t557 t560 t561 (t575 != t577))) else (laws_FnFollows.j3 kj17 t556 t557 t560 t561 true)))) else (laws_FnFollows.j3 kj17 t556 t557 t560 t561 true))) = some r := H
         have A42 := Aside0.mk A420
         clear A420
         have HC43 := Aside0.mk H
         clear H
         go_upto_region 22 with (first | ((with_reducible refine gate_callee (f := 11) rfl ?_); refine goesL_ (some 122) rfl rfl Try.func11 (by kernel_rfl) rfl #[.slice A1 l1.length c1] rfl (by simp only [zA_, zB_, zD_] <;> rfl) ?_; (with_reducible refine (spec_DrawDecideFrom.calls kj17 _ _ l1 t545 t546 t547 _ ?side1 ?side2 A34.out).mono ?_); (case side1 => exact zC_ (Kd.C_below HR1.out HB.out)); (case side2 => exact HC1.out); rintro e w44 ⟨v548, v550, rfl, ho0, ho1, hb⟩; refine ⟨_, rfl, ?_⟩; have n0_ := Aside0.mk (Kd.N_lower (by first | exact ho0 | exact Kd.S_N ho0 | exact Kd.R_N ho0) (below_size (zb_ HB.out))); have n1_ := Aside0.mk (Kd.R_mono (ok' := fun _ => True) (Kd.R_lower ho1 (below_size (zb_ HB.out))) (fun _ _ => trivial)); have n2_ := Aside0.mk (below_step (zb_ HB.out) hb); clear HB; have HO549 := n0_; have HO551 := n1_; have HB := n2_; clear n0_ n1_ n2_; (try clear hb); (try clear hb2); (try clear hk); (try clear hi); (try clear ho0); (try clear ho1); obtain ⟨Ao45, co45, eo45⟩ := Kd.N_slice HO549.out; subst eo45; obtain ⟨Ao46, co46, eo46⟩ := Kd.R_slice HO551.out; subst eo46) | ((with_reducible refine gate_callee (f := 12) rfl ?_); refine goesL_ (some 130) rfl rfl Try.func12 (by kernel_rfl) rfl #[.int .i64 t545, .slice Ao45 t546.length co45, .slice Ao46 t547.length co46] rfl (by simp only [zA_, zB_, zD_] <;> rfl) ?_; (with_reducible refine (impl_DecideFrom.calls kj17 t545 _ _ t546 _ _ t547 t552 t553 _ ?side1 ?side2 ?side3 ?side4 A35.out).mono ?_); (case side1 => exact zC_ (Kd.N_reads' HO549.out).2.2); (case side2 => exact (Kd.N_reads' HO549.out).2.1); (case side3 => exact zC_ (Kd.R_reads' HO551.out).2.2); (case side4 => exact (Kd.R_reads' HO551.out).2.1); rintro e w47 ⟨rfl, hb⟩; refine ⟨_, rfl, ?_⟩; have n0_ := Aside0.mk (Kd.N_below (zN_ HO549.out) hb); have n1_ := Aside0.mk (Kd.R_below (zR_ HO551.out) hb); have n2_ := Aside0.mk (below_step (zb_ HB.out) hb); clear HO549; clear HO551; clear HB; have HO549 := n0_; have HO551 := n1_; have HB := n2_; clear n0_ n1_ n2_; (try clear hb); (try clear hb2); (try clear hk); (try clear hi)) | ((with_reducible refine gate_callee (f := 13) rfl ?_); refine goesL_ (some 137) rfl rfl Try.func13 (by kernel_rfl) rfl #[.int .i64 t545, .slice Ao45 t546.length co45, .slice Ao46 t547.length co46] rfl (by simp only [zA_, zB_, zD_] <;> rfl) ?_; (with_reducible refine (spec_DecideFrom.calls kj17 t545 _ _ t546 _ _ t547 t554 t555 _ ?side1 ?side2 ?side3 ?side4 A36.out).mono ?_); (case side1 => exact zC_ (Kd.N_reads' HO549.out).2.2); (case side2 => exact (Kd.N_reads' HO549.out).2.1); (case side3 => exact zC_ (Kd.R_reads' HO551.out).2.2); (case side4 => exact (Kd.R_reads' HO551.out).2.1); rintro e w48 ⟨rfl, hb⟩; refine ⟨_, rfl, ?_⟩; have n0_ := Aside0.mk (Kd.N_below (zN_ HO549.out) hb); have n1_ := Aside0.mk (Kd.R_below (zR_ HO551.out) hb); have n2_ := Aside0.mk (below_step (zb_ HB.out) hb); clear HO549; clear HO551; clear HB; have HO549 := n0_; have HO551 := n1_; have HB := n2_; clear n0_ n1_ n2_; (try clear hb); (try clear hb2); (try clear hk); (try clear hi)) | ((with_reducible refine gate_callee (f := 14) rfl ?_); refine goesL_ (some 142) rfl rfl Try.func14 (by kernel_rfl) rfl #[.slice A1 l1.length c1] rfl (by simp only [zA_, zB_, zD_] <;> rfl) ?_; (with_reducible refine (spec_DrawPureIn.calls kj17 _ _ l1 t556 t557 _ ?side1 ?side2 A37.out).mono ?_); (case side1 => exact zC_ (Kd.C_below HR1.out HB.out)); (case side2 => exact HC1.out); rintro e w49 ⟨v558, rfl, ho0, hb⟩; refine ⟨_, rfl, ?_⟩; have n0_ := Aside0.mk (Kd.N_below (zN_ HO549.out) hb); have n1_ := Aside0.mk (Kd.R_below (zR_ HO551.out) hb); have n2_ := Aside0.mk (Kd.N_lower (by first | exact ho0 | exact Kd.S_N ho0 | exact Kd.R_N ho0) (below_size (zb_ HB.out))); have n3_ := Aside0.mk (below_step (zb_ HB.out) hb); clear HO549; clear HO551; clear HB; have HO549 := n0_; have HO551 := n1_; have HO559 := n2_; have HB := n3_; clear n0_ n1_ n2_ n3_; (try clear hb); (try clear hb2); (try clear hk); (try clear hi); (try clear ho0); obtain ⟨Ao50, co50, eo50⟩ := Kd.N_slice HO559.out; subst eo50) | ((with_reducible refine gate_callee (f := 15) rfl ?_); refine goesL_ (some 148) rfl rfl Try.func15 (by kernel_rfl) rfl #[.int .i64 t556, .slice Ao50 t557.length co50] rfl (by simp only [zA_, zB_, zD_] <;> rfl) ?_; (with_reducible refine (impl_PureIn.calls kj17 t556 _ _ t557 t560 t561 _ ?side1 ?side2 A38.out).mono ?_); (case side1 => exact zC_ (Kd.N_reads' HO559.out).2.2); (case side2 => exact (Kd.N_reads' HO559.out).2.1); rintro e w51 ⟨v562, rfl, ho0, hb⟩; refine ⟨_, rfl, ?_⟩; have n0_ := Aside0.mk (Kd.N_below (zN_ HO549.out) hb); have n1_ := Aside0.mk (Kd.R_below (zR_ HO551.out) hb); have n2_ := Aside0.mk (Kd.N_below (zN_ HO559.out) hb); have n3_ := Aside0.mk (Kd.R_mono (ok' := fun _ => True) (Kd.R_lower ho0 (below_size (zb_ HB.out))) (fun _ _ => trivial)); have n4_ := Aside0.mk (below_step (zb_ HB.out) hb); clear HO549; clear HO551; clear HO559; clear HB; have HO549 := n0_; have HO551 := n1_; have HO559 := n2_; have HO563 := n3_; have HB := n4_; clear n0_ n1_ n2_ n3_ n4_; (try clear hb); (try clear hb2); (try clear hk); (try clear hi); (try clear ho0)) | ((with_reducible refine gate_callee (f := 16) rfl ?_); refine goesL_ (some 154) rfl rfl Try.func16 (by kernel_rfl) rfl #[.int .i64 t556, .slice Ao50 t557.length co50] rfl (by simp only [zA_, zB_, zD_] <;> rfl) ?_; (with_reducible refine (spec_PureIn.calls kj17 t556 _ _ t557 t564 t565 _ ?side1 ?side2 A39.out).mono ?_); (case side1 => exact zC_ (Kd.N_reads' HO559.out).2.2); (case side2 => exact (Kd.N_reads' HO559.out).2.1); rintro e w52 ⟨v566, rfl, ho0, hb⟩; refine ⟨_, rfl, ?_⟩; have n0_ := Aside0.mk (Kd.N_below (zN_ HO549.out) hb); have n1_ := Aside0.mk (Kd.R_below (zR_ HO551.out) hb); have n2_ := Aside0.mk (Kd.N_below (zN_ HO559.out) hb); have n3_ := Aside0.mk (Kd.R_below (zR_ HO563.out) hb); have n4_ := Aside0.mk (Kd.R_mono (ok' := fun _ => True) (Kd.R_lower ho0 (below_size (zb_ HB.out))) (fun _ _ => trivial)); have n5_ := Aside0.mk (below_step (zb_ HB.out) hb); clear HO549; clear HO551; clear HO559; clear HO563; clear HB; have HO549 := n0_; have HO551 := n1_; have HO559 := n2_; have HO563 := n3_; have HO567 := n4_; have HB := n5_; clear n0_ n1_ n2_ n3_ n4_ n5_; (try clear hb); (try clear hb2); (try clear hk); (try clear hi); (try clear ho0)) | ((with_reducible refine gate_callee (f := 17) rfl ?_); refine goesL_ (some 159) rfl rfl Try.func17 (by kernel_rfl) rfl #[.slice A1 l1.length c1] rfl (by simp only [zA_, zB_, zD_] <;> rfl) ?_; (with_reducible refine (spec_DrawSameModels.calls kj17 _ _ l1 t568 t569 t572 _ ?side1 ?side2 A40.out).mono ?_); (case side1 => exact zC_ (Kd.C_below HR1.out HB.out)); (case side2 => exact HC1.out); rintro e w53 ⟨v570, v573, rfl, ho0, ho1, hb⟩; refine ⟨_, rfl, ?_⟩; have n0_ := Aside0.mk (Kd.N_below (zN_ HO549.out) hb); have n1_ := Aside0.mk (Kd.R_below (zR_ HO551.out) hb); have n2_ := Aside0.mk (Kd.N_below (zN_ HO559.out) hb); have n3_ := Aside0.mk (Kd.R_below (zR_ HO563.out) hb); have n4_ := Aside0.mk (Kd.R_below (zR_ HO567.out) hb); have n5_ := Aside0.mk (Kd.N_lower (by first | exact ho0 | exact Kd.S_N ho0 | exact Kd.R_N ho0) (below_size (zb_ HB.out))); have n6_ := Aside0.mk (Kd.V_lower (by first | exact ho1 | exact Kd.S_V ho1 | exact Kd.R_V ho1) (below_size (zb_ HB.out))); have n7_ := Aside0.mk (below_step (zb_ HB.out) hb); clear HO549; clear HO551; clear HO559; clear HO563; clear HO567; clear HB; have HO549 := n0_; have HO551 := n1_; have HO559 := n2_; have HO563 := n3_; have HO567 := n4_; have HO571 := n5_; have HO574 := n6_; have HB := n7_; clear n0_ n1_ n2_ n3_ n4_ n5_ n6_ n7_; (try clear hb); (try clear hb2); (try clear hk); (try clear hi); (try clear ho0); (try clear ho1); obtain ⟨Ao54, co54, eo54⟩ := Kd.N_slice HO571.out; subst eo54; obtain ⟨Ao55, co55, eo55⟩ := Kd.V_slice HO574.out; subst eo55) | ((with_reducible refine gate_callee (f := 18) rfl ?_); refine goesL_ (some 167) rfl rfl Try.func18 (by kernel_rfl) rfl #[.int .i64 t568, .slice Ao54 t569.length co54, .slice Ao55 t572.length co55] rfl (by simp only [zA_, zB_, zD_] <;> rfl) ?_; (with_reducible refine (impl_SameModels.calls kj17 t568 _ _ t569 _ _ t572 t575 t576 _ ?side1 ?side2 ?side3 ?side4 A41.out).mono ?_); (case side1 => exact zC_ (Kd.N_reads' HO571.out).2.2); (case side2 => exact (Kd.N_reads' HO571.out).2.1); (case side3 => exact zC_ (Kd.V_reads' HO574.out).2.2); (case side4 => exact (Kd.V_reads' HO574.out).2.1); rintro e w56 ⟨rfl, hb⟩; refine ⟨_, rfl, ?_⟩; have n0_ := Aside0.mk (Kd.N_below (zN_ HO549.out) hb); have n1_ := Aside0.mk (Kd.R_below (zR_ HO551.out) hb); have n2_ := Aside0.mk (Kd.N_below (zN_ HO559.out) hb); have n3_ := Aside0.mk (Kd.R_below (zR_ HO563.out) hb); have n4_ := Aside0.mk (Kd.R_below (zR_ HO567.out) hb); have n5_ := Aside0.mk (Kd.N_below (zN_ HO571.out) hb); have n6_ := Aside0.mk (Kd.V_below (by (with_reducible repeat (first | apply Kd.V_alloc | apply Kd.V_drewN | apply Kd.V_drew)); exact HO574.out) hb); have n7_ := Aside0.mk (below_step (zb_ HB.out) hb); clear HO549; clear HO551; clear HO559; clear HO563; clear HO567; clear HO571; clear HO574; clear HB; have HO549 := n0_; have HO551 := n1_; have HO559 := n2_; have HO563 := n3_; have HO567 := n4_; have HO571 := n5_; have HO574 := n6_; have HB := n7_; clear n0_ n1_ n2_ n3_ n4_ n5_ n6_ n7_; (try clear hb); (try clear hb2); (try clear hk); (try clear hi)) | ((with_reducible refine gate_callee (f := 19) rfl ?_); refine goesL_ (some 174) rfl rfl Try.func19 (by kernel_rfl) rfl #[.int .i64 t568, .slice Ao54 t569.length co54, .slice Ao55 t572.length co55] rfl (by simp only [zA_, zB_, zD_] <;> rfl) ?_; (with_reducible refine (spec_SameModels.calls kj17 t568 _ _ t569 _ _ t572 t577 t578 _ ?side1 ?side2 ?side3 ?side4 A42.out).mono ?_); (case side1 => exact zC_ (Kd.N_reads' HO571.out).2.2); (case side2 => exact (Kd.N_reads' HO571.out).2.1); (case side3 => exact zC_ (Kd.V_reads' HO574.out).2.2); (case side4 => exact (Kd.V_reads' HO574.out).2.1); rintro e w57 ⟨rfl, hb⟩; refine ⟨_, rfl, ?_⟩; have n0_ := Aside0.mk (Kd.N_below (zN_ HO549.out) hb); have n1_ := Aside0.mk (Kd.R_below (zR_ HO551.out) hb); have n2_ := Aside0.mk (Kd.N_below (zN_ HO559.out) hb); have n3_ := Aside0.mk (Kd.R_below (zR_ HO563.out) hb); have n4_ := Aside0.mk (Kd.R_below (zR_ HO567.out) hb); have n5_ := Aside0.mk (Kd.N_below (zN_ HO571.out) hb); have n6_ := Aside0.mk (Kd.V_below (by (with_reducible repeat (first | apply Kd.V_alloc | apply Kd.V_drewN | apply Kd.V_drew)); exact HO574.out) hb); have n7_ := Aside0.mk (below_step (zb_ HB.out) hb); clear HO549; clear HO551; clear HO559; clear HO563; clear HO567; clear HO571; clear HO574; clear HB; have HO549 := n0_; have HO551 := n1_; have HO559 := n2_; have HO563 := n3_; have HO567 := n4_; have HO571 := n5_; have HO574 := n6_; have HB := n7_; clear n0_ n1_ n2_ n3_ n4_ n5_ n6_ n7_; (try clear hb); (try clear hb2); (try clear hk); (try clear hi)))
         (try simp only [Act.put, List.setIfInBounds_toArray, List.set_cons_zero, List.set_cons_succ])
         go_cut [205] (fun v205 wc => ∃ (kq : Nat) (x205_42 : Bool), v205 = .bool x205_42 ∧ Aside0 (laws_FnFollows.j3 kq t556 t557 t560 t561 x205_42 = some r) ∧ Aside0 (kq ≤ kj17) ∧ Aside0 (Kd.N (Kd.slice 3 (Kd.int .i64)) 24 wc w.heap.size (fun _ => True) (.slice Ao50 t557.length co50) t557) ∧ Aside0 (Kd.R (Kd.int .i64) 3 wc w.heap.size (fun _ => True) v562 t560) ∧ Aside0 (Below w.heap.size w wc))
         case first => as_aux_lemma =>
          have H := HC43.out
          clear HC43
          by_cases c58 : (t553 != t555) = true
          ·rw [if_pos c58] at H
           have c58b0 : (t553 != t555) = true := c58
           (try (have c58b1 : decide (t553 = t555) = false := by simpa using c58))
           (try (have c58b2 : (t553 == t555) = false := by simpa using c58))
           (try (have c58b3 : ¬ (t553 = t555) := by simpa using c58))
           clear c58
           (first | rw [c58b0] | (simp only [i64_w, i32_w]; rw [c58b0]) | skip)
           have H' := Aside0.mk H
           clear H
           go_wp2
           go_meet
           case rel => exact ⟨_, (true), (by first | rfl | (simp; done) | (simp [*]; done)), H', ⟨by have := HJ6.out; have := HJ14.out; have := HJ17.out; first | omega | exact Nat.le_refl _⟩, ⟨Kd.N_mono (zN_ HO559.out) (fun _ _ => trivial)⟩, ⟨Kd.R_mono (zR_ HO563.out) (fun _ _ => trivial)⟩, ⟨zb_ HB.out⟩⟩
          ·rw [if_neg c58] at H
           have c58b0 : (t553 != t555) = false := by simpa using c58
           (try (have c58b1 : decide (t553 = t555) = true := by simpa using c58))
           (try (have c58b2 : (t553 == t555) = true := by simpa using c58))
           clear c58
           (first | rw [c58b0] | (simp only [i64_w, i32_w]; rw [c58b0]) | skip)
           by_cases c59 : t552 = t554
           ·rw [if_pos c59] at H
            have c59b0 : (t552 == t554) = true := beq_iff_eq.mpr c59
            have c59b1 : (t552 != t554) = false := bne_eq_false_iff_eq.mpr c59
            clear c59
            by_cases c60 : (t561 != t565) = true
            ·rw [if_pos c60] at H
             have c60b0 : (t561 != t565) = true := c60
             (try (have c60b1 : decide (t561 = t565) = false := by simpa using c60))
             (try (have c60b2 : (t561 == t565) = false := by simpa using c60))
             (try (have c60b3 : ¬ (t561 = t565) := by simpa using c60))
             clear c60
             have H' := Aside0.mk H
             clear H
             go_wp2
             go_meet
             case rel => exact ⟨_, (true), (by first | rfl | (simp; done) | (simp [*]; done)), H', ⟨by have := HJ6.out; have := HJ14.out; have := HJ17.out; first | omega | exact Nat.le_refl _⟩, ⟨Kd.N_mono (zN_ HO559.out) (fun _ _ => trivial)⟩, ⟨Kd.R_mono (zR_ HO563.out) (fun _ _ => trivial)⟩, ⟨zb_ HB.out⟩⟩
            ·rw [if_neg c60] at H
             have c60b0 : (t561 != t565) = false := by simpa using c60
             (try (have c60b1 : decide (t561 = t565) = true := by simpa using c60))
             (try (have c60b2 : (t561 == t565) = true := by simpa using c60))
             clear c60
             replace H := Option.bind_eq_some_iff.mp H
             obtain ⟨t579, A610, H⟩ := H
             replace H : (if t579 = true then (if (t576 != t578) = true then (laws_FnFollows.j3 kj17 t556 t557 t560 t561 true) else (laws_FnFollows.j3 kj17 t556 t557 t560 t561 (t575 != t577))) else (laws_FnFollows.j3 kj17 t556 t557 t560 t561 true)) = some r := H
             have A61 := Aside0.mk A610
             clear A610
             by_cases c62 : t579 = true
             ·subst c62
              have H1 : (if (t576 != t578) = true then (laws_FnFollows.j3 kj17 t556 t557 t560 t561 true) else (laws_FnFollows.j3 kj17 t556 t557 t560 t561 (t575 != t577))) = some r := by rw [if_pos rfl] at H; exact H
              clear H
              have H := H1
              clear H1
              by_cases c63 : (t576 != t578) = true
              ·rw [if_pos c63] at H
               have c63b0 : (t576 != t578) = true := c63
               (try (have c63b1 : decide (t576 = t578) = false := by simpa using c63))
               (try (have c63b2 : (t576 == t578) = false := by simpa using c63))
               (try (have c63b3 : ¬ (t576 = t578) := by simpa using c63))
               clear c63
               have H' := Aside0.mk H
               clear H
               obtain ⟨Ao64, co64, eo64⟩ := Kd.R_slice HO563.out
               subst eo64
               obtain ⟨Ao65, co65, eo65⟩ := Kd.R_slice HO567.out
               subst eo65
               go_wp2_with (first | (go_at_call 20; (with_reducible refine (laws_sameInts.calls kj17 _ _ t560 _ _ t564 true _ ?side1 ?side2 ?side3 ?side4 A61.out).mono ?_); (case side1 => exact zC_ (Kd.R_reads' HO563.out).2.2); (case side2 => exact (Kd.R_reads' HO563.out).2.1); (case side3 => exact zC_ (Kd.R_reads' HO567.out).2.2); (case side4 => exact (Kd.R_reads' HO567.out).2.1); rintro e w' ⟨rfl, ⟨nd, rfl⟩⟩))
               go_meet
               case rel => exact ⟨_, (true), (by first | rfl | (simp; done) | (simp [*]; done)), H', ⟨by have := HJ6.out; have := HJ14.out; have := HJ17.out; first | omega | exact Nat.le_refl _⟩, ⟨Kd.N_mono (zN_ HO559.out) (fun _ _ => trivial)⟩, ⟨Kd.R_mono (zR_ HO563.out) (fun _ _ => trivial)⟩, ⟨zb_ HB.out⟩⟩
              ·rw [if_neg c63] at H
               have c63b0 : (t576 != t578) = false := by simpa using c63
               (try (have c63b1 : decide (t576 = t578) = true := by simpa using c63))
               (try (have c63b2 : (t576 == t578) = true := by simpa using c63))
               clear c63
               have H' := Aside0.mk H
               clear H
               obtain ⟨Ao66, co66, eo66⟩ := Kd.R_slice HO563.out
               subst eo66
               obtain ⟨Ao67, co67, eo67⟩ := Kd.R_slice HO567.out
               subst eo67
               go_wp2_with (first | (go_at_call 20; (with_reducible refine (laws_sameInts.calls kj17 _ _ t560 _ _ t564 true _ ?side1 ?side2 ?side3 ?side4 A61.out).mono ?_); (case side1 => exact zC_ (Kd.R_reads' HO563.out).2.2); (case side2 => exact (Kd.R_reads' HO563.out).2.1); (case side3 => exact zC_ (Kd.R_reads' HO567.out).2.2); (case side4 => exact (Kd.R_reads' HO567.out).2.1); rintro e w' ⟨rfl, ⟨nd, rfl⟩⟩))
               go_meet
               case rel => exact ⟨_, ((t575 != t577)), (by first | rfl | (simp; done) | (simp [*]; done)), H', ⟨by have := HJ6.out; have := HJ14.out; have := HJ17.out; first | omega | exact Nat.le_refl _⟩, ⟨Kd.N_mono (zN_ HO559.out) (fun _ _ => trivial)⟩, ⟨Kd.R_mono (zR_ HO563.out) (fun _ _ => trivial)⟩, ⟨zb_ HB.out⟩⟩
             ·replace c62 := Bool.eq_false_iff.mpr c62
              subst c62
              have H1 : (laws_FnFollows.j3 kj17 t556 t557 t560 t561 true) = some r := by rw [if_neg (show ¬ (false = true) by decide)] at H; exact H
              clear H
              have H := H1
              clear H1
              have H' := Aside0.mk H
              clear H
              obtain ⟨Ao68, co68, eo68⟩ := Kd.R_slice HO563.out
              subst eo68
              obtain ⟨Ao69, co69, eo69⟩ := Kd.R_slice HO567.out
              subst eo69
              go_wp2_with (first | (go_at_call 20; (with_reducible refine (laws_sameInts.calls kj17 _ _ t560 _ _ t564 false _ ?side1 ?side2 ?side3 ?side4 A61.out).mono ?_); (case side1 => exact zC_ (Kd.R_reads' HO563.out).2.2); (case side2 => exact (Kd.R_reads' HO563.out).2.1); (case side3 => exact zC_ (Kd.R_reads' HO567.out).2.2); (case side4 => exact (Kd.R_reads' HO567.out).2.1); rintro e w' ⟨rfl, ⟨nd, rfl⟩⟩))
              go_meet
              case rel => exact ⟨_, (true), (by first | rfl | (simp; done) | (simp [*]; done)), H', ⟨by have := HJ6.out; have := HJ14.out; have := HJ17.out; first | omega | exact Nat.le_refl _⟩, ⟨Kd.N_mono (zN_ HO559.out) (fun _ _ => trivial)⟩, ⟨Kd.R_mono (zR_ HO563.out) (fun _ _ => trivial)⟩, ⟨zb_ HB.out⟩⟩
           ·rw [if_neg c59] at H
            have c59b0 : (t552 == t554) = false := beq_eq_false_iff_ne.mpr c59
            have c59b1 : (t552 != t554) = true := bne_iff_ne.mpr c59
            have H' := Aside0.mk H
            clear H
            go_wp2
            go_meet
            case rel => exact ⟨_, (true), (by first | rfl | (simp; done) | (simp [*]; done)), H', ⟨by have := HJ6.out; have := HJ14.out; have := HJ17.out; first | omega | exact Nat.le_refl _⟩, ⟨Kd.N_mono (zN_ HO559.out) (fun _ _ => trivial)⟩, ⟨Kd.R_mono (zR_ HO563.out) (fun _ _ => trivial)⟩, ⟨zb_ HB.out⟩⟩
         case rest => as_aux_lemma =>
          clear HC43
          try clear c1
          try clear c2
          try clear p2
          try clear c3
          try clear c3b0
          try clear c5
          try clear c6
          try clear p6
          try clear c7
          try clear c8
          try clear c9
          try clear c10
          try clear c11
          try clear c12
          try clear c13
          try clear c13b0
          try clear c13b1
          try clear c13b2
          try clear c14
          try clear c15
          try clear c16
          try clear c17
          try clear c17b0
          try clear c18
          try clear c19
          try clear c21
          try clear c22
          try clear c24
          try clear c25
          try clear c26
          try clear c26b0
          try clear c26b1
          try clear c26b2
          try clear c58
          try clear c58b0
          try clear c58b1
          try clear c58b2
          try clear c59
          try clear c59b0
          try clear c59b1
          try clear c60
          try clear c60b0
          try clear c60b1
          try clear c60b2
          try clear c62
          try clear c63
          try clear c63b0
          try clear c63b1
          try clear c63b2
          try clear p64
          try clear p2
          try clear p6
          obtain ⟨kq, x205_42, rfl, HA, HJ42, HO_24, HO_25, HB⟩ := hcut
          cases kq with
          | zero => exact absurd HA.out (by simp [laws_FnFollows.j3])
          | succ kj42 =>
           have H := HA.out
           clear HA
           simp only [laws_FnFollows.j3] at H
           by_cases c70 : x205_42 = true
           ·subst c70
            have H1 : (none) = some r := by rw [if_pos rfl] at H; exact H
            clear H
            have H := H1
            clear H1
            exact absurd H (by simp)
           ·replace c70 := Bool.eq_false_iff.mpr c70
            subst c70
            have H1 : (if t561 = true then (if t556 ≤ 8 then (laws_FnFollows.j4 kj42 t556 t557 t560 (decide ((t557.length : Int) > 0))) else (laws_FnFollows.j4 kj42 t556 t557 t560 false)) else (laws_FnFollows.j4 kj42 t556 t557 t560 false)) = some r := by rw [if_neg (show ¬ (false = true) by decide)] at H; exact H
            clear H
            have H := H1
            clear H1
            have HC71 := Aside0.mk H
            clear H
            go_upto_region 24 with (fail)
            go_cut [215] (fun v215 wc => ∃ (kq : Nat) (x215_70 : Bool), v215 = .bool x215_70 ∧ Aside0 (laws_FnFollows.j4 kq t556 t557 t560 x215_70 = some r) ∧ Aside0 (kq ≤ kj42) ∧ Aside0 (Kd.N (Kd.slice 3 (Kd.int .i64)) 24 wc w.heap.size (fun _ => True) (.slice Ao50 t557.length co50) t557) ∧ Aside0 (Kd.R (Kd.int .i64) 3 wc w.heap.size (fun _ => True) v562 t560) ∧ Aside0 (Below w.heap.size w wc))
            case first => as_aux_lemma =>
             have H := HC71.out
             clear HC71
             by_cases c72 : t561 = true
             ·subst c72
              have H1 : (if t556 ≤ 8 then (laws_FnFollows.j4 kj42 t556 t557 t560 (decide ((t557.length : Int) > 0))) else (laws_FnFollows.j4 kj42 t556 t557 t560 false)) = some r := by rw [if_pos rfl] at H; exact H
              clear H
              have H := H1
              clear H1
              by_cases c73 : t556 ≤ 8
              ·rw [if_pos c73] at H
               have c73b0 : decide (t556 ≤ 8) = true := decide_eq_true c73
               clear c73
               (first | rw [c73b0] | (simp only [i64_w, i32_w]; rw [c73b0]) | skip)
               have H' := Aside0.mk H
               clear H
               go_wp2
               go_meet
               case rel => exact ⟨_, (decide ((t557.length : Int) > 0)), (by first | rfl | (simp; done) | (simp [*]; done)), H', ⟨by have := HJ6.out; have := HJ14.out; have := HJ17.out; have := HJ42.out; first | omega | exact Nat.le_refl _⟩, ⟨Kd.N_mono (zN_ HO_24.out) (fun _ _ => trivial)⟩, ⟨Kd.R_mono (zR_ HO_25.out) (fun _ _ => trivial)⟩, ⟨zb_ HB.out⟩⟩
              ·rw [if_neg c73] at H
               have c73b0 : decide (t556 ≤ 8) = false := decide_eq_false c73
               clear c73
               (first | rw [c73b0] | (simp only [i64_w, i32_w]; rw [c73b0]) | skip)
               have H' := Aside0.mk H
               clear H
               go_wp2
               go_meet
               case rel => exact ⟨_, (false), (by first | rfl | (simp; done) | (simp [*]; done)), H', ⟨by have := HJ6.out; have := HJ14.out; have := HJ17.out; have := HJ42.out; first | omega | exact Nat.le_refl _⟩, ⟨Kd.N_mono (zN_ HO_24.out) (fun _ _ => trivial)⟩, ⟨Kd.R_mono (zR_ HO_25.out) (fun _ _ => trivial)⟩, ⟨zb_ HB.out⟩⟩
             ·replace c72 := Bool.eq_false_iff.mpr c72
              subst c72
              have H1 : (laws_FnFollows.j4 kj42 t556 t557 t560 false) = some r := by rw [if_neg (show ¬ (false = true) by decide)] at H; exact H
              clear H
              have H := H1
              clear H1
              have H' := Aside0.mk H
              clear H
              go_wp2
              go_meet
              case rel => exact ⟨_, (false), (by first | rfl | (simp; done) | (simp [*]; done)), H', ⟨by have := HJ6.out; have := HJ14.out; have := HJ17.out; have := HJ42.out; first | omega | exact Nat.le_refl _⟩, ⟨Kd.N_mono (zN_ HO_24.out) (fun _ _ => trivial)⟩, ⟨Kd.R_mono (zR_ HO_25.out) (fun _ _ => trivial)⟩, ⟨zb_ HB.out⟩⟩
            case rest => as_aux_lemma =>
             clear HC71
             try clear c1
             try clear c2
             try clear p2
             try clear c3
             try clear c3b0
             try clear c5
             try clear c6
             try clear p6
             try clear c7
             try clear c8
             try clear c9
             try clear c10
             try clear c11
             try clear c12
             try clear c13
             try clear c13b0
             try clear c13b1
             try clear c13b2
             try clear c14
             try clear c15
             try clear c16
             try clear c17
             try clear c17b0
             try clear c18
             try clear c19
             try clear c21
             try clear c22
             try clear c24
             try clear c25
             try clear c26
             try clear c26b0
             try clear c26b1
             try clear c26b2
             try clear c58
             try clear c58b0
             try clear c58b1
             try clear c58b2
             try clear c59
             try clear c59b0
             try clear c59b1
             try clear c60
             try clear c60b0
             try clear c60b1
             try clear c60b2
             try clear c62
             try clear c63
             try clear c63b0
             try clear c63b1
             try clear c63b2
             try clear p64
             try clear c70
             try clear c72
             try clear c73
             try clear c73b0
             try clear p2
             try clear p6
             try clear p64
             obtain ⟨kq, x215_70, rfl, HA, HJ70, HO_24, HO_25, HB⟩ := hcut
             cases kq with
             | zero => exact absurd HA.out (by simp [laws_FnFollows.j4])
             | succ kj70 =>
              have H := HA.out
              clear HA
              simp only [laws_FnFollows.j4] at H
              by_cases c74 : x215_70 = true
              ·subst c74
               have H1 : ((impl_Solve.f kj70 t556 t557).bind fun bt580 => (laws_FnFollows.l0 kj70 t556 t557 bt580.1 bt580.2.2.2 t560 (t560.length : Int) 0)) = some r := by rw [if_pos rfl] at H; exact H
               clear H
               have H := H1
               clear H1
               replace H := Option.bind_eq_some_iff.mp H
               obtain ⟨⟨t580, t581, t582, t583⟩, A750, H⟩ := H
               replace H : (laws_FnFollows.l0 kj70 t556 t557 t580 t583 t560 (t560.length : Int) 0) = some r := H
               have A75 := Aside0.mk A750
               clear A750
               have H' := Aside0.mk H
               clear H
               go_wp2_with (first | ((with_reducible refine gate_callee (f := 21) rfl ?_); refine goesL_ (some 219) rfl rfl Try.func21 (by kernel_rfl) rfl #[.int .i64 t556, .slice Ao50 t557.length co50] rfl (by simp only [zA_, zB_, zD_] <;> rfl) ?_; (with_reducible refine (impl_Solve.calls kj70 t556 _ _ t557 t580 t581 t582 t583 _ ?side1 ?side2 A75.out).mono ?_); (case side1 => exact zC_ (Kd.N_reads' HO_24.out).2.2); (case side2 => exact (Kd.N_reads' HO_24.out).2.1); rintro e w76 ⟨v584, v586, rfl, ho0, ho1, hb⟩; refine ⟨_, rfl, ?_⟩; have n0_ := Aside0.mk (Kd.N_below (zN_ HO_24.out) hb); have n1_ := Aside0.mk (Kd.R_below (zR_ HO_25.out) hb); have n2_ := Aside0.mk (Kd.R_mono (ok' := fun _ => True) (Kd.R_lower ho0 (below_size (zb_ HB.out))) (fun _ _ => trivial)); have n3_ := Aside0.mk (Kd.N_lower (by first | exact ho1 | exact Kd.S_N ho1 | exact Kd.R_N ho1) (below_size (zb_ HB.out))); have n4_ := Aside0.mk (below_step (zb_ HB.out) hb); clear HO_24; clear HO_25; clear HB; have HO_24 := n0_; have HO_25 := n1_; have HO585 := n2_; have HO587 := n3_; have HB := n4_; clear n0_ n1_ n2_ n3_ n4_; (try clear hb); (try clear hb2); (try clear hk); (try clear hi); (try clear ho0); (try clear ho1); obtain ⟨Ao77, co77, eo77⟩ := Kd.R_slice HO_25.out; subst eo77))
               go_loopg [226] kj70 (fun kq v226 w' => ∃ (x226_6 : Int), v226 = .int .i64 x226_6 ∧ Aside0 (laws_FnFollows.l0 kq t556 t557 t580 t583 t560 (t560.length : Int) x226_6 = some r) ∧ Aside0 (kq ≤ kj70) ∧ Aside0 (Kd.N (Kd.slice 3 (Kd.int .i64)) 24 w' w.heap.size (fun _ => True) (.slice Ao50 t557.length co50) t557) ∧ Aside0 (Kd.R (Kd.int .i64) 3 w' w.heap.size (fun _ => True) (.slice Ao77 t560.length co77) t560) ∧ Aside0 (Below w.heap.size w w'))
               case atStart => exact ⟨(0), (by first | rfl | (simp; done) | (simp [*]; done)), H', ⟨Nat.le_refl _⟩, ⟨Kd.N_mono (zN_ HO_24.out) (fun _ _ => trivial)⟩, ⟨Kd.R_mono (zR_ HO_25.out) (fun _ _ => trivial)⟩, ⟨zb_ HB.out⟩⟩
               case round =>
                clear H'
                try clear c1
                try clear c2
                try clear p2
                try clear c3
                try clear c3b0
                try clear c5
                try clear c6
                try clear p6
                try clear c7
                try clear c8
                try clear c9
                try clear c10
                try clear c11
                try clear c12
                try clear c13
                try clear c13b0
                try clear c13b1
                try clear c13b2
                try clear c14
                try clear c15
                try clear c16
                try clear c17
                try clear c17b0
                try clear c18
                try clear c19
                try clear c21
                try clear c22
                try clear c24
                try clear c25
                try clear c26
                try clear c26b0
                try clear c26b1
                try clear c26b2
                try clear c58
                try clear c58b0
                try clear c58b1
                try clear c58b2
                try clear c59
                try clear c59b0
                try clear c59b1
                try clear c60
                try clear c60b0
                try clear c60b1
                try clear c60b2
                try clear c62
                try clear c63
                try clear c63b0
                try clear c63b1
                try clear c63b2
                try clear p64
                try clear c70
                try clear c72
                try clear c73
                try clear c73b0
                try clear c74
                try clear p2
                try clear p6
                try clear p64
                obtain ⟨x226_6, rfl, HA, HK6, HO_24, HO_224, HB⟩ := hrel
                cases gk with
                | zero => exact absurd HA.out (by simp [laws_FnFollows.l0])
                | succ k6 =>
                 have H := HA.out
                 clear HA
                 simp only [laws_FnFollows.l0] at H
                 by_cases c78 : x226_6 < (t560.length : Int)
                 ·rw [if_pos c78] at H
                  have c78b0 : decide (x226_6 < (t560.length : Int)) = true := decide_eq_true c78
                  clear c78
                  by_cases c79 : 0 ≤ x226_6
                  ·rw [if_pos c79] at H
                   have c79b0 : decide (0 ≤ x226_6) = true := decide_eq_true c79
                   clear c79
                   by_cases c80 : x226_6 < (t560.length : Int)
                   ·rw [if_pos c80] at H
                    have c80b0 : decide (x226_6 < (t560.length : Int)) = true := decide_eq_true c80
                    clear c80
                    obtain ⟨y589, hy589⟩ : ∃ y_ : List Int, y_ = (([rd t560 x226_6] : List Int)) := ⟨_, rfl⟩
                    replace H : ((impl_SolveWith.f k6 t556 t557 y589).bind fun bt592 => (if t583 = true then (if bt592.2.2.2 = true then (if (bt592.1 != t580) = true then (none) else (laws_FnFollows.l0 k6 t556 t557 t580 t583 t560 (t560.length : Int) (wrap64 (x226_6 + 1)))) else (laws_FnFollows.l0 k6 t556 t557 t580 t583 t560 (t560.length : Int) (wrap64 (x226_6 + 1)))) else (laws_FnFollows.l0 k6 t556 t557 t580 t583 t560 (t560.length : Int) (wrap64 (x226_6 + 1))))) = some r := by first | (rw [hy589]; with_reducible exact H) | (have H2_ := (Option.bind_some _ _).symm.trans H; rw [hy589]; with_reducible exact H2_) | (have H2_ := (Option.bind_some _ _).symm.trans H; with_reducible exact H2_) | with_reducible exact H | (rw [hy589]; exact H) | exact H
                    have Ny589 := Aside0.mk hy589
                    clear hy589
                    replace H := Option.bind_eq_some_iff.mp H
                    obtain ⟨⟨t592, t593, t594, t595⟩, A810, H⟩ := H
                    replace H : (if t583 = true then (if t595 = true then (if (t592 != t580) = true then (none) else (laws_FnFollows.l0 k6 t556 t557 t580 t583 t560 (t560.length : Int) (wrap64 (x226_6 + 1)))) else (laws_FnFollows.l0 k6 t556 t557 t580 t583 t560 (t560.length : Int) (wrap64 (x226_6 + 1)))) else (laws_FnFollows.l0 k6 t556 t557 t580 t583 t560 (t560.length : Int) (wrap64 (x226_6 + 1)))) = some r := H
                    have A81 := Aside0.mk A810
                    clear A810
                    by_cases c82 : t583 = true
                    ·subst c82
                     have H1 : (if t595 = true then (if (t592 != t580) = true then (none) else (laws_FnFollows.l0 k6 t556 t557 t580 true t560 (t560.length : Int) (wrap64 (x226_6 + 1)))) else (laws_FnFollows.l0 k6 t556 t557 t580 true t560 (t560.length : Int) (wrap64 (x226_6 + 1)))) = some r := by rw [if_pos rfl] at H; exact H
                     clear H
                     have H := H1
                     clear H1
                     by_cases c83 : t595 = true
                     ·subst c83
                      have H1 : (if (t592 != t580) = true then (none) else (laws_FnFollows.l0 k6 t556 t557 t580 true t560 (t560.length : Int) (wrap64 (x226_6 + 1)))) = some r := by rw [if_pos rfl] at H; exact H
                      clear H
                      have H := H1
                      clear H1
                      by_cases c84 : (t592 != t580) = true
                      ·rw [if_pos c84] at H
                       exact absurd H (by simp)
                      ·rw [if_neg c84] at H
                       have c84b0 : (t592 != t580) = false := by simpa using c84
                       (try (have c84b1 : decide (t592 = t580) = true := by simpa using c84))
                       (try (have c84b2 : (t592 == t580) = true := by simpa using c84))
                       clear c84
                       have H' := Aside0.mk H
                       clear H
                       have p588 : 0 ≤ (x226_6 : Int) := of_decide_eq_true (by assumption)
                       have q588 : x226_6 < (t560.length : Int) := of_decide_eq_true (by assumption)
                       obtain ⟨ad588, e588, hx588_0⟩ := Kd.at_int (Kd.R_reads' HO_224.out).2.2 x226_6 p588 q588
                       cases e588
                       replace p588 := eq_true p588
                       replace q588 := eq_true q588
                       go_wp2_with (first | ((with_reducible refine gate_dst (N := 234) rfl ?_); (try (refine gate_guard (by rfl) ?_; dsimp only)); refine Kd.R_lit (Kd.int .i64) _ 3 ?hg (N := 234) ?hd (xs := ([rd t560 x226_6] : List Int)) (inner := [.int .i64 (rd t560 x226_6)]) (ok := fun _ => True) (okp := fun _ => True) ?hr ?hp (fun _ hk => hk) trivial (Below.refl _ _) (Nat.le_refl _) (by simp) ?_; (case hd => rfl); (case hg => rfl); (case hr => first | (go_simp; done) | (go_simp; rfl)); (case hp => exact (Reps.one (show Kd.M (Kd.int .i64) _ _ _ (rd t560 x226_6) [.int .i64 (rd t560 x226_6)] from rfl) (Reps.none _ _))); intro v590 w85 ho86 hb hg_ hnew_; clear hg_ hnew_; (first | rw [← Ny589.out] at ho86 | (simp only [Int.reduceToNat] at ho86; rw [← Ny589.out] at ho86)); have n0_ := Aside0.mk (Kd.N_below (zN_ HO_24.out) hb); have n1_ := Aside0.mk (Kd.R_below (zR_ HO_224.out) hb); have n2_ := Aside0.mk (Kd.R_mono (ok' := fun _ => True) (Kd.R_lower ho86 (below_size (zb_ HB.out))) (fun _ _ => trivial)); have n3_ := Aside0.mk (below_step (zb_ HB.out) hb); clear HO_24; clear HO_224; clear HB; have HO_24 := n0_; have HO_224 := n1_; have HO591 := n2_; have HB := n3_; clear n0_ n1_ n2_ n3_; clear hb ho86; obtain ⟨Ao87, co87, eo87⟩ := Kd.R_slice HO591.out; subst eo87) | ((with_reducible refine gate_callee (f := 22) rfl ?_); refine goesL_ (some 235) rfl rfl Try.func22 (by kernel_rfl) rfl #[.int .i64 t556, .slice Ao50 t557.length co50, .slice Ao87 y589.length co87] rfl (by simp only [zA_, zB_, zD_] <;> rfl) ?_; (with_reducible refine (impl_SolveWith.calls k6 t556 _ _ t557 _ _ y589 t592 t593 t594 true _ ?side1 ?side2 ?side3 ?side4 A81.out).mono ?_); (case side1 => exact zC_ (Kd.N_reads' HO_24.out).2.2); (case side2 => exact (Kd.N_reads' HO_24.out).2.1); (case side3 => exact zC_ (Kd.R_reads' HO591.out).2.2); (case side4 => exact (Kd.R_reads' HO591.out).2.1); rintro e w88 ⟨v596, v598, rfl, ho0, ho1, hb⟩; refine ⟨_, rfl, ?_⟩; have n0_ := Aside0.mk (Kd.N_below (zN_ HO_24.out) hb); have n1_ := Aside0.mk (Kd.R_below (zR_ HO_224.out) hb); have n2_ := Aside0.mk (Kd.R_below (zR_ HO591.out) hb); have n3_ := Aside0.mk (Kd.R_mono (ok' := fun _ => True) (Kd.R_lower ho0 (below_size (zb_ HB.out))) (fun _ _ => trivial)); have n4_ := Aside0.mk (Kd.N_lower (by first | exact ho1 | exact Kd.S_N ho1 | exact Kd.R_N ho1) (below_size (zb_ HB.out))); have n5_ := Aside0.mk (below_step (zb_ HB.out) hb); clear HO_24; clear HO_224; clear HO591; clear HB; have HO_24 := n0_; have HO_224 := n1_; have HO591 := n2_; have HO597 := n3_; have HO599 := n4_; have HB := n5_; clear n0_ n1_ n2_ n3_ n4_ n5_; (try clear hb); (try clear hb2); (try clear hk); (try clear hi); (try clear ho0); (try clear ho1)))
                       go_roundg k6
                       case measure => have := HJ6.out; have := HJ14.out; have := HJ17.out; have := HJ42.out; have := HJ70.out; have := HK6.out; omega
                       case rel => exact ⟨(wrap64 (x226_6 + 1)), (by first | rfl | (simp; done) | (simp [*]; done)), H', ⟨by have := HJ6.out; have := HJ14.out; have := HJ17.out; have := HJ42.out; have := HJ70.out; have := HK6.out; omega⟩, ⟨Kd.N_mono (zN_ HO_24.out) (fun _ _ => trivial)⟩, ⟨Kd.R_mono (zR_ HO_224.out) (fun _ _ => trivial)⟩, ⟨zb_ HB.out⟩⟩
                     ·replace c83 := Bool.eq_false_iff.mpr c83
                      subst c83
                      have H1 : (laws_FnFollows.l0 k6 t556 t557 t580 true t560 (t560.length : Int) (wrap64 (x226_6 + 1))) = some r := by rw [if_neg (show ¬ (false = true) by decide)] at H; exact H
                      clear H
                      have H := H1
                      clear H1
                      have H' := Aside0.mk H
                      clear H
                      have p588 : 0 ≤ (x226_6 : Int) := of_decide_eq_true (by assumption)
                      have q588 : x226_6 < (t560.length : Int) := of_decide_eq_true (by assumption)
                      obtain ⟨ad588, e588, hx588_0⟩ := Kd.at_int (Kd.R_reads' HO_224.out).2.2 x226_6 p588 q588
                      cases e588
                      replace p588 := eq_true p588
                      replace q588 := eq_true q588
                      go_wp2_with (first | ((with_reducible refine gate_dst (N := 234) rfl ?_); (try (refine gate_guard (by rfl) ?_; dsimp only)); refine Kd.R_lit (Kd.int .i64) _ 3 ?hg (N := 234) ?hd (xs := ([rd t560 x226_6] : List Int)) (inner := [.int .i64 (rd t560 x226_6)]) (ok := fun _ => True) (okp := fun _ => True) ?hr ?hp (fun _ hk => hk) trivial (Below.refl _ _) (Nat.le_refl _) (by simp) ?_; (case hd => rfl); (case hg => rfl); (case hr => first | (go_simp; done) | (go_simp; rfl)); (case hp => exact (Reps.one (show Kd.M (Kd.int .i64) _ _ _ (rd t560 x226_6) [.int .i64 (rd t560 x226_6)] from rfl) (Reps.none _ _))); intro v590 w89 ho90 hb hg_ hnew_; clear hg_ hnew_; (first | rw [← Ny589.out] at ho90 | (simp only [Int.reduceToNat] at ho90; rw [← Ny589.out] at ho90)); have n0_ := Aside0.mk (Kd.N_below (zN_ HO_24.out) hb); have n1_ := Aside0.mk (Kd.R_below (zR_ HO_224.out) hb); have n2_ := Aside0.mk (Kd.R_mono (ok' := fun _ => True) (Kd.R_lower ho90 (below_size (zb_ HB.out))) (fun _ _ => trivial)); have n3_ := Aside0.mk (below_step (zb_ HB.out) hb); clear HO_24; clear HO_224; clear HB; have HO_24 := n0_; have HO_224 := n1_; have HO591 := n2_; have HB := n3_; clear n0_ n1_ n2_ n3_; clear hb ho90; obtain ⟨Ao91, co91, eo91⟩ := Kd.R_slice HO591.out; subst eo91) | ((with_reducible refine gate_callee (f := 22) rfl ?_); refine goesL_ (some 235) rfl rfl Try.func22 (by kernel_rfl) rfl #[.int .i64 t556, .slice Ao50 t557.length co50, .slice Ao91 y589.length co91] rfl (by simp only [zA_, zB_, zD_] <;> rfl) ?_; (with_reducible refine (impl_SolveWith.calls k6 t556 _ _ t557 _ _ y589 t592 t593 t594 false _ ?side1 ?side2 ?side3 ?side4 A81.out).mono ?_); (case side1 => exact zC_ (Kd.N_reads' HO_24.out).2.2); (case side2 => exact (Kd.N_reads' HO_24.out).2.1); (case side3 => exact zC_ (Kd.R_reads' HO591.out).2.2); (case side4 => exact (Kd.R_reads' HO591.out).2.1); rintro e w92 ⟨v596, v598, rfl, ho0, ho1, hb⟩; refine ⟨_, rfl, ?_⟩; have n0_ := Aside0.mk (Kd.N_below (zN_ HO_24.out) hb); have n1_ := Aside0.mk (Kd.R_below (zR_ HO_224.out) hb); have n2_ := Aside0.mk (Kd.R_below (zR_ HO591.out) hb); have n3_ := Aside0.mk (Kd.R_mono (ok' := fun _ => True) (Kd.R_lower ho0 (below_size (zb_ HB.out))) (fun _ _ => trivial)); have n4_ := Aside0.mk (Kd.N_lower (by first | exact ho1 | exact Kd.S_N ho1 | exact Kd.R_N ho1) (below_size (zb_ HB.out))); have n5_ := Aside0.mk (below_step (zb_ HB.out) hb); clear HO_24; clear HO_224; clear HO591; clear HB; have HO_24 := n0_; have HO_224 := n1_; have HO591 := n2_; have HO597 := n3_; have HO599 := n4_; have HB := n5_; clear n0_ n1_ n2_ n3_ n4_ n5_; (try clear hb); (try clear hb2); (try clear hk); (try clear hi); (try clear ho0); (try clear ho1)))
                      go_roundg k6
                      case measure => have := HJ6.out; have := HJ14.out; have := HJ17.out; have := HJ42.out; have := HJ70.out; have := HK6.out; omega
                      case rel => exact ⟨(wrap64 (x226_6 + 1)), (by first | rfl | (simp; done) | (simp [*]; done)), H', ⟨by have := HJ6.out; have := HJ14.out; have := HJ17.out; have := HJ42.out; have := HJ70.out; have := HK6.out; omega⟩, ⟨Kd.N_mono (zN_ HO_24.out) (fun _ _ => trivial)⟩, ⟨Kd.R_mono (zR_ HO_224.out) (fun _ _ => trivial)⟩, ⟨zb_ HB.out⟩⟩
                    ·replace c82 := Bool.eq_false_iff.mpr c82
                     subst c82
                     have H1 : (laws_FnFollows.l0 k6 t556 t557 t580 false t560 (t560.length : Int) (wrap64 (x226_6 + 1))) = some r := by rw [if_neg (show ¬ (false = true) by decide)] at H; exact H
                     clear H
                     have H := H1
                     clear H1
                     have H' := Aside0.mk H
                     clear H
                     have p588 : 0 ≤ (x226_6 : Int) := of_decide_eq_true (by assumption)
                     have q588 : x226_6 < (t560.length : Int) := of_decide_eq_true (by assumption)
                     obtain ⟨ad588, e588, hx588_0⟩ := Kd.at_int (Kd.R_reads' HO_224.out).2.2 x226_6 p588 q588
                     cases e588
                     replace p588 := eq_true p588
                     replace q588 := eq_true q588
                     go_wp2_with (first | ((with_reducible refine gate_dst (N := 234) rfl ?_); (try (refine gate_guard (by rfl) ?_; dsimp only)); refine Kd.R_lit (Kd.int .i64) _ 3 ?hg (N := 234) ?hd (xs := ([rd t560 x226_6] : List Int)) (inner := [.int .i64 (rd t560 x226_6)]) (ok := fun _ => True) (okp := fun _ => True) ?hr ?hp (fun _ hk => hk) trivial (Below.refl _ _) (Nat.le_refl _) (by simp) ?_; (case hd => rfl); (case hg => rfl); (case hr => first | (go_simp; done) | (go_simp; rfl)); (case hp => exact (Reps.one (show Kd.M (Kd.int .i64) _ _ _ (rd t560 x226_6) [.int .i64 (rd t560 x226_6)] from rfl) (Reps.none _ _))); intro v590 w93 ho94 hb hg_ hnew_; clear hg_ hnew_; (first | rw [← Ny589.out] at ho94 | (simp only [Int.reduceToNat] at ho94; rw [← Ny589.out] at ho94)); have n0_ := Aside0.mk (Kd.N_below (zN_ HO_24.out) hb); have n1_ := Aside0.mk (Kd.R_below (zR_ HO_224.out) hb); have n2_ := Aside0.mk (Kd.R_mono (ok' := fun _ => True) (Kd.R_lower ho94 (below_size (zb_ HB.out))) (fun _ _ => trivial)); have n3_ := Aside0.mk (below_step (zb_ HB.out) hb); clear HO_24; clear HO_224; clear HB; have HO_24 := n0_; have HO_224 := n1_; have HO591 := n2_; have HB := n3_; clear n0_ n1_ n2_ n3_; clear hb ho94; obtain ⟨Ao95, co95, eo95⟩ := Kd.R_slice HO591.out; subst eo95) | ((with_reducible refine gate_callee (f := 22) rfl ?_); refine goesL_ (some 235) rfl rfl Try.func22 (by kernel_rfl) rfl #[.int .i64 t556, .slice Ao50 t557.length co50, .slice Ao95 y589.length co95] rfl (by simp only [zA_, zB_, zD_] <;> rfl) ?_; (with_reducible refine (impl_SolveWith.calls k6 t556 _ _ t557 _ _ y589 t592 t593 t594 t595 _ ?side1 ?side2 ?side3 ?side4 A81.out).mono ?_); (case side1 => exact zC_ (Kd.N_reads' HO_24.out).2.2); (case side2 => exact (Kd.N_reads' HO_24.out).2.1); (case side3 => exact zC_ (Kd.R_reads' HO591.out).2.2); (case side4 => exact (Kd.R_reads' HO591.out).2.1); rintro e w96 ⟨v596, v598, rfl, ho0, ho1, hb⟩; refine ⟨_, rfl, ?_⟩; have n0_ := Aside0.mk (Kd.N_below (zN_ HO_24.out) hb); have n1_ := Aside0.mk (Kd.R_below (zR_ HO_224.out) hb); have n2_ := Aside0.mk (Kd.R_below (zR_ HO591.out) hb); have n3_ := Aside0.mk (Kd.R_mono (ok' := fun _ => True) (Kd.R_lower ho0 (below_size (zb_ HB.out))) (fun _ _ => trivial)); have n4_ := Aside0.mk (Kd.N_lower (by first | exact ho1 | exact Kd.S_N ho1 | exact Kd.R_N ho1) (below_size (zb_ HB.out))); have n5_ := Aside0.mk (below_step (zb_ HB.out) hb); clear HO_24; clear HO_224; clear HO591; clear HB; have HO_24 := n0_; have HO_224 := n1_; have HO591 := n2_; have HO597 := n3_; have HO599 := n4_; have HB := n5_; clear n0_ n1_ n2_ n3_ n4_ n5_; (try clear hb); (try clear hb2); (try clear hk); (try clear hi); (try clear ho0); (try clear ho1)))
                     go_roundg k6
                     case measure => have := HJ6.out; have := HJ14.out; have := HJ17.out; have := HJ42.out; have := HJ70.out; have := HK6.out; omega
                     case rel => exact ⟨(wrap64 (x226_6 + 1)), (by first | rfl | (simp; done) | (simp [*]; done)), H', ⟨by have := HJ6.out; have := HJ14.out; have := HJ17.out; have := HJ42.out; have := HJ70.out; have := HK6.out; omega⟩, ⟨Kd.N_mono (zN_ HO_24.out) (fun _ _ => trivial)⟩, ⟨Kd.R_mono (zR_ HO_224.out) (fun _ _ => trivial)⟩, ⟨zb_ HB.out⟩⟩
                   ·rw [if_neg c80] at H
                    exact absurd H (by simp)
                  ·rw [if_neg c79] at H
                   exact absurd H (by simp)
                 ·rw [if_neg c78] at H
                  have c78b0 : decide (x226_6 < (t560.length : Int)) = false := decide_eq_false c78
                  clear c78
                  obtain rfl := Option.some.inj H
                  go_wp2
                  go_ret
                  exact ⟨by first | rfl | (simp [errW_none, errW_some] <;> rfl) | (simp [*, errW_none, errW_some] <;> rfl), zb_ HB.out⟩
              ·replace c74 := Bool.eq_false_iff.mpr c74
               subst c74
               have H1 : (some true) = some r := by rw [if_neg (show ¬ (false = true) by decide)] at H; exact H
               clear H
               have H := H1
               clear H1
               obtain rfl := Option.some.inj H
               go_wp2
               go_ret
               exact ⟨by first | rfl | (simp [errW_none, errW_some] <;> rfl) | (simp [*, errW_none, errW_some] <;> rfl), zb_ HB.out⟩
/-- THE ONE PURE STATEMENT of laws_FnFollows: yours. -/
def laws_FnFollows.Pure : Prop := ∀ (l0 : List Int) (l1 : List Int), l0.length ≤ maxLen → l0.length * 1 ≤ 140737488351232 → (∀ x ∈ l0, (Lit.int .u8 x).wf = true) → l1.length ≤ maxLen → l1.length * 1 ≤ 140737488351232 → (∀ x ∈ l1, (Lit.int .u8 x).wf = true) → ∃ k, laws_FnFollows.f k l0 l1 = some true
theorem laws_FnFollows.walk (P : laws_FnFollows.Pure) (a0 : Option Addr) (len0 cap0 : Nat) (z0 : List Int) (a1 : Option Addr) (len1 cap1 : Nat) (z1 : List Int) (w : World) (w0 : (a0 = none ∧ len0 = 0 ∧ cap0 = 0 ∧ z0 = []) ∨ ∃ x, a0 = some x ∧ len0 ≤ cap0 ∧ cap0 ≤ maxLen ∧ z0.length = cap0 ∧ (∀ i, i < z0.length → w.cell? (x.add i) = some (.int .u8 (z0.getD i 0))) ∧ ∀ n ∈ z0, (Lit.int .u8 n).wf = true) (y0 : len0 * 1 ≤ 140737488351232) (w1 : (a1 = none ∧ len1 = 0 ∧ cap1 = 0 ∧ z1 = []) ∨ ∃ x, a1 = some x ∧ len1 ≤ cap1 ∧ cap1 ≤ maxLen ∧ z1.length = cap1 ∧ (∀ i, i < z1.length → w.cell? (x.add i) = some (.int .u8 (z1.getD i 0))) ∧ ∀ n ∈ z1, (Lit.int .u8 n).wf = true) (y1 : len1 * 1 ≤ 140737488351232) :
  Calls Try.prog 3 #[.slice a0 len0 cap0, .slice a1 len1 cap1] w fun e w' => e = .returned (.bool true) ∧ Below w.heap.size w w' := by
 obtain ⟨l0, rfl, hr0, hm0, hw0, hc0⟩ := ReadsInt.ofRowC w0
 obtain ⟨l1, rfl, hr1, hm1, hw1, hc1⟩ := ReadsInt.ofRowC w1
 obtain ⟨k, h⟩ := P l0 l1 hm0 y0 hw0 hm1 y1 hw1
 refine (laws_FnFollows.calls k _ _ l0 _ _ l1 true w (Kd.C_of_reads (d := (0 : Int)) (h1 := fun _ => rfl) hr0) hc0 (Kd.C_of_reads (d := (0 : Int)) (h1 := fun _ => rfl) hr1) hc1 h).mono ?_
 rintro e w' ⟨rfl, hd⟩
 exact ⟨rfl, hd⟩
end Go.Proofs.Ytpkbjgmeejlchab.PFnFollows
-- squeezed
