-- Made by a program of this session (wip/tools), which leans on the kit's print: checked by Lean alone.
import Derived.Test.YtpkbjgmeejlchaaPFnTrimmedx0
import Derived.Test.YtpkbjgmeejlchaaPFnTrimmedx2
import Derived.Test.YtpkbjgmeejlchaaPFnTrimmedx3
import Derived.Test.YtpkbjgmeejlchaaPFnTrimmedx8
import Derived.Test.YtpkbjgmeejlchaaPFnTrimmedx9
import Derived.Test.YtpkbjgmeejlchaaPFnTrimmedx10
import Derived.Test.YtpkbjgmeejlchaaPFnTrimmedx11
import Derived.Test.YtpkbjgmeejlchaaPFnTrimmedx12
import Derived.Test.YtpkbjgmeejlchaaPFnTrimmedx13
import Derived.Test.YtpkbjgmeejlchaaPFnTrimmedx14
namespace Go.Proofs.Ytpkbjgmeejlchaa.PFnTrimmed
open Go.RowKit Go.Proofs.YtpkbjgmeejlchaaW.PrintWords Go.Proofs.YtpkbjgmeejlchaaW.PrintLast Go.Proofs.YtpkbjgmeejlchaaW.PrintMore
attribute [local go_sem] max2_int min2_int max_two min_two max_three min_three max_four min_four   -- for this text's walks alone
set_option linter.unusedVariables false
set_option linter.unusedSimpArgs false
mutual
def laws_FnTrimmed.j0 : Nat → List Int → Int → List (List Int) → List (List Int) → List (List Int) → Bool → List Int → Bool → Option (Bool)
 | 0, _, _, _, _, _, _, _, _ => none
 | k + 1, x1, x5, x6, x7, x8, x9, x12, x99 => if x99 = true then (none) else (if x9 = true then ((impl_CheckProof.f k x5 x6 x8).bind fun bt549 => (if bt549.2.2 = true then (if bt549.1 = true then (if bt549.2.1 = (x8.length : Int) then (if (x8.length : Int) = (x12.length : Int) then (laws_FnTrimmed.j1 k x1 x5 x6 x7 x8 x12 (decide ((x8.length : Int) > (x7.length : Int)))) else (laws_FnTrimmed.j1 k x1 x5 x6 x7 x8 x12 true)) else (laws_FnTrimmed.j1 k x1 x5 x6 x7 x8 x12 true)) else (laws_FnTrimmed.j1 k x1 x5 x6 x7 x8 x12 true)) else (laws_FnTrimmed.j1 k x1 x5 x6 x7 x8 x12 true))) else (laws_FnTrimmed.j3 k x1))
def laws_FnTrimmed.j3 : Nat → List Int → Option (Bool)
 | 0, _ => none
 | k + 1, x1 => (spec_DrawIsAtOnce.f k x1).bind fun bt579 => ((impl_IsAtOnce.f k bt579.1 bt579.2.1 bt579.2.2).bind fun bt586 => ((spec_IsAtOnce.f k bt579.1 bt579.2.1 bt579.2.2).bind fun bt588 => (if (bt586.2 != bt588.2) = true then (laws_FnTrimmed.j4 k bt579.1 bt579.2.1 bt579.2.2 bt586.1 bt586.2 true) else (laws_FnTrimmed.j4 k bt579.1 bt579.2.1 bt579.2.2 bt586.1 bt586.2 (bt586.1 != bt588.1)))))
def laws_FnTrimmed.j4 : Nat → Int → List (List Int) → List Int → Bool → Bool → Bool → Option (Bool)
 | 0, _, _, _, _, _, _ => none
 | k + 1, x26, x27, x28, x29, x30, x208 => if x208 = true then (none) else (if x30 = true then (if x29 = true then ((impl_FollowsFrom.f k x26 x27 x28).bind fun bt590 => (if bt590.2 = true then (some bt590.1) else (some true))) else (some true)) else (some true))
def laws_FnTrimmed.j1 : Nat → List Int → Int → List (List Int) → List (List Int) → List (List Int) → List Int → Bool → Option (Bool)
 | 0, _, _, _, _, _, _, _ => none
 | k + 1, x1, x5, x6, x7, x8, x12, x134 => if x134 = true then (none) else (laws_FnTrimmed.l0 k x1 x5 x6 x7 x8 x12 (x12.length : Int) 0)
def laws_FnTrimmed.l0 : Nat → List Int → Int → List (List Int) → List (List Int) → List (List Int) → List Int → Int → Int → Option (Bool)
 | 0, _, _, _, _, _, _, _, _ => none
 | k + 1, x1, x5, x6, x7, x8, x135, x136, x137 => if x137 < x136 then (if 0 ≤ x137 then (if x137 < (x135.length : Int) then (if x137 < (x8.length : Int) then (if 0 ≤ (rd x135 x137) then (if (rd x135 x137) < (x7.length : Int) then ((laws_sameInts.f k (rd_L1 x8 x137) (rd_L1 x7 (rd x135 x137))).bind fun t555 => (if t555 = true then (laws_FnTrimmed.l0 k x1 x5 x6 x7 x8 x135 x136 (wrap64 (x137 + 1))) else (none))) else (none)) else (none)) else (none)) else (none)) else (none)) else ((laws_numberOf.f k x1).bind fun t556 => (if (x8.length : Int) = 0 then (none) else ((some (([] : List (List Int)) : List (List Int))).bind fun y557 => (if 0 ≤ (Int.tmod t556 (x8.length : Int)) then (if (Int.tmod t556 (x8.length : Int)) ≤ (x8.length : Int) then ((some (x8.take ((Int.tmod t556 (x8.length : Int)) : Int).toNat : List (List Int))).bind fun y560 => (if y557.length + y560.length < 5864062014805 then ((some (y557 ++ y560 : List (List Int))).bind fun y565 => (if 0 ≤ (wrap64 ((Int.tmod t556 (x8.length : Int)) + 1)) then (if (wrap64 ((Int.tmod t556 (x8.length : Int)) + 1)) ≤ (x8.length : Int) then ((some (x8.drop ((wrap64 ((Int.tmod t556 (x8.length : Int)) + 1)) : Int).toNat : List (List Int))).bind fun y568 => (if y565.length + y568.length < 5864062014805 then ((impl_CheckProof.f k x5 x6 (y565 ++ y568)).bind fun bt576 => (if bt576.2.2 = true then (if bt576.1 = true then (none) else (laws_FnTrimmed.j3 k x1)) else (none))) else (none))) else (none)) else (none))) else (none))) else (none)) else (none)))))
end
def laws_FnTrimmed.f (k : Nat) (l0 : List Int) (l1 : List Int) : Option (Bool) := if (wrap64 ((l0.length : Int) + (l1.length : Int))) > 1048576 then (some true) else ((spec_DrawTrimProof.f k l0).bind fun bt524 => ((impl_TrimProof.f k bt524.1 bt524.2.1 bt524.2.2).bind fun bt531 => ((spec_TrimProof.f k bt524.1 bt524.2.1 bt524.2.2).bind fun bt535 => ((impl_NeededIn.f k bt524.1 bt524.2.1 bt524.2.2).bind fun bt539 => ((spec_NeededIn.f k bt524.1 bt524.2.1 bt524.2.2).bind fun bt543 => (if (bt531.2 != bt535.2) = true then (laws_FnTrimmed.j0 k l1 bt524.1 bt524.2.1 bt524.2.2 bt531.1 bt531.2 bt539.1 true) else ((laws_sameRows.f k bt531.1 bt535.1).bind fun t547 => (if t547 = true then (if (bt539.2 != bt543.2) = true then (laws_FnTrimmed.j0 k l1 bt524.1 bt524.2.1 bt524.2.2 bt531.1 bt531.2 bt539.1 true) else ((laws_sameInts.f k bt539.1 bt543.1).bind fun t548 => (if t548 = true then (laws_FnTrimmed.j0 k l1 bt524.1 bt524.2.1 bt524.2.2 bt531.1 bt531.2 bt539.1 (bt531.2 != bt539.2)) else (laws_FnTrimmed.j0 k l1 bt524.1 bt524.2.1 bt524.2.2 bt531.1 bt531.2 bt539.1 true)))) else (laws_FnTrimmed.j0 k l1 bt524.1 bt524.2.1 bt524.2.2 bt531.1 bt531.2 bt539.1 true)))))))))
theorem laws_FnTrimmed.mono_l : ∀ k, (∀ y0 y1 y2 y3 y4 y5 y6 y7, LeO (laws_FnTrimmed.j0 k y0 y1 y2 y3 y4 y5 y6 y7) (laws_FnTrimmed.j0 (k + 1) y0 y1 y2 y3 y4 y5 y6 y7)) ∧ (∀ y0, LeO (laws_FnTrimmed.j3 k y0) (laws_FnTrimmed.j3 (k + 1) y0)) ∧ (∀ y0 y1 y2 y3 y4 y5, LeO (laws_FnTrimmed.j4 k y0 y1 y2 y3 y4 y5) (laws_FnTrimmed.j4 (k + 1) y0 y1 y2 y3 y4 y5)) ∧ (∀ y0 y1 y2 y3 y4 y5 y6, LeO (laws_FnTrimmed.j1 k y0 y1 y2 y3 y4 y5 y6) (laws_FnTrimmed.j1 (k + 1) y0 y1 y2 y3 y4 y5 y6)) ∧ (∀ y0 y1 y2 y3 y4 y5 y6 y7, LeO (laws_FnTrimmed.l0 k y0 y1 y2 y3 y4 y5 y6 y7) (laws_FnTrimmed.l0 (k + 1) y0 y1 y2 y3 y4 y5 y6 y7))
 | 0 => ⟨fun _ _ _ _ _ _ _ _ r h => by simp [laws_FnTrimmed.j0] at h, fun _ r h => by simp [laws_FnTrimmed.j3] at h, fun _ _ _ _ _ _ r h => by simp [laws_FnTrimmed.j4] at h, fun _ _ _ _ _ _ _ r h => by simp [laws_FnTrimmed.j1] at h, fun _ _ _ _ _ _ _ _ r h => by simp [laws_FnTrimmed.l0] at h⟩
 | k + 1 => by
  obtain ⟨ih0, ih1, ih2, ih3, ih4⟩ := laws_FnTrimmed.mono_l k
  refine ⟨?_, ?_, ?_, ?_, ?_⟩
  ·intro y0 y1 y2 y3 y4 y5 y6 y7
   unfold laws_FnTrimmed.j0
   repeat' first
   | (with_reducible exact ih0 _ _ _ _ _ _ _ _)
   | (with_reducible exact ih1 _)
   | (with_reducible exact ih2 _ _ _ _ _ _)
   | (with_reducible exact ih3 _ _ _ _ _ _ _)
   | (with_reducible exact ih4 _ _ _ _ _ _ _ _)
   | (with_reducible exact impl_CheckProof.mono _ _ _ _)
   | (with_reducible exact impl_FollowsFrom.mono _ _ _ _)
   | (with_reducible exact impl_IsAtOnce.mono _ _ _ _)
   | (with_reducible exact impl_NeededIn.mono _ _ _ _)
   | (with_reducible exact impl_TrimProof.mono _ _ _ _)
   | (with_reducible exact laws_numberOf.mono _ _)
   | (with_reducible exact laws_sameInts.mono _ _ _)
   | (with_reducible exact laws_sameRows.mono _ _ _)
   | (with_reducible exact spec_DrawIsAtOnce.mono _ _)
   | (with_reducible exact spec_DrawTrimProof.mono _ _)
   | (with_reducible exact spec_IsAtOnce.mono _ _ _ _)
   | (with_reducible exact spec_NeededIn.mono _ _ _ _)
   | (with_reducible exact spec_TrimProof.mono _ _ _ _)
   | (with_reducible exact LeO.refl _)
   | (with_reducible exact LeO.none _)
   | (with_reducible refine LeO.ite ?_ ?_)
   | (with_reducible refine LeO.bind ?_ (fun _ => ?_))
   | exact ih0 _ _ _ _ _ _ _ _
   | exact ih1 _
   | exact ih2 _ _ _ _ _ _
   | exact ih3 _ _ _ _ _ _ _
   | exact ih4 _ _ _ _ _ _ _ _
   | exact impl_CheckProof.mono _ _ _ _
   | exact impl_FollowsFrom.mono _ _ _ _
   | exact impl_IsAtOnce.mono _ _ _ _
   | exact impl_NeededIn.mono _ _ _ _
   | exact impl_TrimProof.mono _ _ _ _
   | exact laws_numberOf.mono _ _
   | exact laws_sameInts.mono _ _ _
   | exact laws_sameRows.mono _ _ _
   | exact spec_DrawIsAtOnce.mono _ _
   | exact spec_DrawTrimProof.mono _ _
   | exact spec_IsAtOnce.mono _ _ _ _
   | exact spec_NeededIn.mono _ _ _ _
   | exact spec_TrimProof.mono _ _ _ _
   | exact LeO.none _
   | refine LeO.ite ?_ ?_
   | refine LeO.bind ?_ (fun _ => ?_)
  ·intro y0
   unfold laws_FnTrimmed.j3
   repeat' first
   | (with_reducible exact ih0 _ _ _ _ _ _ _ _)
   | (with_reducible exact ih1 _)
   | (with_reducible exact ih2 _ _ _ _ _ _)
   | (with_reducible exact ih3 _ _ _ _ _ _ _)
   | (with_reducible exact ih4 _ _ _ _ _ _ _ _)
   | (with_reducible exact impl_CheckProof.mono _ _ _ _)
   | (with_reducible exact impl_FollowsFrom.mono _ _ _ _)
   | (with_reducible exact impl_IsAtOnce.mono _ _ _ _)
   | (with_reducible exact impl_NeededIn.mono _ _ _ _)
   | (with_reducible exact impl_TrimProof.mono _ _ _ _)
   | (with_reducible exact laws_numberOf.mono _ _)
   | (with_reducible exact laws_sameInts.mono _ _ _)
   | (with_reducible exact laws_sameRows.mono _ _ _)
   | (with_reducible exact spec_DrawIsAtOnce.mono _ _)
   | (with_reducible exact spec_DrawTrimProof.mono _ _)
   | (with_reducible exact spec_IsAtOnce.mono _ _ _ _)
   | (with_reducible exact spec_NeededIn.mono _ _ _ _)
   | (with_reducible exact spec_TrimProof.mono _ _ _ _)
   | (with_reducible exact LeO.refl _)
   | (with_reducible exact LeO.none _)
   | (with_reducible refine LeO.ite ?_ ?_)
   | (with_reducible refine LeO.bind ?_ (fun _ => ?_))
   | exact ih0 _ _ _ _ _ _ _ _
   | exact ih1 _
   | exact ih2 _ _ _ _ _ _
   | exact ih3 _ _ _ _ _ _ _
   | exact ih4 _ _ _ _ _ _ _ _
   | exact impl_CheckProof.mono _ _ _ _
   | exact impl_FollowsFrom.mono _ _ _ _
   | exact impl_IsAtOnce.mono _ _ _ _
   | exact impl_NeededIn.mono _ _ _ _
   | exact impl_TrimProof.mono _ _ _ _
   | exact laws_numberOf.mono _ _
   | exact laws_sameInts.mono _ _ _
   | exact laws_sameRows.mono _ _ _
   | exact spec_DrawIsAtOnce.mono _ _
   | exact spec_DrawTrimProof.mono _ _
   | exact spec_IsAtOnce.mono _ _ _ _
   | exact spec_NeededIn.mono _ _ _ _
   | exact spec_TrimProof.mono _ _ _ _
   | exact LeO.none _
   | refine LeO.ite ?_ ?_
   | refine LeO.bind ?_ (fun _ => ?_)
  ·intro y0 y1 y2 y3 y4 y5
   unfold laws_FnTrimmed.j4
   repeat' first
   | (with_reducible exact ih0 _ _ _ _ _ _ _ _)
   | (with_reducible exact ih1 _)
   | (with_reducible exact ih2 _ _ _ _ _ _)
   | (with_reducible exact ih3 _ _ _ _ _ _ _)
   | (with_reducible exact ih4 _ _ _ _ _ _ _ _)
   | (with_reducible exact impl_CheckProof.mono _ _ _ _)
   | (with_reducible exact impl_FollowsFrom.mono _ _ _ _)
   | (with_reducible exact impl_IsAtOnce.mono _ _ _ _)
   | (with_reducible exact impl_NeededIn.mono _ _ _ _)
   | (with_reducible exact impl_TrimProof.mono _ _ _ _)
   | (with_reducible exact laws_numberOf.mono _ _)
   | (with_reducible exact laws_sameInts.mono _ _ _)
   | (with_reducible exact laws_sameRows.mono _ _ _)
   | (with_reducible exact spec_DrawIsAtOnce.mono _ _)
   | (with_reducible exact spec_DrawTrimProof.mono _ _)
   | (with_reducible exact spec_IsAtOnce.mono _ _ _ _)
   | (with_reducible exact spec_NeededIn.mono _ _ _ _)
   | (with_reducible exact spec_TrimProof.mono _ _ _ _)
   | (with_reducible exact LeO.refl _)
   | (with_reducible exact LeO.none _)
   | (with_reducible refine LeO.ite ?_ ?_)
   | (with_reducible refine LeO.bind ?_ (fun _ => ?_))
   | exact ih0 _ _ _ _ _ _ _ _
   | exact ih1 _
   | exact ih2 _ _ _ _ _ _
   | exact ih3 _ _ _ _ _ _ _
   | exact ih4 _ _ _ _ _ _ _ _
   | exact impl_CheckProof.mono _ _ _ _
   | exact impl_FollowsFrom.mono _ _ _ _
   | exact impl_IsAtOnce.mono _ _ _ _
   | exact impl_NeededIn.mono _ _ _ _
   | exact impl_TrimProof.mono _ _ _ _
   | exact laws_numberOf.mono _ _
   | exact laws_sameInts.mono _ _ _
   | exact laws_sameRows.mono _ _ _
   | exact spec_DrawIsAtOnce.mono _ _
   | exact spec_DrawTrimProof.mono _ _
   | exact spec_IsAtOnce.mono _ _ _ _
   | exact spec_NeededIn.mono _ _ _ _
   | exact spec_TrimProof.mono _ _ _ _
   | exact LeO.none _
   | refine LeO.ite ?_ ?_
   | refine LeO.bind ?_ (fun _ => ?_)
  ·intro y0 y1 y2 y3 y4 y5 y6
   unfold laws_FnTrimmed.j1
   repeat' first
   | (with_reducible exact ih0 _ _ _ _ _ _ _ _)
   | (with_reducible exact ih1 _)
   | (with_reducible exact ih2 _ _ _ _ _ _)
   | (with_reducible exact ih3 _ _ _ _ _ _ _)
   | (with_reducible exact ih4 _ _ _ _ _ _ _ _)
   | (with_reducible exact impl_CheckProof.mono _ _ _ _)
   | (with_reducible exact impl_FollowsFrom.mono _ _ _ _)
   | (with_reducible exact impl_IsAtOnce.mono _ _ _ _)
   | (with_reducible exact impl_NeededIn.mono _ _ _ _)
   | (with_reducible exact impl_TrimProof.mono _ _ _ _)
   | (with_reducible exact laws_numberOf.mono _ _)
   | (with_reducible exact laws_sameInts.mono _ _ _)
   | (with_reducible exact laws_sameRows.mono _ _ _)
   | (with_reducible exact spec_DrawIsAtOnce.mono _ _)
   | (with_reducible exact spec_DrawTrimProof.mono _ _)
   | (with_reducible exact spec_IsAtOnce.mono _ _ _ _)
   | (with_reducible exact spec_NeededIn.mono _ _ _ _)
   | (with_reducible exact spec_TrimProof.mono _ _ _ _)
   | (with_reducible exact LeO.refl _)
   | (with_reducible exact LeO.none _)
   | (with_reducible refine LeO.ite ?_ ?_)
   | (with_reducible refine LeO.bind ?_ (fun _ => ?_))
   | exact ih0 _ _ _ _ _ _ _ _
   | exact ih1 _
   | exact ih2 _ _ _ _ _ _
   | exact ih3 _ _ _ _ _ _ _
   | exact ih4 _ _ _ _ _ _ _ _
   | exact impl_CheckProof.mono _ _ _ _
   | exact impl_FollowsFrom.mono _ _ _ _
   | exact impl_IsAtOnce.mono _ _ _ _
   | exact impl_NeededIn.mono _ _ _ _
   | exact impl_TrimProof.mono _ _ _ _
   | exact laws_numberOf.mono _ _
   | exact laws_sameInts.mono _ _ _
   | exact laws_sameRows.mono _ _ _
   | exact spec_DrawIsAtOnce.mono _ _
   | exact spec_DrawTrimProof.mono _ _
   | exact spec_IsAtOnce.mono _ _ _ _
   | exact spec_NeededIn.mono _ _ _ _
   | exact spec_TrimProof.mono _ _ _ _
   | exact LeO.none _
   | refine LeO.ite ?_ ?_
   | refine LeO.bind ?_ (fun _ => ?_)
  ·intro y0 y1 y2 y3 y4 y5 y6 y7
   unfold laws_FnTrimmed.l0
   repeat' first
   | (with_reducible exact ih0 _ _ _ _ _ _ _ _)
   | (with_reducible exact ih1 _)
   | (with_reducible exact ih2 _ _ _ _ _ _)
   | (with_reducible exact ih3 _ _ _ _ _ _ _)
   | (with_reducible exact ih4 _ _ _ _ _ _ _ _)
   | (with_reducible exact impl_CheckProof.mono _ _ _ _)
   | (with_reducible exact impl_FollowsFrom.mono _ _ _ _)
   | (with_reducible exact impl_IsAtOnce.mono _ _ _ _)
   | (with_reducible exact impl_NeededIn.mono _ _ _ _)
   | (with_reducible exact impl_TrimProof.mono _ _ _ _)
   | (with_reducible exact laws_numberOf.mono _ _)
   | (with_reducible exact laws_sameInts.mono _ _ _)
   | (with_reducible exact laws_sameRows.mono _ _ _)
   | (with_reducible exact spec_DrawIsAtOnce.mono _ _)
   | (with_reducible exact spec_DrawTrimProof.mono _ _)
   | (with_reducible exact spec_IsAtOnce.mono _ _ _ _)
   | (with_reducible exact spec_NeededIn.mono _ _ _ _)
   | (with_reducible exact spec_TrimProof.mono _ _ _ _)
   | (with_reducible exact LeO.refl _)
   | (with_reducible exact LeO.none _)
   | (with_reducible refine LeO.ite ?_ ?_)
   | (with_reducible refine LeO.bind ?_ (fun _ => ?_))
   | exact ih0 _ _ _ _ _ _ _ _
   | exact ih1 _
   | exact ih2 _ _ _ _ _ _
   | exact ih3 _ _ _ _ _ _ _
   | exact ih4 _ _ _ _ _ _ _ _
   | exact impl_CheckProof.mono _ _ _ _
   | exact impl_FollowsFrom.mono _ _ _ _
   | exact impl_IsAtOnce.mono _ _ _ _
   | exact impl_NeededIn.mono _ _ _ _
   | exact impl_TrimProof.mono _ _ _ _
   | exact laws_numberOf.mono _ _
   | exact laws_sameInts.mono _ _ _
   | exact laws_sameRows.mono _ _ _
   | exact spec_DrawIsAtOnce.mono _ _
   | exact spec_DrawTrimProof.mono _ _
   | exact spec_IsAtOnce.mono _ _ _ _
   | exact spec_NeededIn.mono _ _ _ _
   | exact spec_TrimProof.mono _ _ _ _
   | exact LeO.none _
   | refine LeO.ite ?_ ?_
   | refine LeO.bind ?_ (fun _ => ?_)
theorem laws_FnTrimmed.mono : ∀ a0 a1 k, LeO (laws_FnTrimmed.f k a0 a1) (laws_FnTrimmed.f (k + 1) a0 a1) := by
 intro a0 a1 k
 obtain ⟨ih0, ih1, ih2, ih3, ih4⟩ := laws_FnTrimmed.mono_l k
 unfold laws_FnTrimmed.f
 repeat' first
   | (with_reducible exact ih0 _ _ _ _ _ _ _ _)
   | (with_reducible exact ih1 _)
   | (with_reducible exact ih2 _ _ _ _ _ _)
   | (with_reducible exact ih3 _ _ _ _ _ _ _)
   | (with_reducible exact ih4 _ _ _ _ _ _ _ _)
   | (with_reducible exact impl_CheckProof.mono _ _ _ _)
   | (with_reducible exact impl_FollowsFrom.mono _ _ _ _)
   | (with_reducible exact impl_IsAtOnce.mono _ _ _ _)
   | (with_reducible exact impl_NeededIn.mono _ _ _ _)
   | (with_reducible exact impl_TrimProof.mono _ _ _ _)
   | (with_reducible exact laws_numberOf.mono _ _)
   | (with_reducible exact laws_sameInts.mono _ _ _)
   | (with_reducible exact laws_sameRows.mono _ _ _)
   | (with_reducible exact spec_DrawIsAtOnce.mono _ _)
   | (with_reducible exact spec_DrawTrimProof.mono _ _)
   | (with_reducible exact spec_IsAtOnce.mono _ _ _ _)
   | (with_reducible exact spec_NeededIn.mono _ _ _ _)
   | (with_reducible exact spec_TrimProof.mono _ _ _ _)
   | (with_reducible exact LeO.refl _)
   | (with_reducible exact LeO.none _)
   | (with_reducible refine LeO.ite ?_ ?_)
   | (with_reducible refine LeO.bind ?_ (fun _ => ?_))
   | exact ih0 _ _ _ _ _ _ _ _
   | exact ih1 _
   | exact ih2 _ _ _ _ _ _
   | exact ih3 _ _ _ _ _ _ _
   | exact ih4 _ _ _ _ _ _ _ _
   | exact impl_CheckProof.mono _ _ _ _
   | exact impl_FollowsFrom.mono _ _ _ _
   | exact impl_IsAtOnce.mono _ _ _ _
   | exact impl_NeededIn.mono _ _ _ _
   | exact impl_TrimProof.mono _ _ _ _
   | exact laws_numberOf.mono _ _
   | exact laws_sameInts.mono _ _ _
   | exact laws_sameRows.mono _ _ _
   | exact spec_DrawIsAtOnce.mono _ _
   | exact spec_DrawTrimProof.mono _ _
   | exact spec_IsAtOnce.mono _ _ _ _
   | exact spec_NeededIn.mono _ _ _ _
   | exact spec_TrimProof.mono _ _ _ _
   | exact LeO.none _
   | refine LeO.ite ?_ ?_
   | refine LeO.bind ?_ (fun _ => ?_)
def laws_FnTrimmed.T17 : Bool × List (List Nat × List Nat) := (true, [([], []), ([], []), ([0, 1], [0, 1]), ([2], [2]), ([], []), ([], []), ([4, 5], [4, 5]), ([6], [6]), ([3, 7], [3, 7]), ([8], [8])])
def laws_FnTrimmed.B17 : List Nat := [0, 0, 3, 7, 0, 0, 48, 112, 255, 511]
theorem laws_FnTrimmed.tab17 : rtab .any (opsOf Try.f7 17) = laws_FnTrimmed.T17 := by kernel_rfl
theorem laws_FnTrimmed.bits17 : waitsOk laws_FnTrimmed.T17.2 laws_FnTrimmed.B17 = true := by kernel_rfl
def laws_FnTrimmed.T21 : Bool × List (List Nat × List Nat) := (true, [([], []), ([], []), ([], []), ([1, 2], [1, 2]), ([0, 3], [0, 3]), ([], []), ([], []), ([6], [6]), ([5, 7], [5, 7]), ([4, 8, 4], [4, 8]), ([9, 9, 0, 1, 2, 3, 4, 5, 6, 7, 8, 9], [9])])
def laws_FnTrimmed.B21 : List Nat := [0, 0, 0, 6, 15, 0, 0, 64, 224, 511, 1023]
theorem laws_FnTrimmed.tab21 : rtab .any (opsOf Try.f7 21) = laws_FnTrimmed.T21 := by kernel_rfl
theorem laws_FnTrimmed.bits21 : waitsOk laws_FnTrimmed.T21.2 laws_FnTrimmed.B21 = true := by kernel_rfl
set_option maxHeartbeats 8000000 in
set_option maxRecDepth 100000 in
theorem laws_FnTrimmed.calls (k : Nat) (A0 : Option Addr) (c0 : Nat) (l0 : List Int) (A1 : Option Addr) (c1 : Nat) (l1 : List Int) (r : Bool) (w : World) (hr0 : Kd.C (Kd.int .u8) w A0 l0.length l0) (hc0 : l0.length ≤ c0) (hr1 : Kd.C (Kd.int .u8) w A1 l1.length l1) (hc1 : l1.length ≤ c1) (h : laws_FnTrimmed.f k l0 l1 = some r) :
  Calls Try.prog 7 #[.slice A0 l0.length c0, .slice A1 l1.length c1] w fun e w' => e = .returned (.bool r) ∧ Below w.heap.size w w' := by
 have HR0 := Aside0.mk hr0
 have HC0 := Aside0.mk hc0
 clear hr0 hc0
 have HR1 := Aside0.mk hr1
 have HC1 := Aside0.mk hc1
 clear hr1 hc1
 have HB := Aside0.mk (Below.refl w.heap.size w)
 have HTop := Aside0.mk (Nat.zero_le w.heap.size)
 have H : (if (wrap64 ((l0.length : Int) + (l1.length : Int))) > 1048576 then (some true) else ((spec_DrawTrimProof.f k l0).bind fun bt524 => ((impl_TrimProof.f k bt524.1 bt524.2.1 bt524.2.2).bind fun bt531 => ((spec_TrimProof.f k bt524.1 bt524.2.1 bt524.2.2).bind fun bt535 => ((impl_NeededIn.f k bt524.1 bt524.2.1 bt524.2.2).bind fun bt539 => ((spec_NeededIn.f k bt524.1 bt524.2.1 bt524.2.2).bind fun bt543 => (if (bt531.2 != bt535.2) = true then (laws_FnTrimmed.j0 k l1 bt524.1 bt524.2.1 bt524.2.2 bt531.1 bt531.2 bt539.1 true) else ((laws_sameRows.f k bt531.1 bt535.1).bind fun t547 => (if t547 = true then (if (bt539.2 != bt543.2) = true then (laws_FnTrimmed.j0 k l1 bt524.1 bt524.2.1 bt524.2.2 bt531.1 bt531.2 bt539.1 true) else ((laws_sameInts.f k bt539.1 bt543.1).bind fun t548 => (if t548 = true then (laws_FnTrimmed.j0 k l1 bt524.1 bt524.2.1 bt524.2.2 bt531.1 bt531.2 bt539.1 (bt531.2 != bt539.2)) else (laws_FnTrimmed.j0 k l1 bt524.1 bt524.2.1 bt524.2.2 bt531.1 bt531.2 bt539.1 true)))) else (laws_FnTrimmed.j0 k l1 bt524.1 bt524.2.1 bt524.2.2 bt531.1 bt531.2 bt539.1 true)))))))))) = some r := h
 clear h
 by_cases c3 : (wrap64 ((l0.length : Int) + (l1.length : Int))) > 1048576
 ·rw [if_pos c3] at H
  have c3b0 : decide (1048576 < (wrap64 ((l0.length : Int) + (l1.length : Int)))) = true := decide_eq_true c3
  clear c3
  obtain rfl := Option.some.inj H
  go_enter Try.func7, Try.ntmps7
  go_wp2
  go_ret
  exact ⟨by first | rfl | (simp [errW_none, errW_some] <;> rfl) | (simp [*, errW_none, errW_some] <;> rfl), zb_ HB.out⟩
 ·rw [if_neg c3] at H
  have c3b0 : decide (1048576 < (wrap64 ((l0.length : Int) + (l1.length : Int)))) = false := decide_eq_false c3
  clear c3
  replace H := Option.bind_eq_some_iff.mp H
  obtain ⟨⟨t524, t525, t528⟩, A40, H⟩ := H
  replace H : ((impl_TrimProof.f k t524 t525 t528).bind fun bt531 => ((spec_TrimProof.f k t524 t525 t528).bind fun bt535 => ((impl_NeededIn.f k t524 t525 t528).bind fun bt539 => ((spec_NeededIn.f k t524 t525 t528).bind fun bt543 => (if (bt531.2 != bt535.2) = true then (laws_FnTrimmed.j0 k l1 t524 t525 t528 bt531.1 bt531.2 bt539.1 true) else ((laws_sameRows.f k bt531.1 bt535.1).bind fun t547 => (if t547 = true then (if (bt539.2 != bt543.2) = true then (laws_FnTrimmed.j0 k l1 t524 t525 t528 bt531.1 bt531.2 bt539.1 true) else ((laws_sameInts.f k bt539.1 bt543.1).bind fun t548 => (if t548 = true then (laws_FnTrimmed.j0 k l1 t524 t525 t528 bt531.1 bt531.2 bt539.1 (bt531.2 != bt539.2)) else (laws_FnTrimmed.j0 k l1 t524 t525 t528 bt531.1 bt531.2 bt539.1 true)))) else (laws_FnTrimmed.j0 k l1 t524 t525 t528 bt531.1 bt531.2 bt539.1 true)))))))) = some r := H
  have A4 := Aside0.mk A40
  clear A40
  replace H := Option.bind_eq_some_iff.mp H
  obtain ⟨⟨t531, t532⟩, A50, H⟩ := H
  replace H : ((spec_TrimProof.f k t524 t525 t528).bind fun bt535 => ((impl_NeededIn.f k t524 t525 t528).bind fun bt539 => ((spec_NeededIn.f k t524 t525 t528).bind fun bt543 => (if (t532 != bt535.2) = true then (laws_FnTrimmed.j0 k l1 t524 t525 t528 t531 t532 bt539.1 true) else ((laws_sameRows.f k t531 bt535.1).bind fun t547 => (if t547 = true then (if (bt539.2 != bt543.2) = true then (laws_FnTrimmed.j0 k l1 t524 t525 t528 t531 t532 bt539.1 true) else ((laws_sameInts.f k bt539.1 bt543.1).bind fun t548 => (if t548 = true then (laws_FnTrimmed.j0 k l1 t524 t525 t528 t531 t532 bt539.1 (t532 != bt539.2)) else (laws_FnTrimmed.j0 k l1 t524 t525 t528 t531 t532 bt539.1 true)))) else (laws_FnTrimmed.j0 k l1 t524 t525 t528 t531 t532 bt539.1 true))))))) = some r := H
  have A5 := Aside0.mk A50
  clear A50
  replace H := Option.bind_eq_some_iff.mp H
  obtain ⟨⟨t535, t536⟩, A60, H⟩ := H
  replace H : ((impl_NeededIn.f k t524 t525 t528).bind fun bt539 => ((spec_NeededIn.f k t524 t525 t528).bind fun bt543 => (if (t532 != t536) = true then (laws_FnTrimmed.j0 k l1 t524 t525 t528 t531 t532 bt539.1 true) else ((laws_sameRows.f k t531 t535).bind fun t547 => (if t547 = true then (if (bt539.2 != bt543.2) = true then (laws_FnTrimmed.j0 k l1 t524 t525 t528 t531 t532 bt539.1 true) else ((laws_sameInts.f k bt539.1 bt543.1).bind fun t548 => (if t548 = true then (laws_FnTrimmed.j0 k l1 t524 t525 t528 t531 t532 bt539.1 (t532 != bt539.2)) else (laws_FnTrimmed.j0 k l1 t524 t525 t528 t531 t532 bt539.1 true)))) else (laws_FnTrimmed.j0 k l1 t524 t525 t528 t531 t532 bt539.1 true)))))) = some r := H
  have A6 := Aside0.mk A60
  clear A60
  replace H := Option.bind_eq_some_iff.mp H
  obtain ⟨⟨t539, t540⟩, A70, H⟩ := H
  replace H : ((spec_NeededIn.f k t524 t525 t528).bind fun bt543 => (if (t532 != t536) = true then (laws_FnTrimmed.j0 k l1 t524 t525 t528 t531 t532 t539 true) else ((laws_sameRows.f k t531 t535).bind fun t547 => (if t547 = true then (if (t540 != bt543.2) = true then (laws_FnTrimmed.j0 k l1 t524 t525 t528 t531 t532 t539 true) else ((laws_sameInts.f k t539 bt543.1).bind fun t548 => (if t548 = true then (laws_FnTrimmed.j0 k l1 t524 t525 t528 t531 t532 t539 (t532 != t540)) else (laws_FnTrimmed.j0 k l1 t524 t525 t528 t531 t532 t539 true)))) else (laws_FnTrimmed.j0 k l1 t524 t525 t528 t531 t532 t539 true))))) = some r := H
  have A7 := Aside0.mk A70
  clear A70
  replace H := Option.bind_eq_some_iff.mp H
  obtain ⟨⟨t543, t544⟩, A80, H⟩ := H
  replace H : (if (t532 != t536) = true then (laws_FnTrimmed.j0 k l1 t524 t525 t528 t531 t532 t539 true) else ((laws_sameRows.f k t531 t535).bind fun t547 => (if t547 = true then (if (t540 != t544) = true then (laws_FnTrimmed.j0 k l1 t524 t525 t528 t531 t532 t539 true) else ((laws_sameInts.f k t539 t543).bind fun t548 => (if t548 = true then (laws_FnTrimmed.j0 k l1 t524 t525 t528 t531 t532 t539 (t532 != t540)) else (laws_FnTrimmed.j0 k l1 t524 t525 t528 t531 t532 t539 true)))) else (laws_FnTrimmed.j0 k l1 t524 t525 t528 t531 t532 t539 true)))) = some r := H
  have A8 := Aside0.mk A80
  clear A80
  have HC9 := Aside0.mk H
  clear H
  go_enter Try.func7, Try.ntmps7
  go_upto_region 8 with (first | ((with_reducible refine gate_callee (f := 51) rfl ?_); refine goesL_ (some 43) rfl rfl Try.func51 (by kernel_rfl) rfl #[.slice A0 l0.length c0] rfl (by simp only [zA_, zB_, zD_] <;> rfl) ?_; (with_reducible refine (spec_DrawTrimProof.calls k _ _ l0 t524 t525 t528 _ ?side1 ?side2 A4.out).mono ?_); (case side1 => exact zC_ HR0.out); (case side2 => exact HC0.out); rintro e w10 ⟨v526, v529, rfl, ho0, ho1, hb⟩; refine ⟨_, rfl, ?_⟩; have n0_ := Aside0.mk (Kd.N_lower (by first | exact ho0 | exact Kd.S_N ho0 | exact Kd.R_N ho0) (below_size (zb_ HB.out))); have n1_ := Aside0.mk (Kd.N_lower (by first | exact ho1 | exact Kd.S_N ho1 | exact Kd.R_N ho1) (below_size (zb_ HB.out))); have n2_ := Aside0.mk (below_step (zb_ HB.out) hb); clear HB; have HO527 := n0_; have HO530 := n1_; have HB := n2_; clear n0_ n1_ n2_; (try clear hb); (try clear hb2); (try clear hk); (try clear hi); (try clear ho0); (try clear ho1); obtain ⟨Ao11, co11, eo11⟩ := Kd.N_slice HO527.out; subst eo11; obtain ⟨Ao12, co12, eo12⟩ := Kd.N_slice HO530.out; subst eo12) | ((with_reducible refine gate_callee (f := 52) rfl ?_); refine goesL_ (some 51) rfl rfl Try.func52 (by kernel_rfl) rfl #[.int .i64 t524, .slice Ao11 t525.length co11, .slice Ao12 t528.length co12] rfl (by simp only [zA_, zB_, zD_] <;> rfl) ?_; (with_reducible refine (impl_TrimProof.calls k t524 _ _ t525 _ _ t528 t531 t532 _ ?side1 ?side2 ?side3 ?side4 A5.out).mono ?_); (case side1 => exact zC_ (Kd.N_reads' HO527.out).2.2); (case side2 => exact (Kd.N_reads' HO527.out).2.1); (case side3 => exact zC_ (Kd.N_reads' HO530.out).2.2); (case side4 => exact (Kd.N_reads' HO530.out).2.1); rintro e w13 ⟨v533, rfl, ho0, hb⟩; refine ⟨_, rfl, ?_⟩; have n0_ := Aside0.mk (Kd.N_below (zN_ HO527.out) hb); have n1_ := Aside0.mk (Kd.N_below (zN_ HO530.out) hb); have n2_ := Aside0.mk (Kd.N_lower (by first | exact ho0 | exact Kd.S_N ho0 | exact Kd.R_N ho0) (below_size (zb_ HB.out))); have n3_ := Aside0.mk (below_step (zb_ HB.out) hb); clear HO527; clear HO530; clear HB; have HO527 := n0_; have HO530 := n1_; have HO534 := n2_; have HB := n3_; clear n0_ n1_ n2_ n3_; (try clear hb); (try clear hb2); (try clear hk); (try clear hi); (try clear ho0)) | ((with_reducible refine gate_callee (f := 53) rfl ?_); refine goesL_ (some 58) rfl rfl Try.func53 (by kernel_rfl) rfl #[.int .i64 t524, .slice Ao11 t525.length co11, .slice Ao12 t528.length co12] rfl (by simp only [zA_, zB_, zD_] <;> rfl) ?_; (with_reducible refine (spec_TrimProof.calls k t524 _ _ t525 _ _ t528 t535 t536 _ ?side1 ?side2 ?side3 ?side4 A6.out).mono ?_); (case side1 => exact zC_ (Kd.N_reads' HO527.out).2.2); (case side2 => exact (Kd.N_reads' HO527.out).2.1); (case side3 => exact zC_ (Kd.N_reads' HO530.out).2.2); (case side4 => exact (Kd.N_reads' HO530.out).2.1); rintro e w14 ⟨v537, rfl, ho0, hb⟩; refine ⟨_, rfl, ?_⟩; have n0_ := Aside0.mk (Kd.N_below (zN_ HO527.out) hb); have n1_ := Aside0.mk (Kd.N_below (zN_ HO530.out) hb); have n2_ := Aside0.mk (Kd.N_below (zN_ HO534.out) hb); have n3_ := Aside0.mk (Kd.N_lower (by first | exact ho0 | exact Kd.S_N ho0 | exact Kd.R_N ho0) (below_size (zb_ HB.out))); have n4_ := Aside0.mk (below_step (zb_ HB.out) hb); clear HO527; clear HO530; clear HO534; clear HB; have HO527 := n0_; have HO530 := n1_; have HO534 := n2_; have HO538 := n3_; have HB := n4_; clear n0_ n1_ n2_ n3_ n4_; (try clear hb); (try clear hb2); (try clear hk); (try clear hi); (try clear ho0)) | ((with_reducible refine gate_callee (f := 54) rfl ?_); refine goesL_ (some 65) rfl rfl Try.func54 (by kernel_rfl) rfl #[.int .i64 t524, .slice Ao11 t525.length co11, .slice Ao12 t528.length co12] rfl (by simp only [zA_, zB_, zD_] <;> rfl) ?_; (with_reducible refine (impl_NeededIn.calls k t524 _ _ t525 _ _ t528 t539 t540 _ ?side1 ?side2 ?side3 ?side4 A7.out).mono ?_); (case side1 => exact zC_ (Kd.N_reads' HO527.out).2.2); (case side2 => exact (Kd.N_reads' HO527.out).2.1); (case side3 => exact zC_ (Kd.N_reads' HO530.out).2.2); (case side4 => exact (Kd.N_reads' HO530.out).2.1); rintro e w15 ⟨v541, rfl, ho0, hb⟩; refine ⟨_, rfl, ?_⟩; have n0_ := Aside0.mk (Kd.N_below (zN_ HO527.out) hb); have n1_ := Aside0.mk (Kd.N_below (zN_ HO530.out) hb); have n2_ := Aside0.mk (Kd.N_below (zN_ HO534.out) hb); have n3_ := Aside0.mk (Kd.N_below (zN_ HO538.out) hb); have n4_ := Aside0.mk (Kd.R_mono (ok' := fun _ => True) (Kd.R_lower ho0 (below_size (zb_ HB.out))) (fun _ _ => trivial)); have n5_ := Aside0.mk (below_step (zb_ HB.out) hb); clear HO527; clear HO530; clear HO534; clear HO538; clear HB; have HO527 := n0_; have HO530 := n1_; have HO534 := n2_; have HO538 := n3_; have HO542 := n4_; have HB := n5_; clear n0_ n1_ n2_ n3_ n4_ n5_; (try clear hb); (try clear hb2); (try clear hk); (try clear hi); (try clear ho0)) | ((with_reducible refine gate_callee (f := 55) rfl ?_); refine goesL_ (some 72) rfl rfl Try.func55 (by kernel_rfl) rfl #[.int .i64 t524, .slice Ao11 t525.length co11, .slice Ao12 t528.length co12] rfl (by simp only [zA_, zB_, zD_] <;> rfl) ?_; (with_reducible refine (spec_NeededIn.calls k t524 _ _ t525 _ _ t528 t543 t544 _ ?side1 ?side2 ?side3 ?side4 A8.out).mono ?_); (case side1 => exact zC_ (Kd.N_reads' HO527.out).2.2); (case side2 => exact (Kd.N_reads' HO527.out).2.1); (case side3 => exact zC_ (Kd.N_reads' HO530.out).2.2); (case side4 => exact (Kd.N_reads' HO530.out).2.1); rintro e w16 ⟨v545, rfl, ho0, hb⟩; refine ⟨_, rfl, ?_⟩; have n0_ := Aside0.mk (Kd.N_below (zN_ HO527.out) hb); have n1_ := Aside0.mk (Kd.N_below (zN_ HO530.out) hb); have n2_ := Aside0.mk (Kd.N_below (zN_ HO534.out) hb); have n3_ := Aside0.mk (Kd.N_below (zN_ HO538.out) hb); have n4_ := Aside0.mk (Kd.R_below (zR_ HO542.out) hb); have n5_ := Aside0.mk (Kd.R_mono (ok' := fun _ => True) (Kd.R_lower ho0 (below_size (zb_ HB.out))) (fun _ _ => trivial)); have n6_ := Aside0.mk (below_step (zb_ HB.out) hb); clear HO527; clear HO530; clear HO534; clear HO538; clear HO542; clear HB; have HO527 := n0_; have HO530 := n1_; have HO534 := n2_; have HO538 := n3_; have HO542 := n4_; have HO546 := n5_; have HB := n6_; clear n0_ n1_ n2_ n3_ n4_ n5_ n6_; (try clear hb); (try clear hb2); (try clear hk); (try clear hi); (try clear ho0)))
  (try simp only [Act.put, List.setIfInBounds_toArray, List.set_cons_zero, List.set_cons_succ])
  go_cut [99] (fun v99 wc => ∃ (kq : Nat) (x99_8 : Bool), v99 = .bool x99_8 ∧ Aside0 (laws_FnTrimmed.j0 kq l1 t524 t525 t528 t531 t532 t539 x99_8 = some r) ∧ Aside0 (kq ≤ k) ∧ Aside0 (Kd.N (Kd.slice 3 (Kd.int .i64)) 42 wc w.heap.size (fun _ => True) (.slice Ao11 t525.length co11) t525) ∧ Aside0 (Kd.N (Kd.slice 3 (Kd.int .i64)) 42 wc w.heap.size (fun _ => True) (.slice Ao12 t528.length co12) t528) ∧ Aside0 (Kd.N (Kd.slice 3 (Kd.int .i64)) 42 wc w.heap.size (fun _ => True) v533 t531) ∧ Aside0 (Kd.R (Kd.int .i64) 3 wc w.heap.size (fun _ => True) v541 t539) ∧ Aside0 (Below w.heap.size w wc))
  case first => as_aux_lemma =>
   have H := HC9.out
   clear HC9
   by_cases c17 : (t532 != t536) = true
   ·rw [if_pos c17] at H
    have c17b0 : (t532 != t536) = true := c17
    (try (have c17b1 : decide (t532 = t536) = false := by simpa using c17))
    (try (have c17b2 : (t532 == t536) = false := by simpa using c17))
    (try (have c17b3 : ¬ (t532 = t536) := by simpa using c17))
    clear c17
    (first | rw [c17b0] | (simp only [i64_w, i32_w]; rw [c17b0]) | skip)
    have H' := Aside0.mk H
    clear H
    go_wp2
    go_meet
    case rel => exact ⟨_, (true), (by first | rfl | (simp; done) | (simp [*]; done)), H', ⟨by first | omega | exact Nat.le_refl _⟩, ⟨Kd.N_mono (zN_ HO527.out) (fun _ _ => trivial)⟩, ⟨Kd.N_mono (zN_ HO530.out) (fun _ _ => trivial)⟩, ⟨Kd.N_mono (zN_ HO534.out) (fun _ _ => trivial)⟩, ⟨Kd.R_mono (zR_ HO542.out) (fun _ _ => trivial)⟩, ⟨zb_ HB.out⟩⟩
   ·rw [if_neg c17] at H
    have c17b0 : (t532 != t536) = false := by simpa using c17
    (try (have c17b1 : decide (t532 = t536) = true := by simpa using c17))
    (try (have c17b2 : (t532 == t536) = true := by simpa using c17))
    clear c17
    (first | rw [c17b0] | (simp only [i64_w, i32_w]; rw [c17b0]) | skip)
    replace H := Option.bind_eq_some_iff.mp H
    obtain ⟨t547, A180, H⟩ := H
    replace H : (if t547 = true then (if (t540 != t544) = true then (laws_FnTrimmed.j0 k l1 t524 t525 t528 t531 t532 t539 true) else ((laws_sameInts.f k t539 t543).bind fun t548 => (if t548 = true then (laws_FnTrimmed.j0 k l1 t524 t525 t528 t531 t532 t539 (t532 != t540)) else (laws_FnTrimmed.j0 k l1 t524 t525 t528 t531 t532 t539 true)))) else (laws_FnTrimmed.j0 k l1 t524 t525 t528 t531 t532 t539 true)) = some r := H
    have A18 := Aside0.mk A180
    clear A180
    by_cases c19 : t547 = true
    ·subst c19
     have H1 : (if (t540 != t544) = true then (laws_FnTrimmed.j0 k l1 t524 t525 t528 t531 t532 t539 true) else ((laws_sameInts.f k t539 t543).bind fun t548 => (if t548 = true then (laws_FnTrimmed.j0 k l1 t524 t525 t528 t531 t532 t539 (t532 != t540)) else (laws_FnTrimmed.j0 k l1 t524 t525 t528 t531 t532 t539 true)))) = some r := by rw [if_pos rfl] at H; exact H
     clear H
     have H := H1
     clear H1
     by_cases c20 : (t540 != t544) = true
     ·rw [if_pos c20] at H
      have c20b0 : (t540 != t544) = true := c20
      (try (have c20b1 : decide (t540 = t544) = false := by simpa using c20))
      (try (have c20b2 : (t540 == t544) = false := by simpa using c20))
      (try (have c20b3 : ¬ (t540 = t544) := by simpa using c20))
      clear c20
      have H' := Aside0.mk H
      clear H
      obtain ⟨Ao21, co21, eo21⟩ := Kd.N_slice HO534.out
      subst eo21
      obtain ⟨Ao22, co22, eo22⟩ := Kd.N_slice HO538.out
      subst eo22
      go_wp2_with (first | (go_at_call 48; (with_reducible refine (laws_sameRows.calls k _ _ t531 _ _ t535 true _ ?side1 ?side2 ?side3 ?side4 A18.out).mono ?_); (case side1 => exact zC_ (Kd.N_reads' HO534.out).2.2); (case side2 => exact (Kd.N_reads' HO534.out).2.1); (case side3 => exact zC_ (Kd.N_reads' HO538.out).2.2); (case side4 => exact (Kd.N_reads' HO538.out).2.1); rintro e w' ⟨rfl, ⟨nd, rfl⟩⟩))
      go_meet
      case rel => exact ⟨_, (true), (by first | rfl | (simp; done) | (simp [*]; done)), H', ⟨by first | omega | exact Nat.le_refl _⟩, ⟨Kd.N_mono (zN_ HO527.out) (fun _ _ => trivial)⟩, ⟨Kd.N_mono (zN_ HO530.out) (fun _ _ => trivial)⟩, ⟨Kd.N_mono (zN_ HO534.out) (fun _ _ => trivial)⟩, ⟨Kd.R_mono (zR_ HO542.out) (fun _ _ => trivial)⟩, ⟨zb_ HB.out⟩⟩
     ·rw [if_neg c20] at H
      have c20b0 : (t540 != t544) = false := by simpa using c20
      (try (have c20b1 : decide (t540 = t544) = true := by simpa using c20))
      (try (have c20b2 : (t540 == t544) = true := by simpa using c20))
      clear c20
      replace H := Option.bind_eq_some_iff.mp H
      obtain ⟨t548, A230, H⟩ := H
      replace H : (if t548 = true then (laws_FnTrimmed.j0 k l1 t524 t525 t528 t531 t532 t539 (t532 != t540)) else (laws_FnTrimmed.j0 k l1 t524 t525 t528 t531 t532 t539 true)) = some r := H
      have A23 := Aside0.mk A230
      clear A230
      by_cases c24 : t548 = true
      ·subst c24
       have H1 : (laws_FnTrimmed.j0 k l1 t524 t525 t528 t531 t532 t539 (t532 != t540)) = some r := by rw [if_pos rfl] at H; exact H
       clear H
       have H := H1
       clear H1
       have H' := Aside0.mk H
       clear H
       obtain ⟨Ao25, co25, eo25⟩ := Kd.N_slice HO534.out
       subst eo25
       obtain ⟨Ao26, co26, eo26⟩ := Kd.N_slice HO538.out
       subst eo26
       go_wp2_with (first | (go_at_call 48; (with_reducible refine (laws_sameRows.calls k _ _ t531 _ _ t535 true _ ?side1 ?side2 ?side3 ?side4 A18.out).mono ?_); (case side1 => exact zC_ (Kd.N_reads' HO534.out).2.2); (case side2 => exact (Kd.N_reads' HO534.out).2.1); (case side3 => exact zC_ (Kd.N_reads' HO538.out).2.2); (case side4 => exact (Kd.N_reads' HO538.out).2.1); rintro e w' ⟨rfl, ⟨nd, rfl⟩⟩; obtain ⟨Ao27, co27, eo27⟩ := Kd.R_slice HO542.out; subst eo27; obtain ⟨Ao28, co28, eo28⟩ := Kd.R_slice HO546.out; subst eo28) | (go_at_call 56; (with_reducible refine (laws_sameInts.calls k _ _ t539 _ _ t543 true _ ?side1 ?side2 ?side3 ?side4 A23.out).mono ?_); (case side1 => exact zC_ (Kd.R_reads' HO542.out).2.2); (case side2 => exact (Kd.R_reads' HO542.out).2.1); (case side3 => exact zC_ (Kd.R_reads' HO546.out).2.2); (case side4 => exact (Kd.R_reads' HO546.out).2.1); rintro e w' ⟨rfl, ⟨nd, rfl⟩⟩))
       go_meet
       case rel => exact ⟨_, ((t532 != t540)), (by first | rfl | (simp; done) | (simp [*]; done)), H', ⟨by first | omega | exact Nat.le_refl _⟩, ⟨Kd.N_mono (zN_ HO527.out) (fun _ _ => trivial)⟩, ⟨Kd.N_mono (zN_ HO530.out) (fun _ _ => trivial)⟩, ⟨Kd.N_mono (zN_ HO534.out) (fun _ _ => trivial)⟩, ⟨Kd.R_mono (zR_ HO542.out) (fun _ _ => trivial)⟩, ⟨zb_ HB.out⟩⟩
      ·replace c24 := Bool.eq_false_iff.mpr c24
       subst c24
       have H1 : (laws_FnTrimmed.j0 k l1 t524 t525 t528 t531 t532 t539 true) = some r := by rw [if_neg (show ¬ (false = true) by decide)] at H; exact H
       clear H
       have H := H1
       clear H1
       have H' := Aside0.mk H
       clear H
       obtain ⟨Ao29, co29, eo29⟩ := Kd.N_slice HO534.out
       subst eo29
       obtain ⟨Ao30, co30, eo30⟩ := Kd.N_slice HO538.out
       subst eo30
       go_wp2_with (first | (go_at_call 48; (with_reducible refine (laws_sameRows.calls k _ _ t531 _ _ t535 true _ ?side1 ?side2 ?side3 ?side4 A18.out).mono ?_); (case side1 => exact zC_ (Kd.N_reads' HO534.out).2.2); (case side2 => exact (Kd.N_reads' HO534.out).2.1); (case side3 => exact zC_ (Kd.N_reads' HO538.out).2.2); (case side4 => exact (Kd.N_reads' HO538.out).2.1); rintro e w' ⟨rfl, ⟨nd, rfl⟩⟩; obtain ⟨Ao31, co31, eo31⟩ := Kd.R_slice HO542.out; subst eo31; obtain ⟨Ao32, co32, eo32⟩ := Kd.R_slice HO546.out; subst eo32) | (go_at_call 56; (with_reducible refine (laws_sameInts.calls k _ _ t539 _ _ t543 false _ ?side1 ?side2 ?side3 ?side4 A23.out).mono ?_); (case side1 => exact zC_ (Kd.R_reads' HO542.out).2.2); (case side2 => exact (Kd.R_reads' HO542.out).2.1); (case side3 => exact zC_ (Kd.R_reads' HO546.out).2.2); (case side4 => exact (Kd.R_reads' HO546.out).2.1); rintro e w' ⟨rfl, ⟨nd, rfl⟩⟩))
       go_meet
       case rel => exact ⟨_, (true), (by first | rfl | (simp; done) | (simp [*]; done)), H', ⟨by first | omega | exact Nat.le_refl _⟩, ⟨Kd.N_mono (zN_ HO527.out) (fun _ _ => trivial)⟩, ⟨Kd.N_mono (zN_ HO530.out) (fun _ _ => trivial)⟩, ⟨Kd.N_mono (zN_ HO534.out) (fun _ _ => trivial)⟩, ⟨Kd.R_mono (zR_ HO542.out) (fun _ _ => trivial)⟩, ⟨zb_ HB.out⟩⟩
    ·replace c19 := Bool.eq_false_iff.mpr c19
     subst c19
     have H1 : (laws_FnTrimmed.j0 k l1 t524 t525 t528 t531 t532 t539 true) = some r := by rw [if_neg (show ¬ (false = true) by decide)] at H; exact H
     clear H
     have H := H1
     clear H1
     have H' := Aside0.mk H
     clear H
     obtain ⟨Ao33, co33, eo33⟩ := Kd.N_slice HO534.out
     subst eo33
     obtain ⟨Ao34, co34, eo34⟩ := Kd.N_slice HO538.out
     subst eo34
     go_wp2_with (first | (go_at_call 48; (with_reducible refine (laws_sameRows.calls k _ _ t531 _ _ t535 false _ ?side1 ?side2 ?side3 ?side4 A18.out).mono ?_); (case side1 => exact zC_ (Kd.N_reads' HO534.out).2.2); (case side2 => exact (Kd.N_reads' HO534.out).2.1); (case side3 => exact zC_ (Kd.N_reads' HO538.out).2.2); (case side4 => exact (Kd.N_reads' HO538.out).2.1); rintro e w' ⟨rfl, ⟨nd, rfl⟩⟩))
     go_meet
     case rel => exact ⟨_, (true), (by first | rfl | (simp; done) | (simp [*]; done)), H', ⟨by first | omega | exact Nat.le_refl _⟩, ⟨Kd.N_mono (zN_ HO527.out) (fun _ _ => trivial)⟩, ⟨Kd.N_mono (zN_ HO530.out) (fun _ _ => trivial)⟩, ⟨Kd.N_mono (zN_ HO534.out) (fun _ _ => trivial)⟩, ⟨Kd.R_mono (zR_ HO542.out) (fun _ _ => trivial)⟩, ⟨zb_ HB.out⟩⟩
  case rest => as_aux_lemma =>
   clear HC9
   try clear c1
   try clear c2
   try clear p2
   try clear c3
   try clear c3b0
   try clear c5
   try clear p6
   try clear c7
   try clear c17
   try clear c17b0
   try clear c17b1
   try clear c17b2
   try clear c19
   try clear c20
   try clear c20b0
   try clear c20b1
   try clear c20b2
   try clear c24
   obtain ⟨kq, x99_8, rfl, HA, HJ8, HO_6, HO_7, HO_8, HO_12, HB⟩ := hcut
   cases kq with
   | zero => exact absurd HA.out (by simp [laws_FnTrimmed.j0])
   | succ kj8 =>
    have H := HA.out
    clear HA
    simp only [laws_FnTrimmed.j0] at H
    by_cases c35 : x99_8 = true
    ·subst c35
     have H1 : (none) = some r := by rw [if_pos rfl] at H; exact H
     clear H
     have H := H1
     clear H1
     exact absurd H (by simp)
    ·replace c35 := Bool.eq_false_iff.mpr c35
     subst c35
     have H1 : (if t532 = true then ((impl_CheckProof.f kj8 t524 t525 t531).bind fun bt549 => (if bt549.2.2 = true then (if bt549.1 = true then (if bt549.2.1 = (t531.length : Int) then (if (t531.length : Int) = (t539.length : Int) then (laws_FnTrimmed.j1 kj8 l1 t524 t525 t528 t531 t539 (decide ((t531.length : Int) > (t528.length : Int)))) else (laws_FnTrimmed.j1 kj8 l1 t524 t525 t528 t531 t539 true)) else (laws_FnTrimmed.j1 kj8 l1 t524 t525 t528 t531 t539 true)) else (laws_FnTrimmed.j1 kj8 l1 t524 t525 t528 t531 t539 true)) else (laws_FnTrimmed.j1 kj8 l1 t524 t525 t528 t531 t539 true))) else (laws_FnTrimmed.j3 kj8 l1)) = some r := by rw [if_neg (show ¬ (false = true) by decide)] at H; exact H
     clear H
     have H := H1
     clear H1
     have HC36 := Aside0.mk H
     clear H
     go_upto_if 100 with (fail)
     go_cut [] (fun wc => ∃ (kq : Nat), Aside0 (laws_FnTrimmed.j3 kq l1 = some r) ∧ Aside0 (kq ≤ kj8) ∧ Aside0 (Below w.heap.size w wc))
     case first => as_aux_lemma =>
      have H := HC36.out
      clear HC36
      by_cases c37 : t532 = true
      ·subst c37
       have H1 : ((impl_CheckProof.f kj8 t524 t525 t531).bind fun bt549 => (if bt549.2.2 = true then (if bt549.1 = true then (if bt549.2.1 = (t531.length : Int) then (if (t531.length : Int) = (t539.length : Int) then (laws_FnTrimmed.j1 kj8 l1 t524 t525 t528 t531 t539 (decide ((t531.length : Int) > (t528.length : Int)))) else (laws_FnTrimmed.j1 kj8 l1 t524 t525 t528 t531 t539 true)) else (laws_FnTrimmed.j1 kj8 l1 t524 t525 t528 t531 t539 true)) else (laws_FnTrimmed.j1 kj8 l1 t524 t525 t528 t531 t539 true)) else (laws_FnTrimmed.j1 kj8 l1 t524 t525 t528 t531 t539 true))) = some r := by rw [if_pos rfl] at H; exact H
       clear H
       have H := H1
       clear H1
       replace H := Option.bind_eq_some_iff.mp H
       obtain ⟨⟨t549, t550, t551⟩, A380, H⟩ := H
       replace H : (if t551 = true then (if t549 = true then (if t550 = (t531.length : Int) then (if (t531.length : Int) = (t539.length : Int) then (laws_FnTrimmed.j1 kj8 l1 t524 t525 t528 t531 t539 (decide ((t531.length : Int) > (t528.length : Int)))) else (laws_FnTrimmed.j1 kj8 l1 t524 t525 t528 t531 t539 true)) else (laws_FnTrimmed.j1 kj8 l1 t524 t525 t528 t531 t539 true)) else (laws_FnTrimmed.j1 kj8 l1 t524 t525 t528 t531 t539 true)) else (laws_FnTrimmed.j1 kj8 l1 t524 t525 t528 t531 t539 true)) = some r := H
       have A38 := Aside0.mk A380
       clear A380
       have HC39 := Aside0.mk H
       clear H
       obtain ⟨Ao40, co40, eo40⟩ := Kd.N_slice HO_8.out
       subst eo40
       go_upto_region 12 with (first | ((with_reducible refine gate_callee (f := 40) rfl ?_); refine goesL_ (some 105) rfl rfl Try.func40 (by kernel_rfl) rfl #[.int .i64 t524, .slice Ao11 t525.length co11, .slice Ao40 t531.length co40] rfl (by simp only [zA_, zB_, zD_] <;> rfl) ?_; (with_reducible refine (impl_CheckProof.calls kj8 t524 _ _ t525 _ _ t531 t549 t550 t551 _ ?side1 ?side2 ?side3 ?side4 A38.out).mono ?_); (case side1 => exact zC_ (Kd.N_reads' HO_6.out).2.2); (case side2 => exact (Kd.N_reads' HO_6.out).2.1); (case side3 => exact zC_ (Kd.N_reads' HO_8.out).2.2); (case side4 => exact (Kd.N_reads' HO_8.out).2.1); rintro e w41 ⟨rfl, hb⟩; refine ⟨_, rfl, ?_⟩; have n0_ := Aside0.mk (Kd.N_below (zN_ HO_6.out) hb); have n1_ := Aside0.mk (Kd.N_below (zN_ HO_7.out) hb); have n2_ := Aside0.mk (Kd.N_below (zN_ HO_8.out) hb); have n3_ := Aside0.mk (Kd.R_below (zR_ HO_12.out) hb); have n4_ := Aside0.mk (below_step (zb_ HB.out) hb); clear HO_6; clear HO_7; clear HO_8; clear HO_12; clear HB; have HO_6 := n0_; have HO_7 := n1_; have HO_8 := n2_; have HO_12 := n3_; have HB := n4_; clear n0_ n1_ n2_ n3_ n4_; (try clear hb); (try clear hb2); (try clear hk); (try clear hi)))
       (try simp only [Act.put, List.setIfInBounds_toArray, List.set_cons_zero, List.set_cons_succ])
       go_cut [134] (fun v134 wc => ∃ (kq : Nat) (x134_38 : Bool), v134 = .bool x134_38 ∧ Aside0 (laws_FnTrimmed.j1 kq l1 t524 t525 t528 t531 t539 x134_38 = some r) ∧ Aside0 (kq ≤ kj8) ∧ Aside0 (Kd.N (Kd.slice 3 (Kd.int .i64)) 42 wc w.heap.size (fun _ => True) (.slice Ao11 t525.length co11) t525) ∧ Aside0 (Kd.N (Kd.slice 3 (Kd.int .i64)) 42 wc w.heap.size (fun _ => True) (.slice Ao12 t528.length co12) t528) ∧ Aside0 (Kd.N (Kd.slice 3 (Kd.int .i64)) 42 wc w.heap.size (fun _ => True) (.slice Ao40 t531.length co40) t531) ∧ Aside0 (Kd.R (Kd.int .i64) 3 wc w.heap.size (fun _ => True) v541 t539) ∧ Aside0 (Below w.heap.size w wc))
       case first => as_aux_lemma =>
        have H := HC39.out
        clear HC39
        by_cases c42 : t551 = true
        ·subst c42
         have H1 : (if t549 = true then (if t550 = (t531.length : Int) then (if (t531.length : Int) = (t539.length : Int) then (laws_FnTrimmed.j1 kj8 l1 t524 t525 t528 t531 t539 (decide ((t531.length : Int) > (t528.length : Int)))) else (laws_FnTrimmed.j1 kj8 l1 t524 t525 t528 t531 t539 true)) else (laws_FnTrimmed.j1 kj8 l1 t524 t525 t528 t531 t539 true)) else (laws_FnTrimmed.j1 kj8 l1 t524 t525 t528 t531 t539 true)) = some r := by rw [if_pos rfl] at H; exact H
         clear H
         have H := H1
         clear H1
         by_cases c43 : t549 = true
         ·subst c43
          have H1 : (if t550 = (t531.length : Int) then (if (t531.length : Int) = (t539.length : Int) then (laws_FnTrimmed.j1 kj8 l1 t524 t525 t528 t531 t539 (decide ((t531.length : Int) > (t528.length : Int)))) else (laws_FnTrimmed.j1 kj8 l1 t524 t525 t528 t531 t539 true)) else (laws_FnTrimmed.j1 kj8 l1 t524 t525 t528 t531 t539 true)) = some r := by rw [if_pos rfl] at H; exact H
          clear H
          have H := H1
          clear H1
          by_cases c44 : t550 = (t531.length : Int)
          ·rw [if_pos c44] at H
           have c44b0 : (t550 == (t531.length : Int)) = true := beq_iff_eq.mpr c44
           have c44b1 : (t550 != (t531.length : Int)) = false := bne_eq_false_iff_eq.mpr c44
           clear c44
           (first | rw [c44b0] | (simp only [i64_w, i32_w]; rw [c44b0]) | skip)
           by_cases c45 : (t531.length : Int) = (t539.length : Int)
           ·rw [if_pos c45] at H
            have c45b0 : ((t531.length : Int) == (t539.length : Int)) = true := beq_iff_eq.mpr c45
            have c45b1 : ((t531.length : Int) != (t539.length : Int)) = false := bne_eq_false_iff_eq.mpr c45
            have c45b2 : (t531.length == t539.length) = true := by first | simpa using c45 | (simp at c45 ⊢; omega)
            clear c45
            have H' := Aside0.mk H
            clear H
            obtain ⟨Ao46, co46, eo46⟩ := Kd.R_slice HO_12.out
            subst eo46
            go_wp2
            go_meet
            case rel => exact ⟨_, (decide ((t531.length : Int) > (t528.length : Int))), (by first | rfl | (simp; done) | (simp [*]; done)), H', ⟨by have := HJ8.out; first | omega | exact Nat.le_refl _⟩, ⟨Kd.N_mono (zN_ HO_6.out) (fun _ _ => trivial)⟩, ⟨Kd.N_mono (zN_ HO_7.out) (fun _ _ => trivial)⟩, ⟨Kd.N_mono (zN_ HO_8.out) (fun _ _ => trivial)⟩, ⟨Kd.R_mono (zR_ HO_12.out) (fun _ _ => trivial)⟩, ⟨zb_ HB.out⟩⟩
           ·rw [if_neg c45] at H
            have c45b0 : ((t531.length : Int) == (t539.length : Int)) = false := beq_eq_false_iff_ne.mpr c45
            have c45b1 : ((t531.length : Int) != (t539.length : Int)) = true := bne_iff_ne.mpr c45
            have c45b2 : (t531.length == t539.length) = false := by first | simpa using c45 | (simp at c45 ⊢; omega)
            have H' := Aside0.mk H
            clear H
            obtain ⟨Ao47, co47, eo47⟩ := Kd.R_slice HO_12.out
            subst eo47
            go_wp2
            go_meet
            case rel => exact ⟨_, (true), (by first | rfl | (simp; done) | (simp [*]; done)), H', ⟨by have := HJ8.out; first | omega | exact Nat.le_refl _⟩, ⟨Kd.N_mono (zN_ HO_6.out) (fun _ _ => trivial)⟩, ⟨Kd.N_mono (zN_ HO_7.out) (fun _ _ => trivial)⟩, ⟨Kd.N_mono (zN_ HO_8.out) (fun _ _ => trivial)⟩, ⟨Kd.R_mono (zR_ HO_12.out) (fun _ _ => trivial)⟩, ⟨zb_ HB.out⟩⟩
          ·rw [if_neg c44] at H
           have c44b0 : (t550 == (t531.length : Int)) = false := beq_eq_false_iff_ne.mpr c44
           have c44b1 : (t550 != (t531.length : Int)) = true := bne_iff_ne.mpr c44
           (first | rw [c44b0] | (simp only [i64_w, i32_w]; rw [c44b0]) | skip)
           have H' := Aside0.mk H
           clear H
           go_wp2
           go_meet
           case rel => exact ⟨_, (true), (by first | rfl | (simp; done) | (simp [*]; done)), H', ⟨by have := HJ8.out; first | omega | exact Nat.le_refl _⟩, ⟨Kd.N_mono (zN_ HO_6.out) (fun _ _ => trivial)⟩, ⟨Kd.N_mono (zN_ HO_7.out) (fun _ _ => trivial)⟩, ⟨Kd.N_mono (zN_ HO_8.out) (fun _ _ => trivial)⟩, ⟨Kd.R_mono (zR_ HO_12.out) (fun _ _ => trivial)⟩, ⟨zb_ HB.out⟩⟩
         ·replace c43 := Bool.eq_false_iff.mpr c43
          subst c43
          have H1 : (laws_FnTrimmed.j1 kj8 l1 t524 t525 t528 t531 t539 true) = some r := by rw [if_neg (show ¬ (false = true) by decide)] at H; exact H
          clear H
          have H := H1
          clear H1
          have H' := Aside0.mk H
          clear H
          go_wp2
          go_meet
          case rel => exact ⟨_, (true), (by first | rfl | (simp; done) | (simp [*]; done)), H', ⟨by have := HJ8.out; first | omega | exact Nat.le_refl _⟩, ⟨Kd.N_mono (zN_ HO_6.out) (fun _ _ => trivial)⟩, ⟨Kd.N_mono (zN_ HO_7.out) (fun _ _ => trivial)⟩, ⟨Kd.N_mono (zN_ HO_8.out) (fun _ _ => trivial)⟩, ⟨Kd.R_mono (zR_ HO_12.out) (fun _ _ => trivial)⟩, ⟨zb_ HB.out⟩⟩
        ·replace c42 := Bool.eq_false_iff.mpr c42
         subst c42
         have H1 : (laws_FnTrimmed.j1 kj8 l1 t524 t525 t528 t531 t539 true) = some r := by rw [if_neg (show ¬ (false = true) by decide)] at H; exact H
         clear H
         have H := H1
         clear H1
         have H' := Aside0.mk H
         clear H
         go_wp2
         go_meet
         case rel => exact ⟨_, (true), (by first | rfl | (simp; done) | (simp [*]; done)), H', ⟨by have := HJ8.out; first | omega | exact Nat.le_refl _⟩, ⟨Kd.N_mono (zN_ HO_6.out) (fun _ _ => trivial)⟩, ⟨Kd.N_mono (zN_ HO_7.out) (fun _ _ => trivial)⟩, ⟨Kd.N_mono (zN_ HO_8.out) (fun _ _ => trivial)⟩, ⟨Kd.R_mono (zR_ HO_12.out) (fun _ _ => trivial)⟩, ⟨zb_ HB.out⟩⟩
       case rest => as_aux_lemma =>
        clear HC39
        try clear c1
        try clear c2
        try clear p2
        try clear c3
        try clear c3b0
        try clear c4
        try clear c5
        try clear p6
        try clear c7
        try clear c17
        try clear c17b0
        try clear c17b1
        try clear c17b2
        try clear c19
        try clear c20
        try clear c20b0
        try clear c20b1
        try clear c20b2
        try clear c24
        try clear c35
        try clear c37
        try clear c40
        try clear c42
        try clear c43
        try clear c44
        try clear c44b0
        try clear c44b1
        try clear c45
        try clear c45b0
        try clear c45b1
        try clear c45b2
        try clear p2
        try clear p6
        obtain ⟨kq, x134_38, rfl, HA, HJ38, HO_6, HO_7, HO_8, HO_12, HB⟩ := hcut
        cases kq with
        | zero => exact absurd HA.out (by simp [laws_FnTrimmed.j1])
        | succ kj38 =>
         have H := HA.out
         clear HA
         simp only [laws_FnTrimmed.j1] at H
         by_cases c48 : x134_38 = true
         ·subst c48
          have H1 : (none) = some r := by rw [if_pos rfl] at H; exact H
          clear H
          have H := H1
          clear H1
          exact absurd H (by simp)
         ·replace c48 := Bool.eq_false_iff.mpr c48
          subst c48
          have H1 : (laws_FnTrimmed.l0 kj38 l1 t524 t525 t528 t531 t539 (t539.length : Int) 0) = some r := by rw [if_neg (show ¬ (false = true) by decide)] at H; exact H
          clear H
          have H := H1
          clear H1
          have H' := Aside0.mk H
          clear H
          obtain ⟨Ao49, co49, eo49⟩ := Kd.R_slice HO_12.out
          subst eo49
          go_wp2
          go_loopg [137] kj38 (fun kq v137 w' => ∃ (x137_3 : Int), v137 = .int .i64 x137_3 ∧ Aside0 (laws_FnTrimmed.l0 kq l1 t524 t525 t528 t531 t539 (t539.length : Int) x137_3 = some r) ∧ Aside0 (kq ≤ kj38) ∧ Aside0 (Kd.N (Kd.slice 3 (Kd.int .i64)) 42 w' w.heap.size (fun _ => True) (.slice Ao11 t525.length co11) t525) ∧ Aside0 (Kd.N (Kd.slice 3 (Kd.int .i64)) 42 w' w.heap.size (fun _ => True) (.slice Ao12 t528.length co12) t528) ∧ Aside0 (Kd.N (Kd.slice 3 (Kd.int .i64)) 42 w' w.heap.size (fun _ => True) (.slice Ao40 t531.length co40) t531) ∧ Aside0 (Kd.R (Kd.int .i64) 3 w' w.heap.size (fun _ => True) (.slice Ao49 t539.length co49) t539) ∧ Aside0 (Below w.heap.size w w'))
          case atStart => exact ⟨(0), (by first | rfl | (simp; done) | (simp [*]; done)), H', ⟨Nat.le_refl _⟩, ⟨Kd.N_mono (zN_ HO_6.out) (fun _ _ => trivial)⟩, ⟨Kd.N_mono (zN_ HO_7.out) (fun _ _ => trivial)⟩, ⟨Kd.N_mono (zN_ HO_8.out) (fun _ _ => trivial)⟩, ⟨Kd.R_mono (zR_ HO_12.out) (fun _ _ => trivial)⟩, ⟨zb_ HB.out⟩⟩
          case round =>
           clear H'
           try clear c1
           try clear c2
           try clear p2
           try clear c3
           try clear c3b0
           try clear c4
           try clear c5
           try clear p6
           try clear c7
           try clear c17
           try clear c17b0
           try clear c17b1
           try clear c17b2
           try clear c19
           try clear c20
           try clear c20b0
           try clear c20b1
           try clear c20b2
           try clear c24
           try clear c35
           try clear c37
           try clear c40
           try clear c42
           try clear c43
           try clear c44
           try clear c44b0
           try clear c44b1
           try clear c45
           try clear c45b0
           try clear c45b1
           try clear c45b2
           try clear c48
           try clear p2
           try clear p6
           obtain ⟨x137_3, rfl, HA, HK3, HO_6, HO_7, HO_8, HO_135, HB⟩ := hrel
           cases gk with
           | zero => exact absurd HA.out (by simp [laws_FnTrimmed.l0])
           | succ k3 =>
            have H := HA.out
            clear HA
            simp only [laws_FnTrimmed.l0] at H
            by_cases c50 : x137_3 < (t539.length : Int)
            ·rw [if_pos c50] at H
             have c50b0 : decide (x137_3 < (t539.length : Int)) = true := decide_eq_true c50
             clear c50
             by_cases c51 : 0 ≤ x137_3
             ·rw [if_pos c51] at H
              have c51b0 : decide (0 ≤ x137_3) = true := decide_eq_true c51
              clear c51
              by_cases c52 : x137_3 < (t539.length : Int)
              ·rw [if_pos c52] at H
               have c52b0 : decide (x137_3 < (t539.length : Int)) = true := decide_eq_true c52
               clear c52
               by_cases c53 : x137_3 < (t531.length : Int)
               ·rw [if_pos c53] at H
                have c53b0 : decide (x137_3 < (t531.length : Int)) = true := decide_eq_true c53
                clear c53
                by_cases c54 : 0 ≤ (rd t539 x137_3)
                ·rw [if_pos c54] at H
                 have c54b0 : decide (0 ≤ (rd t539 x137_3)) = true := decide_eq_true c54
                 clear c54
                 by_cases c55 : (rd t539 x137_3) < (t528.length : Int)
                 ·rw [if_pos c55] at H
                  have c55b0 : decide ((rd t539 x137_3) < (t528.length : Int)) = true := decide_eq_true c55
                  clear c55
                  replace H := Option.bind_eq_some_iff.mp H
                  obtain ⟨t555, A560, H⟩ := H
                  replace H : (if t555 = true then (laws_FnTrimmed.l0 k3 l1 t524 t525 t528 t531 t539 (t539.length : Int) (wrap64 (x137_3 + 1))) else (none)) = some r := H
                  have A56 := Aside0.mk A560
                  clear A560
                  by_cases c57 : t555 = true
                  ·subst c57
                   have H1 : (laws_FnTrimmed.l0 k3 l1 t524 t525 t528 t531 t539 (t539.length : Int) (wrap64 (x137_3 + 1))) = some r := by rw [if_pos rfl] at H; exact H
                   clear H
                   have H := H1
                   clear H1
                   have H' := Aside0.mk H
                   clear H
                   have p552 : 0 ≤ (x137_3 : Int) := of_decide_eq_true (by assumption)
                   have q552 : x137_3 < (t539.length : Int) := of_decide_eq_true (by assumption)
                   obtain ⟨ad552, e552, hx552_0⟩ := Kd.at_int (Kd.R_reads' HO_135.out).2.2 x137_3 p552 q552
                   cases e552
                   replace p552 := eq_true p552
                   replace q552 := eq_true q552
                   try go_wp2
                   have n0_ := Aside0.mk (Kd.N_drew HO_6.out)
                   have n1_ := Aside0.mk (Kd.N_drew HO_7.out)
                   have n2_ := Aside0.mk (Kd.N_drew HO_8.out)
                   have n3_ := Aside0.mk (Kd.R_drew HO_135.out)
                   have n4_ := Aside0.mk (below_drew1 HB.out)
                   clear HO_6
                   clear HO_7
                   clear HO_8
                   clear HO_135
                   clear HB
                   have HO_6 := n0_
                   have HO_7 := n1_
                   have HO_8 := n2_
                   have HO_135 := n3_
                   have HB := n4_
                   clear n0_ n1_ n2_ n3_ n4_
                   have p553 : 0 ≤ (x137_3 : Int) := of_decide_eq_true (by assumption)
                   have q553 : x137_3 < (t531.length : Int) := of_decide_eq_true (by assumption)
                   obtain ⟨ad553, A553_0, c553_0, e553, hx553_0, hl553_0, hi553_0⟩ := at_L1 (Kd.N_reads' HO_8.out).2.2 x137_3 p553 q553
                   cases e553
                   obtain ⟨ce553, hce553, hMe553, hcc553⟩ := Kd.N_get HO_8.out [] x137_3 p553 (by first | exact q553 | exact of_decide_eq_true (by assumption) | (have e_ := (Kd.N_reads' HO_8.out).1; omega))
                   obtain ⟨ua553_0, uc553_0, rfl, ul553_0, ge553_0⟩ := Kd.FK_slice_open hMe553
                   have hv553_0 := hcc553 0 _ rfl
                   rw [Nat.add_zero, show ((Kd.slice 3 (Kd.int .i64))).sz = 1 from rfl, Nat.mul_one] at hv553_0
                   replace hv553_0 := Option.some.inj (hv553_0.symm.trans hx553_0)
                   injection hv553_0 with hva_ hvn_ hvc_
                   rw [hva_] at ge553_0
                   rw [hvc_] at ul553_0
                   have HL553_0 := Aside0.mk (show Kd.V (Kd.int .i64) 3 _ w.heap.size _ _ (rd_L1 t531 x137_3) from Kd.V_mk ul553_0 ge553_0)
                   clear hva_ hvn_ hvc_ ge553_0 ul553_0
                   clear hcc553 hce553
                   have HR553_0 := Aside0.mk hi553_0
                   have HC553_0 := Aside0.mk hl553_0
                   clear hi553_0 hl553_0
                   replace p553 := eq_true p553
                   replace q553 := eq_true q553
                   have p554 : 0 ≤ ((rd t539 x137_3) : Int) := of_decide_eq_true (by assumption)
                   have q554 : (rd t539 x137_3) < (t528.length : Int) := of_decide_eq_true (by assumption)
                   obtain ⟨ad554, A554_0, c554_0, e554, hx554_0, hl554_0, hi554_0⟩ := at_L1 (Kd.N_reads' HO_7.out).2.2 (rd t539 x137_3) p554 q554
                   cases e554
                   obtain ⟨ce554, hce554, hMe554, hcc554⟩ := Kd.N_get HO_7.out [] (rd t539 x137_3) p554 (by first | exact q554 | exact of_decide_eq_true (by assumption) | (have e_ := (Kd.N_reads' HO_7.out).1; omega))
                   obtain ⟨ua554_0, uc554_0, rfl, ul554_0, ge554_0⟩ := Kd.FK_slice_open hMe554
                   have hv554_0 := hcc554 0 _ rfl
                   rw [Nat.add_zero, show ((Kd.slice 3 (Kd.int .i64))).sz = 1 from rfl, Nat.mul_one] at hv554_0
                   replace hv554_0 := Option.some.inj (hv554_0.symm.trans hx554_0)
                   injection hv554_0 with hva_ hvn_ hvc_
                   rw [hva_] at ge554_0
                   rw [hvc_] at ul554_0
                   have HL554_0 := Aside0.mk (show Kd.V (Kd.int .i64) 3 _ w.heap.size _ _ (rd_L1 t528 (rd t539 x137_3)) from Kd.V_mk ul554_0 ge554_0)
                   clear hva_ hvn_ hvc_ ge554_0 ul554_0
                   clear hcc554 hce554
                   have HR554_0 := Aside0.mk hi554_0
                   have HC554_0 := Aside0.mk hl554_0
                   clear hi554_0 hl554_0
                   replace p554 := eq_true p554
                   replace q554 := eq_true q554
                   refine start_ (n := 10) (S := fun w' => w'.cell? (ad553.add (x137_3).toNat) = some (.slice A553_0 (rd_L1 t531 x137_3).length c553_0) ∧ w'.cell? (ad554.add ((rd t539 x137_3)).toNat) = some (.slice A554_0 (rd_L1 t528 (rd t539 x137_3)).length c554_0)) (ds := []) #[false, false, false, false, false, false, false, false, false, false] (by kernel_rfl) rfl rfl ⟨hx553_0, hx554_0⟩ (fun hHeld => ?_); refine with_tabW laws_FnTrimmed.tab17 laws_FnTrimmed.bits17 (fun HT_ HW_ => ?_)
                   generalize wr.drew = w58 at HO_6 HO_7 HO_8 HO_135 HB HL553_0 HL554_0 HR553_0 HR554_0 hx553_0 hx554_0 hHeld ⊢
                   refine pure_ (i := 0) (N := some 142) (v := ?_) (a' := ?_) #[true, false, false, false, false, false, false, false, false, false] rfl rfl (any_of HT_.out (by kernel_rfl)) (fun _ _ _ h => h) (Or.inl ⟨by rfl, ?_⟩) ?_ ?_
                   rotate_left
                   ·intro w'
                    go_simp
                    with_reducible rfl
                   rotate_left
                   ·simp only [Act.put, List.setIfInBounds_toArray, List.set_cons_zero, List.set_cons_succ, i64_w, i32_w]
                    rfl
                   refine pure_ (i := 1) (N := some 143) (v := ?_) (a' := ?_) #[true, true, false, false, false, false, false, false, false, false] rfl rfl (any_of HT_.out (by kernel_rfl)) (fun _ _ _ h => h) (Or.inl ⟨by rfl, ?_⟩) ?_ ?_
                   rotate_left
                   ·intro w'
                    go_simp
                    with_reducible rfl
                   rotate_left
                   ·simp only [Act.put, List.setIfInBounds_toArray, List.set_cons_zero, List.set_cons_succ, i64_w, i32_w]
                    rfl
                   refine pure_ (i := 2) (N := some 144) (v := ?_) (a' := ?_) #[true, true, true, false, false, false, false, false, false, false] rfl rfl (any_of HT_.out (by kernel_rfl)) (fun _ _ _ h => h) (Or.inl ⟨by rfl, ?_⟩) ?_ ?_
                   rotate_left
                   ·intro w'
                    go_simp
                    with_reducible rfl
                   rotate_left
                   ·simp only [Act.put, List.setIfInBounds_toArray, List.set_cons_zero, List.set_cons_succ, i64_w, i32_w]
                    rfl
                   refine pure_ (i := 4) (N := some 146) (v := ?_) (a' := ?_) #[true, true, true, false, true, false, false, false, false, false] rfl rfl (any_of HT_.out (by kernel_rfl)) (fun _ _ _ h => h) (Or.inl ⟨by rfl, ?_⟩) ?_ ?_
                   rotate_left
                   ·intro w'
                    go_simp
                    with_reducible rfl
                   rotate_left
                   ·simp only [Act.put, List.setIfInBounds_toArray, List.set_cons_zero, List.set_cons_succ, i64_w, i32_w]
                    rfl
                   refine pure_ (i := 5) (N := some 147) (v := ?_) (a' := ?_) #[true, true, true, false, true, true, false, false, false, false] rfl rfl (any_of HT_.out (by kernel_rfl)) (fun _ _ _ h => h) (Or.inl ⟨by rfl, ?_⟩) ?_ ?_
                   rotate_left
                   ·intro w'
                    go_simp
                    with_reducible rfl
                   rotate_left
                   ·simp only [Act.put, List.setIfInBounds_toArray, List.set_cons_zero, List.set_cons_succ, i64_w, i32_w]
                    rfl
                   refine pure_ (i := 6) (N := some 148) (v := ?_) (a' := ?_) #[true, true, true, false, true, true, true, false, false, false] rfl rfl (any_of HT_.out (by kernel_rfl)) (fun _ _ _ h => h) (Or.inl ⟨by rfl, ?_⟩) ?_ ?_
                   rotate_left
                   ·intro w'
                    go_simp
                    with_reducible rfl
                   rotate_left
                   ·simp only [Act.put, List.setIfInBounds_toArray, List.set_cons_zero, List.set_cons_succ, i64_w, i32_w]
                    rfl
                   refine take_ (i := 3) (N := some 145) (v := ?_) (a' := ?_) #[true, true, true, true, true, true, true, false, false, false] rfl rfl (take_ofW HT_.out HW_.out (by kernel_rfl)) (fun _ _ _ h => h) (Or.inl ⟨by rfl, ?_⟩) hHeld ?_ ?_
                   rotate_left
                   ·rintro w' ⟨s0, s1⟩
                    go_simp
                    with_reducible rfl
                   rotate_left
                   ·simp only [Act.put, List.setIfInBounds_toArray, List.set_cons_zero, List.set_cons_succ, i64_w, i32_w]
                    rfl
                   refine take_ (i := 7) (N := some 149) (v := ?_) (a' := ?_) #[true, true, true, true, true, true, true, true, false, false] rfl rfl (take_ofW HT_.out HW_.out (by kernel_rfl)) (fun _ _ _ h => h) (Or.inl ⟨by rfl, ?_⟩) hHeld ?_ ?_
                   rotate_left
                   ·rintro w' ⟨s0, s1⟩
                    go_simp
                    with_reducible rfl
                   rotate_left
                   ·simp only [Act.put, List.setIfInBounds_toArray, List.set_cons_zero, List.set_cons_succ, i64_w, i32_w]
                    rfl
                   refine one_ (i := 8) (N := some 150) #[true, true, true, true, true, true, true, true, true, false] rfl rfl (one_of HT_.out (by kernel_rfl)) (by decide) (fun K hK => ?_)
                   refine goes_ Try.func56 (by kernel_rfl) rfl #[.slice A553_0 (rd_L1 t531 x137_3).length c553_0, .slice A554_0 (rd_L1 t528 (rd t539 x137_3)).length c554_0] (by rfl) rfl rfl (by simp only [zA_, zB_, zD_] <;> rfl) ?_
                   with_reducible refine (laws_sameInts.calls k3 _ _ (rd_L1 t531 x137_3) _ _ (rd_L1 t528 (rd t539 x137_3)) true _ ?side1 ?side2 ?side3 ?side4 A56.out).mono ?_
                   (case side1 => repeat (first | exact (by repeat (first | (with_reducible exact HR553_0.out) | (with_reducible refine Kd.C_alloc ?_ _) | (with_reducible refine Kd.C_drewN ?_ _) | (with_reducible refine Kd.C_drew ?_) | exact HR553_0.out)) | (with_reducible refine Kd.C_alloc ?_ _) | (with_reducible refine Kd.C_drewN ?_ _) | (with_reducible refine Kd.C_drew ?_)))
                   (case side2 => exact HC553_0.out)
                   (case side3 => repeat (first | exact (by repeat (first | (with_reducible exact HR554_0.out) | (with_reducible refine Kd.C_alloc ?_ _) | (with_reducible refine Kd.C_drewN ?_ _) | (with_reducible refine Kd.C_drew ?_) | exact HR554_0.out)) | (with_reducible refine Kd.C_alloc ?_ _) | (with_reducible refine Kd.C_drewN ?_ _) | (with_reducible refine Kd.C_drew ?_)))
                   (case side4 => exact HC554_0.out)
                   rintro e w' ⟨rfl, ⟨nd, rfl⟩⟩
                   refine ⟨_, rfl, ?_⟩
                   refine hK.out _ _ ⟨hHeld.1, hHeld.2⟩ (fun hHeld => ?_)
                   clear hK K
                   refine norm_ (a' := ?_) ?_ ?_
                   rotate_left
                   ·show Act.put _ (some 150) _ = _
                    simp only [Act.put, List.setIfInBounds_toArray, List.set_cons_zero, List.set_cons_succ, i64_w, i32_w]
                    rfl
                   refine pure_ (i := 9) (N := some 151) (v := ?_) (a' := ?_) #[true, true, true, true, true, true, true, true, true, true] rfl rfl (any_of HT_.out (by kernel_rfl)) (fun _ _ _ h => h) (Or.inl ⟨by rfl, ?_⟩) ?_ ?_
                   rotate_left
                   ·intro w'
                    go_simp
                    with_reducible rfl
                   rotate_left
                   ·simp only [Act.put, List.setIfInBounds_toArray, List.set_cons_zero, List.set_cons_succ, i64_w, i32_w]
                    rfl
                   refine done_ (done_of HT_.out (by kernel_rfl)) ?_
                   try go_wp2
                   go_roundg k3
                   case measure => have := HJ8.out; have := HJ38.out; have := HK3.out; omega
                   case rel => exact ⟨(wrap64 (x137_3 + 1)), (by first | rfl | (simp; done) | (simp [*]; done)), H', ⟨by have := HJ8.out; have := HJ38.out; have := HK3.out; omega⟩, ⟨Kd.N_mono (zN_ HO_6.out) (fun _ _ => trivial)⟩, ⟨Kd.N_mono (zN_ HO_7.out) (fun _ _ => trivial)⟩, ⟨Kd.N_mono (zN_ HO_8.out) (fun _ _ => trivial)⟩, ⟨Kd.R_mono (zR_ HO_135.out) (fun _ _ => trivial)⟩, ⟨zb_ HB.out⟩⟩
                  ·replace c57 := Bool.eq_false_iff.mpr c57
                   subst c57
                   have H1 : (none) = some r := by rw [if_neg (show ¬ (false = true) by decide)] at H; exact H
                   clear H
                   have H := H1
                   clear H1
                   exact absurd H (by simp)
                 ·rw [if_neg c55] at H
                  exact absurd H (by simp)
                ·rw [if_neg c54] at H
                 exact absurd H (by simp)
               ·rw [if_neg c53] at H
                exact absurd H (by simp)
              ·rw [if_neg c52] at H
               exact absurd H (by simp)
             ·rw [if_neg c51] at H
              exact absurd H (by simp)
            ·rw [if_neg c50] at H
             have c50b0 : decide (x137_3 < (t539.length : Int)) = false := decide_eq_false c50
             clear c50
             replace H := Option.bind_eq_some_iff.mp H
             obtain ⟨t556, A590, H⟩ := H
             replace H : (if (t531.length : Int) = 0 then (none) else ((some (([] : List (List Int)) : List (List Int))).bind fun y557 => (if 0 ≤ (Int.tmod t556 (t531.length : Int)) then (if (Int.tmod t556 (t531.length : Int)) ≤ (t531.length : Int) then ((some (t531.take ((Int.tmod t556 (t531.length : Int)) : Int).toNat : List (List Int))).bind fun y560 => (if y557.length + y560.length < 5864062014805 then ((some (y557 ++ y560 : List (List Int))).bind fun y565 => (if 0 ≤ (wrap64 ((Int.tmod t556 (t531.length : Int)) + 1)) then (if (wrap64 ((Int.tmod t556 (t531.length : Int)) + 1)) ≤ (t531.length : Int) then ((some (t531.drop ((wrap64 ((Int.tmod t556 (t531.length : Int)) + 1)) : Int).toNat : List (List Int))).bind fun y568 => (if y565.length + y568.length < 5864062014805 then ((impl_CheckProof.f k3 t524 t525 (y565 ++ y568)).bind fun bt576 => (if bt576.2.2 = true then (if bt576.1 = true then (none) else (laws_FnTrimmed.j3 k3 l1)) else (none))) else (none))) else (none)) else (none))) else (none))) else (none)) else (none)))) = some r := H
             have A59 := Aside0.mk A590
             clear A590
             by_cases c60 : (t531.length : Int) = 0
             ·rw [if_pos c60] at H
              exact absurd H (by simp)
             ·rw [if_neg c60] at H
              have c60b0 : ((t531.length : Int) == 0) = false := beq_eq_false_iff_ne.mpr c60
              have c60b1 : ((t531.length : Int) != 0) = true := bne_iff_ne.mpr c60
              have c60b2 : ¬ (t531 = []) := fun h_ => c60 (by rw [h_]; rfl)
              obtain ⟨y557, hy557⟩ : ∃ y_ : List (List Int), y_ = (([] : List (List Int))) := ⟨_, rfl⟩
              replace H : (if 0 ≤ (Int.tmod t556 (t531.length : Int)) then (if (Int.tmod t556 (t531.length : Int)) ≤ (t531.length : Int) then ((some (t531.take ((Int.tmod t556 (t531.length : Int)) : Int).toNat : List (List Int))).bind fun y560 => (if y557.length + y560.length < 5864062014805 then ((some (y557 ++ y560 : List (List Int))).bind fun y565 => (if 0 ≤ (wrap64 ((Int.tmod t556 (t531.length : Int)) + 1)) then (if (wrap64 ((Int.tmod t556 (t531.length : Int)) + 1)) ≤ (t531.length : Int) then ((some (t531.drop ((wrap64 ((Int.tmod t556 (t531.length : Int)) + 1)) : Int).toNat : List (List Int))).bind fun y568 => (if y565.length + y568.length < 5864062014805 then ((impl_CheckProof.f k3 t524 t525 (y565 ++ y568)).bind fun bt576 => (if bt576.2.2 = true then (if bt576.1 = true then (none) else (laws_FnTrimmed.j3 k3 l1)) else (none))) else (none))) else (none)) else (none))) else (none))) else (none)) else (none)) = some r := by first | (rw [hy557]; with_reducible exact H) | (have H2_ := (Option.bind_some _ _).symm.trans H; rw [hy557]; with_reducible exact H2_) | (have H2_ := (Option.bind_some _ _).symm.trans H; with_reducible exact H2_) | with_reducible exact H | (rw [hy557]; exact H) | exact H
              have Ny557 := Aside0.mk hy557
              clear hy557
              obtain ⟨ji61, hji61⟩ : ∃ j_ : Int, (Int.tmod t556 (t531.length : Int)) = j_ := ⟨_, rfl⟩
              replace H : (if 0 ≤ (ji61) then (if (ji61) ≤ (t531.length : Int) then ((some (t531.take ((ji61) : Int).toNat : List (List Int))).bind fun y560 => (if y557.length + y560.length < 5864062014805 then ((some (y557 ++ y560 : List (List Int))).bind fun y565 => (if 0 ≤ (wrap64 ((ji61) + 1)) then (if (wrap64 ((ji61) + 1)) ≤ (t531.length : Int) then ((some (t531.drop ((wrap64 ((ji61) + 1)) : Int).toNat : List (List Int))).bind fun y568 => (if y565.length + y568.length < 5864062014805 then ((impl_CheckProof.f k3 t524 t525 (y565 ++ y568)).bind fun bt576 => (if bt576.2.2 = true then (if bt576.1 = true then (none) else (laws_FnTrimmed.j3 k3 l1)) else (none))) else (none))) else (none)) else (none))) else (none))) else (none)) else (none)) = some r := by first | (rw [hji61] at H; exact H) | (simp only [hji61] at H ⊢; exact H)
              (try rw [hji61] at A59)
              by_cases c62 : 0 ≤ (ji61)
              ·rw [if_pos c62] at H
               have c62b0 := eq_true c62
               have c62b1 : decide (0 ≤ (ji61)) = true := decide_eq_true c62
               clear c62
               by_cases c63 : (ji61) ≤ (t531.length : Int)
               ·rw [if_pos c63] at H
                have c63b0 := eq_true c63
                have c63b1 : decide ((ji61) ≤ (t531.length : Int)) = true := decide_eq_true c63
                clear c63
                obtain ⟨y560, hy560⟩ : ∃ y_ : List (List Int), y_ = (t531.take ((ji61) : Int).toNat) := ⟨_, rfl⟩
                replace H : (if y557.length + y560.length < 5864062014805 then ((some (y557 ++ y560 : List (List Int))).bind fun y565 => (if 0 ≤ (wrap64 ((ji61) + 1)) then (if (wrap64 ((ji61) + 1)) ≤ (t531.length : Int) then ((some (t531.drop ((wrap64 ((ji61) + 1)) : Int).toNat : List (List Int))).bind fun y568 => (if y565.length + y568.length < 5864062014805 then ((impl_CheckProof.f k3 t524 t525 (y565 ++ y568)).bind fun bt576 => (if bt576.2.2 = true then (if bt576.1 = true then (none) else (laws_FnTrimmed.j3 k3 l1)) else (none))) else (none))) else (none)) else (none))) else (none)) = some r := by first | (rw [hy560]; with_reducible exact H) | (have H2_ := (Option.bind_some _ _).symm.trans H; rw [hy560]; with_reducible exact H2_) | (have H2_ := (Option.bind_some _ _).symm.trans H; with_reducible exact H2_) | with_reducible exact H | (rw [hy560]; exact H) | exact H
                have Ny560 := Aside0.mk hy560
                clear hy560
                by_cases c64 : y557.length + y560.length < 5864062014805
                ·rw [if_pos c64] at H
                 have LMc64 := Aside0.mk c64
                 clear c64
                 obtain ⟨y565, hy565⟩ : ∃ y_ : List (List Int), y_ = (y557 ++ y560) := ⟨_, rfl⟩
                 replace H : (if 0 ≤ (wrap64 ((ji61) + 1)) then (if (wrap64 ((ji61) + 1)) ≤ (t531.length : Int) then ((some (t531.drop ((wrap64 ((ji61) + 1)) : Int).toNat : List (List Int))).bind fun y568 => (if y565.length + y568.length < 5864062014805 then ((impl_CheckProof.f k3 t524 t525 (y565 ++ y568)).bind fun bt576 => (if bt576.2.2 = true then (if bt576.1 = true then (none) else (laws_FnTrimmed.j3 k3 l1)) else (none))) else (none))) else (none)) else (none)) = some r := by first | (rw [hy565]; with_reducible exact H) | (have H2_ := (Option.bind_some _ _).symm.trans H; rw [hy565]; with_reducible exact H2_) | (have H2_ := (Option.bind_some _ _).symm.trans H; with_reducible exact H2_) | with_reducible exact H | (rw [hy565]; exact H) | exact H
                 have Ny565 := Aside0.mk hy565
                 clear hy565
                 obtain ⟨ji65, hji65⟩ : ∃ j_ : Int, (wrap64 ((ji61) + 1)) = j_ := ⟨_, rfl⟩
                 replace H : (if 0 ≤ (ji65) then (if (ji65) ≤ (t531.length : Int) then ((some (t531.drop ((ji65) : Int).toNat : List (List Int))).bind fun y568 => (if y565.length + y568.length < 5864062014805 then ((impl_CheckProof.f k3 t524 t525 (y565 ++ y568)).bind fun bt576 => (if bt576.2.2 = true then (if bt576.1 = true then (none) else (laws_FnTrimmed.j3 k3 l1)) else (none))) else (none))) else (none)) else (none)) = some r := by first | (rw [hji65] at H; exact H) | (simp only [hji65] at H ⊢; exact H)
                 (try rw [hji65] at A59)
                 have hji65w : (IntKind.i64.wrap ((ji61) + 1)) = ji65 := (i64_w _).trans hji65
                 by_cases c66 : 0 ≤ (ji65)
                 ·rw [if_pos c66] at H
                  have c66b0 := eq_true c66
                  have c66b1 : decide (0 ≤ (ji65)) = true := decide_eq_true c66
                  clear c66
                  by_cases c67 : (ji65) ≤ (t531.length : Int)
                  ·rw [if_pos c67] at H
                   have c67b0 := eq_true c67
                   have c67b1 : decide ((ji65) ≤ (t531.length : Int)) = true := decide_eq_true c67
                   clear c67
                   obtain ⟨y568, hy568⟩ : ∃ y_ : List (List Int), y_ = (t531.drop ((ji65) : Int).toNat) := ⟨_, rfl⟩
                   replace H : (if y565.length + y568.length < 5864062014805 then ((impl_CheckProof.f k3 t524 t525 (y565 ++ y568)).bind fun bt576 => (if bt576.2.2 = true then (if bt576.1 = true then (none) else (laws_FnTrimmed.j3 k3 l1)) else (none))) else (none)) = some r := by first | (rw [hy568]; with_reducible exact H) | (have H2_ := (Option.bind_some _ _).symm.trans H; rw [hy568]; with_reducible exact H2_) | (have H2_ := (Option.bind_some _ _).symm.trans H; with_reducible exact H2_) | with_reducible exact H | (rw [hy568]; exact H) | exact H
                   have Ny568 := Aside0.mk hy568
                   clear hy568
                   by_cases c68 : y565.length + y568.length < 5864062014805
                   ·rw [if_pos c68] at H
                    have LMc68 := Aside0.mk c68
                    clear c68
                    obtain ⟨y573, hy573⟩ : ∃ y_ : List (List Int), y_ = (y565 ++ y568) := ⟨_, rfl⟩
                    replace H : ((impl_CheckProof.f k3 t524 t525 y573).bind fun bt576 => (if bt576.2.2 = true then (if bt576.1 = true then (none) else (laws_FnTrimmed.j3 k3 l1)) else (none))) = some r := by first | (rw [hy573]; with_reducible exact H) | (have H2_ := (Option.bind_some _ _).symm.trans H; rw [hy573]; with_reducible exact H2_) | (have H2_ := (Option.bind_some _ _).symm.trans H; with_reducible exact H2_) | with_reducible exact H | (rw [hy573]; exact H) | exact H
                    have Ny573 := Aside0.mk hy573
                    clear hy573
                    replace H := Option.bind_eq_some_iff.mp H
                    obtain ⟨⟨t576, t577, t578⟩, A690, H⟩ := H
                    replace H : (if t578 = true then (if t576 = true then (none) else (laws_FnTrimmed.j3 k3 l1)) else (none)) = some r := H
                    have A69 := Aside0.mk A690
                    clear A690
                    by_cases c70 : t578 = true
                    ·subst c70
                     have H1 : (if t576 = true then (none) else (laws_FnTrimmed.j3 k3 l1)) = some r := by rw [if_pos rfl] at H; exact H
                     clear H
                     have H := H1
                     clear H1
                     by_cases c71 : t576 = true
                     ·subst c71
                      have H1 : (none) = some r := by rw [if_pos rfl] at H; exact H
                      clear H
                      have H := H1
                      clear H1
                      exact absurd H (by simp)
                     ·replace c71 := Bool.eq_false_iff.mpr c71
                      subst c71
                      have H1 : (laws_FnTrimmed.j3 k3 l1) = some r := by rw [if_neg (show ¬ (false = true) by decide)] at H; exact H
                      clear H
                      have H := H1
                      clear H1
                      have H' := Aside0.mk H
                      clear H
                      try go_wp2_with (first | ((with_reducible refine gate_callee (f := 57) rfl ?_); refine goesL_ (some 154) rfl rfl Try.func57 (by kernel_rfl) rfl #[.slice A1 l1.length c1] rfl (by simp only [zA_, zB_, zD_] <;> rfl) ?_; (with_reducible refine (laws_numberOf.calls k3 _ _ l1 t556 _ ?side1 ?side2 A59.out).mono ?_); (case side1 => exact zC_ (Kd.C_below HR1.out HB.out)); (case side2 => exact HC1.out); rintro e w' ⟨rfl, ⟨nd, rfl⟩⟩; refine ⟨_, rfl, ?_⟩))
                      (try (rw [drewN_self wr]; generalize hq_ : World.drewN wr _ = wr; have n0_ : Aside0 (Kd.R (Kd.int .i64) 3 wr w.heap.size (fun _ => True) (.slice Ao49 t539.length co49) t539) := ⟨by rw [← hq_]; exact (zR_ HO_135.out)⟩; have n1_ : Aside0 (Kd.N (Kd.slice 3 (Kd.int .i64)) 42 wr w.heap.size (fun _ => True) (.slice Ao11 t525.length co11) t525) := ⟨by rw [← hq_]; exact (zN_ HO_6.out)⟩; have n2_ : Aside0 (Kd.N (Kd.slice 3 (Kd.int .i64)) 42 wr w.heap.size (fun _ => True) (.slice Ao12 t528.length co12) t528) := ⟨by rw [← hq_]; exact (zN_ HO_7.out)⟩; have n3_ : Aside0 (Kd.N (Kd.slice 3 (Kd.int .i64)) 42 wr w.heap.size (fun _ => True) (.slice Ao40 t531.length co40) t531) := ⟨by rw [← hq_]; exact (zN_ HO_8.out)⟩; have n4_ : Aside0 (Below w.heap.size w wr) := ⟨by rw [← hq_]; exact (zb_ HB.out)⟩; clear HO_135 HO_6 HO_7 HO_8 HB hq_; have HO_135 := n0_; have HO_6 := n1_; have HO_7 := n2_; have HO_8 := n3_; have HB := n4_; clear n0_ n1_ n2_ n3_ n4_))
                      have n0_ := Aside0.mk (Kd.N_drew HO_6.out)
                      have n1_ := Aside0.mk (Kd.N_drew HO_7.out)
                      have n2_ := Aside0.mk (Kd.N_drew HO_8.out)
                      have n3_ := Aside0.mk (Kd.R_drew HO_135.out)
                      have n4_ := Aside0.mk (below_drew1 HB.out)
                      clear HO_6
                      clear HO_7
                      clear HO_8
                      clear HO_135
                      clear HB
                      have HO_6 := n0_
                      have HO_7 := n1_
                      have HO_8 := n2_
                      have HO_135 := n3_
                      have HB := n4_
                      clear n0_ n1_ n2_ n3_ n4_
                      have q73 : ((ji61) : Int) ≤ ((t531.length : Int) : Int) := of_decide_eq_true (by assumption)
                      obtain ⟨i073, hi073, _, hsz73, _⟩ := info_parts info42
                      have hroom73 : t531.length ≤ co40 := (Kd.N_reads' HO_8.out).2.1
                      have hC73 : Kd.F (Kd.slice 3 (Kd.int .i64)) _ _ Ao40 t531.length t531 := (Kd.V_at (base := w.heap.size) (Kd.N_V HO_8.out)).2.2
                      have hcut73 := cut_to (P := Try.prog) 50 42 .i64 Try.underlying50 hi073 Ao40 t531.length co40 (ji61) (of_decide_eq_true (by assumption)) q73 hroom73
                      have hr73 := Kd.F_take (m := ((ji61) : Int).toNat) hC73 (by omega)
                      have hy73 : y560.length = ((ji61) : Int).toNat := (by rw [Ny560.out, List.length_take]; omega)
                      rw [← Ny560.out] at hr73
                      rw [← hy73] at hcut73
                      have HO564 := Aside0.mk (show Kd.V (Kd.slice 3 (Kd.int .i64)) 42 _ w.heap.size _ (.slice Ao40 y560.length co40) y560 from Kd.V_mk (by omega) hr73)
                      have HC564 := Aside0.mk (show y560.length ≤ co40 from by omega)
                      clear hr73 hC73 hroom73 hi073 hsz73
                      have KY73 := Aside0.mk hy73
                      clear hy73
                      replace q73 := eq_true q73
                      have q74 : ((ji65) : Int) ≤ ((t531.length : Int) : Int) := of_decide_eq_true (by assumption)
                      obtain ⟨i074, hi074, _, hsz74, _⟩ := info_parts info42
                      have hroom74 : t531.length ≤ co40 := (Kd.N_reads' HO_8.out).2.1
                      have hC74 : Kd.F (Kd.slice 3 (Kd.int .i64)) _ _ Ao40 t531.length t531 := (Kd.V_at (base := w.heap.size) (Kd.N_V HO_8.out)).2.2
                      have q074 : (0 : Int) ≤ ((ji65) : Int) := of_decide_eq_true (by assumption)
                      have hcut74 := cut_from (P := Try.prog) 50 42 .i64 Try.underlying50 hi074 1 hsz74 Ao40 t531.length co40 (ji65) q074 q74
                      have hr74 := Kd.F_cut (m := ((ji65) : Int).toNat) (c := co40) hC74 (by omega) hroom74
                      obtain ⟨A74, hA74⟩ : ∃ A1, A1 = (if co40 = ((ji65) : Int).toNat then Ao40 else (Ao40 : Option Addr).map (·.add (((ji65) : Int).toNat * 1))) := ⟨_, rfl⟩
                      obtain ⟨c74, hc74⟩ : ∃ c1, c1 = co40 - ((ji65) : Int).toNat := ⟨_, rfl⟩
                      have hy74 : y568.length = t531.length - ((ji65) : Int).toNat := (by rw [Ny568.out, List.length_drop] <;> omega)
                      rw [show (t531).drop ((ji65) : Int).toNat = y568 from Ny568.out.symm] at hr74
                      replace hr74 : Kd.F (Kd.slice 3 (Kd.int .i64)) _ _ A74 y568.length y568 := (by rw [hA74]; exact hr74)
                      rw [← hy74, ← hA74, ← hc74] at hcut74
                      have HO572 := Aside0.mk (show Kd.V (Kd.slice 3 (Kd.int .i64)) 42 _ w.heap.size _ (.slice A74 y568.length c74) y568 from Kd.V_mk (by rw [hy74, hc74]; exact Nat.sub_le_sub_right hroom74 _) hr74)
                      have HC572 := Aside0.mk (show y568.length ≤ c74 from by rw [hy74, hc74]; exact Nat.sub_le_sub_right hroom74 _)
                      clear hr74 hC74 hroom74 hi074 hsz74 hc74
                      have KY74 := Aside0.mk hy74
                      have KA74 := Aside0.mk hA74
                      clear hy74 hA74
                      replace q74 := eq_true q74
                      refine start_ (n := 11) (S := fun w' => True) (ds := []) #[false, false, false, false, false, false, false, false, false, false, false] (by kernel_rfl) rfl rfl trivial (fun hHeld => ?_); refine with_tabW laws_FnTrimmed.tab21 laws_FnTrimmed.bits21 (fun HT_ HW_ => ?_)
                      generalize wr.drew = w72 at HO_6 HO_7 HO_8 HO_135 HB HO564 HO572 hHeld ⊢
                      refine pure_ (i := 1) (N := some 159) (v := ?_) (a' := ?_) #[false, true, false, false, false, false, false, false, false, false, false] rfl rfl (any_of HT_.out (by kernel_rfl)) (fun _ _ _ h => h) (Or.inl ⟨by rfl, ?_⟩) ?_ ?_
                      rotate_left
                      ·intro w'
                       go_simp
                       with_reducible rfl
                      rotate_left
                      ·simp only [Act.put, List.setIfInBounds_toArray, List.set_cons_zero, List.set_cons_succ, i64_w, i32_w]
                       rfl
                      refine pure_ (i := 2) (N := some 160) (v := ?_) (a' := ?_) #[false, true, true, false, false, false, false, false, false, false, false] rfl rfl (any_of HT_.out (by kernel_rfl)) (fun _ _ _ h => h) (Or.inl ⟨by rfl, ?_⟩) ?_ ?_
                      rotate_left
                      ·intro w'
                       go_simp
                       with_reducible rfl
                      rotate_left
                      ·simp only [Act.put, List.setIfInBounds_toArray, List.set_cons_zero, List.set_cons_succ, i64_w, i32_w]
                       rfl
                      refine pure_ (i := 3) (N := some 161) (v := ?_) (a' := ?_) #[false, true, true, true, false, false, false, false, false, false, false] rfl rfl (any_of HT_.out (by kernel_rfl)) (fun _ _ _ h => h) (Or.inl ⟨by rfl, ?_⟩) ?_ ?_
                      rotate_left
                      ·intro w'
                       go_simp
                       with_reducible rfl
                      rotate_left
                      ·simp only [Act.put, List.setIfInBounds_toArray, List.set_cons_zero, List.set_cons_succ, i64_w, i32_w]
                       rfl
                      refine pure_ (i := 5) (N := some 163) (v := ?_) (a' := ?_) #[false, true, true, true, false, true, false, false, false, false, false] rfl rfl (any_of HT_.out (by kernel_rfl)) (fun _ _ _ h => h) (Or.inl ⟨by rfl, ?_⟩) ?_ ?_
                      rotate_left
                      ·intro w'
                       go_simp
                       with_reducible rfl
                      rotate_left
                      ·simp only [Act.put, List.setIfInBounds_toArray, List.set_cons_zero, List.set_cons_succ, i64_w, i32_w]
                       rfl
                      refine pure_ (i := 6) (N := some 164) (v := ?_) (a' := ?_) #[false, true, true, true, false, true, true, false, false, false, false] rfl rfl (any_of HT_.out (by kernel_rfl)) (fun _ _ _ h => h) (Or.inl ⟨by rfl, ?_⟩) ?_ ?_
                      rotate_left
                      ·intro w'
                       go_simp
                       with_reducible rfl
                      rotate_left
                      ·simp only [Act.put, List.setIfInBounds_toArray, List.set_cons_zero, List.set_cons_succ, i64_w, i32_w]
                       rfl
                      refine pure_ (i := 7) (N := some 165) (v := ?_) (a' := ?_) #[false, true, true, true, false, true, true, true, false, false, false] rfl rfl (any_of HT_.out (by kernel_rfl)) (fun _ _ _ h => h) (Or.inl ⟨by rfl, ?_⟩) ?_ ?_
                      rotate_left
                      ·intro w'
                       go_simp
                       with_reducible rfl
                      rotate_left
                      ·simp only [Act.put, List.setIfInBounds_toArray, List.set_cons_zero, List.set_cons_succ, i64_w, i32_w]
                       rfl
                      refine pure_ (i := 8) (N := some 166) (v := ?_) (a' := ?_) #[false, true, true, true, false, true, true, true, true, false, false] rfl rfl (any_of HT_.out (by kernel_rfl)) (fun _ _ _ h => h) (Or.inl ⟨by rfl, ?_⟩) ?_ ?_
                      rotate_left
                      ·intro w'
                       go_simp
                       with_reducible rfl
                      rotate_left
                      ·simp only [Act.put, List.setIfInBounds_toArray, List.set_cons_zero, List.set_cons_succ, i64_w, i32_w]
                       rfl
                      refine one_ (i := 0) (N := some 158) #[true, true, true, true, false, true, true, true, true, false, false] rfl rfl (one_of HT_.out (by kernel_rfl)) (by decide) (fun K hK => ?_)
                      refine Kd.N_lit_step (Kd.slice 3 (Kd.int .i64)) _ 42 ?hg (N' := 158) ?hd (xs := ([] : List (List Int))) (inner := []) (ok := (fun _ => True)) (okp := (fun _ => True)) ?hr ?hp (fun _ hk => hk) ((show ∀ k_, w72.heap.size ≤ k_ → (fun _ => True) k_ from fun k_ hk => trivial) _ (Nat.le_refl _)) (Below.refl _ _) (Nat.le_refl _) (by simp) ?_; (case hd => rfl); (case hg => rfl); (case hr => first | (go_simp; done) | (go_simp; rfl)); (case hp => exact (Reps.none _ _))
                      intro v558 w75 ho76 hb hg_ hnew_
                      clear hg_ hnew_
                      (first | rw [← Ny557.out] at ho76 | (simp only [Int.reduceToNat] at ho76; rw [← Ny557.out] at ho76))
                      have n0_ := Aside0.mk (Kd.N_elder' (zN_ HO_6.out) (by first | exact Kd.N_base ho76 | exact Kd.S_base ho76) hb)
                      have n1_ := Aside0.mk (Kd.N_elder' (zN_ HO_7.out) (by first | exact Kd.N_base ho76 | exact Kd.S_base ho76) hb)
                      have n2_ := Aside0.mk (Kd.N_elder' (zN_ HO_8.out) (by first | exact Kd.N_base ho76 | exact Kd.S_base ho76) hb)
                      have n3_ := Aside0.mk (Kd.R_below (zR_ HO_135.out) hb)
                      have n4_ := Aside0.mk (Kd.V_elder' (by (with_reducible repeat (first | apply Kd.V_alloc | apply Kd.V_drewN | apply Kd.V_drew)); exact HO564.out) (by first | exact Kd.N_base ho76 | exact Kd.S_base ho76) hb)
                      have n5_ := Aside0.mk (Kd.V_elder' (by (with_reducible repeat (first | apply Kd.V_alloc | apply Kd.V_drewN | apply Kd.V_drew)); exact HO572.out) (by first | exact Kd.N_base ho76 | exact Kd.S_base ho76) hb)
                      have n6_ := Aside0.mk (Kd.N_lower ho76 (below_size (zb_ HB.out)))
                      have n7_ := Aside0.mk (below_step (zb_ HB.out) hb)
                      clear HO_6
                      clear HO_7
                      clear HO_8
                      clear HO_135
                      clear HO564
                      clear HO572
                      clear HB
                      have HO_6 := n0_
                      have HO_7 := n1_
                      have HO_8 := n2_
                      have HO_135 := n3_
                      have HO564 := n4_
                      have HO572 := n5_
                      have HO559 := n6_
                      have HB := n7_
                      clear n0_ n1_ n2_ n3_ n4_ n5_ n6_ n7_
                      clear hb ho76
                      refine hK.out _ _ trivial (fun hHeld => ?_)
                      clear hK K
                      refine norm_ (a' := ?_) ?_ ?_
                      rotate_left
                      ·show Act.put _ (some 158) _ = _
                       simp only [Act.put, List.setIfInBounds_toArray, List.set_cons_zero, List.set_cons_succ, i64_w, i32_w]
                       rfl
                      refine one_ (i := 4) (N := some 162) #[true, true, true, true, true, true, true, true, true, false, false] rfl rfl (one_of HT_.out (by kernel_rfl)) (by decide) (fun K hK => ?_)
                      refine Kd.N_append_rows_step (Kd.slice 3 (Kd.int .i64)) (w0 := w) w.heap.size (by rfl) (.tmp 158) (.tmp 161) 50 42 (.slice none 0 0) 24 rfl Try.underlying50 info42 rfl (by decide) (by omega) v558 y557 y560 _ _ _ (fun _ => True) (fun k_ => ((fun _ => True)) k_ ∧ some k_ ≠ (v558 : Value).ownBlock) rfl rfl ?aO ?aR (fun _ hk => hk) ?aF ?aB ?aS ?aL ?_
                      (case aR => exact (by skip; exact Kd.V_F (Kd.V_mono (ok' := (fun k_ => ((fun _ => True)) k_ ∧ some k_ ≠ (v558 : Value).ownBlock)) (HO564.out) (fun k_ hk => ⟨trivial, hk.2⟩))))
                      (case aB => exact (zb_ HB.out))
                      (case aF => exact (fun _ _ => trivial))
                      (case aO => exact (zN_ HO559.out))
                      (case aS => exact (below_size (zb_ HB.out)))
                      (case aL => have := LMc64.out; omega)
                      intro v566 w77 ho hb hg hat
                      rw [← Ny565.out] at ho
                      have n0_ := Aside0.mk (Kd.N_afterv (ok := (fun _ => True)) (zN_ HO_6.out) hg hat)
                      have n1_ := Aside0.mk (Kd.N_afterv (ok := (fun _ => True)) (zN_ HO_7.out) hg hat)
                      have n2_ := Aside0.mk (Kd.N_afterv (ok := (fun _ => True)) (zN_ HO_8.out) hg hat)
                      have n3_ := Aside0.mk (Kd.R_over' (zR_ HO_135.out) (Kd.N_typed (zN_ HO559.out)) (by decide) hg)
                      have n4_ := Aside0.mk (Kd.V_afterv (ok := (fun _ => True)) (by (with_reducible repeat (first | apply Kd.V_alloc | apply Kd.V_drewN | apply Kd.V_drew)); exact HO564.out) hg hat)
                      have n5_ := Aside0.mk (Kd.V_afterv (ok := (fun _ => True)) (by (with_reducible repeat (first | apply Kd.V_alloc | apply Kd.V_drewN | apply Kd.V_drew)); exact HO572.out) hg hat)
                      have n6_ := Aside0.mk (hb)
                      have n7_ := Aside0.mk (ho)
                      clear HO_6
                      clear HO_7
                      clear HO_8
                      clear HO_135
                      clear HO564
                      clear HO572
                      clear HB
                      clear HO559
                      have HO_6 := n0_
                      have HO_7 := n1_
                      have HO_8 := n2_
                      have HO_135 := n3_
                      have HO564 := n4_
                      have HO572 := n5_
                      have HB := n6_
                      have HO567 := n7_
                      clear n0_ n1_ n2_ n3_ n4_ n5_ n6_ n7_
                      clear ho hb hg hat
                      refine hK.out _ _ trivial (fun hHeld => ?_)
                      clear hK K
                      refine norm_ (a' := ?_) ?_ ?_
                      rotate_left
                      ·show Act.put _ (some 162) _ = _
                       simp only [Act.put, List.setIfInBounds_toArray, List.set_cons_zero, List.set_cons_succ, i64_w, i32_w]
                       rfl
                      refine one_ (i := 9) (N := some 167) #[true, true, true, true, true, true, true, true, true, true, false] rfl rfl (one_of HT_.out (by kernel_rfl)) (by decide) (fun K hK => ?_)
                      refine Kd.N_append_rows_step (Kd.slice 3 (Kd.int .i64)) (w0 := w) w.heap.size (by rfl) (.tmp 162) (.tmp 166) 50 42 (.slice none 0 0) 24 rfl Try.underlying50 info42 rfl (by decide) (by omega) v566 y565 y568 _ _ _ (fun _ => True) (fun k_ => ((fun _ => True)) k_ ∧ some k_ ≠ (v566 : Value).ownBlock) rfl rfl ?aO ?aR (fun _ hk => hk) ?aF ?aB ?aS ?aL ?_
                      (case aR => exact (by skip; exact Kd.V_F (Kd.V_mono (ok' := (fun k_ => ((fun _ => True)) k_ ∧ some k_ ≠ (v566 : Value).ownBlock)) (HO572.out) (fun k_ hk => ⟨trivial, hk.2⟩))))
                      (case aB => exact (zb_ HB.out))
                      (case aF => exact (fun _ _ => trivial))
                      (case aO => exact (zN_ HO567.out))
                      (case aS => exact (below_size (zb_ HB.out)))
                      (case aL => have := LMc68.out; omega)
                      intro v574 w78 ho hb hg hat
                      rw [← Ny573.out] at ho
                      have n0_ := Aside0.mk (Kd.N_afterv (ok := (fun _ => True)) (zN_ HO_6.out) hg hat)
                      have n1_ := Aside0.mk (Kd.N_afterv (ok := (fun _ => True)) (zN_ HO_7.out) hg hat)
                      have n2_ := Aside0.mk (Kd.N_afterv (ok := (fun _ => True)) (zN_ HO_8.out) hg hat)
                      have n3_ := Aside0.mk (Kd.R_over' (zR_ HO_135.out) (Kd.N_typed (zN_ HO567.out)) (by decide) hg)
                      have n4_ := Aside0.mk (Kd.V_afterv (ok := (fun _ => True)) (by (with_reducible repeat (first | apply Kd.V_alloc | apply Kd.V_drewN | apply Kd.V_drew)); exact HO564.out) hg hat)
                      have n5_ := Aside0.mk (Kd.V_afterv (ok := (fun _ => True)) (by (with_reducible repeat (first | apply Kd.V_alloc | apply Kd.V_drewN | apply Kd.V_drew)); exact HO572.out) hg hat)
                      have n6_ := Aside0.mk (hb)
                      have n7_ := Aside0.mk (ho)
                      clear HO_6
                      clear HO_7
                      clear HO_8
                      clear HO_135
                      clear HO564
                      clear HO572
                      clear HB
                      clear HO567
                      have HO_6 := n0_
                      have HO_7 := n1_
                      have HO_8 := n2_
                      have HO_135 := n3_
                      have HO564 := n4_
                      have HO572 := n5_
                      have HB := n6_
                      have HO575 := n7_
                      clear n0_ n1_ n2_ n3_ n4_ n5_ n6_ n7_
                      clear ho hb hg hat
                      refine hK.out _ _ trivial (fun hHeld => ?_)
                      clear hK K
                      refine norm_ (a' := ?_) ?_ ?_
                      rotate_left
                      ·show Act.put _ (some 167) _ = _
                       simp only [Act.put, List.setIfInBounds_toArray, List.set_cons_zero, List.set_cons_succ, i64_w, i32_w]
                       rfl
                      refine pure_ (i := 10) (N := some 22) (v := ?_) (a' := ?_) #[true, true, true, true, true, true, true, true, true, true, true] rfl rfl (any_of HT_.out (by kernel_rfl)) (fun _ _ _ h => h) (Or.inl ⟨by rfl, ?_⟩) ?_ ?_
                      rotate_left
                      ·intro w'
                       go_simp
                       with_reducible rfl
                      rotate_left
                      ·simp only [Act.put, List.setIfInBounds_toArray, List.set_cons_zero, List.set_cons_succ, i64_w, i32_w]
                       rfl
                      refine done_ (done_of HT_.out (by kernel_rfl)) ?_
                      obtain ⟨Ao79, co79, eo79⟩ := Kd.N_slice HO575.out
                      subst eo79
                      try go_wp2_with (first | ((with_reducible refine gate_callee (f := 40) rfl ?_); refine goesL_ (some 172) rfl rfl Try.func40 (by kernel_rfl) rfl #[.int .i64 t524, .slice Ao11 t525.length co11, .slice Ao79 y573.length co79] rfl (by simp only [zA_, zB_, zD_] <;> rfl) ?_; (with_reducible refine (impl_CheckProof.calls k3 t524 _ _ t525 _ _ y573 false t577 true _ ?side1 ?side2 ?side3 ?side4 A69.out).mono ?_); (case side1 => exact zC_ (Kd.N_reads' HO_6.out).2.2); (case side2 => exact (Kd.N_reads' HO_6.out).2.1); (case side3 => exact zC_ (Kd.N_reads' HO575.out).2.2); (case side4 => exact (Kd.N_reads' HO575.out).2.1); rintro e w80 ⟨rfl, hb⟩; refine ⟨_, rfl, ?_⟩; have n0_ := Aside0.mk (Kd.N_below (zN_ HO_6.out) hb); have n1_ := Aside0.mk (Kd.N_below (zN_ HO_7.out) hb); have n2_ := Aside0.mk (Kd.N_below (zN_ HO_8.out) hb); have n3_ := Aside0.mk (Kd.R_below (zR_ HO_135.out) hb); have n4_ := Aside0.mk (Kd.V_below (by (with_reducible repeat (first | apply Kd.V_alloc | apply Kd.V_drewN | apply Kd.V_drew)); exact HO564.out) hb); have n5_ := Aside0.mk (Kd.V_below (by (with_reducible repeat (first | apply Kd.V_alloc | apply Kd.V_drewN | apply Kd.V_drew)); exact HO572.out) hb); have n6_ := Aside0.mk (Kd.N_below (zN_ HO575.out) hb); have n7_ := Aside0.mk (below_step (zb_ HB.out) hb); clear HO_6; clear HO_7; clear HO_8; clear HO_135; clear HO564; clear HO572; clear HO575; clear HB; have HO_6 := n0_; have HO_7 := n1_; have HO_8 := n2_; have HO_135 := n3_; have HO564 := n4_; have HO572 := n5_; have HO575 := n6_; have HB := n7_; clear n0_ n1_ n2_ n3_ n4_ n5_ n6_ n7_; (try clear hb); (try clear hb2); (try clear hk); (try clear hi)))
                      go_meet
                      case rel => exact ⟨_, H', ⟨by have := HJ8.out; have := HJ38.out; have := HK3.out; first | omega | exact Nat.le_refl _⟩, ⟨zb_ HB.out⟩⟩
                    ·replace c70 := Bool.eq_false_iff.mpr c70
                     subst c70
                     have H1 : (none) = some r := by rw [if_neg (show ¬ (false = true) by decide)] at H; exact H
                     clear H
                     have H := H1
                     clear H1
                     exact absurd H (by simp)
                   ·rw [if_neg c68] at H
                    exact absurd H (by simp)
                  ·rw [if_neg c67] at H
                   exact absurd H (by simp)
                 ·rw [if_neg c66] at H
                  exact absurd H (by simp)
                ·rw [if_neg c64] at H
                 exact absurd H (by simp)
               ·rw [if_neg c63] at H
                exact absurd H (by simp)
              ·rw [if_neg c62] at H
               exact absurd H (by simp)
      ·replace c37 := Bool.eq_false_iff.mpr c37
       subst c37
       have H1 : (laws_FnTrimmed.j3 kj8 l1) = some r := by rw [if_neg (show ¬ (false = true) by decide)] at H; exact H
       clear H
       have H := H1
       clear H1
       have H' := Aside0.mk H
       clear H
       go_wp2
       go_meet
       case rel => exact ⟨_, H', ⟨by have := HJ8.out; first | omega | exact Nat.le_refl _⟩, ⟨zb_ HB.out⟩⟩
     case rest => as_aux_lemma =>
      clear HC36
      try clear c1
      try clear p2
      try clear c3
      try clear c4
      try clear c5
      try clear p5
      try clear q5
      try clear hx5
      try clear c6
      try clear p6
      try clear c7
      try clear q7
      try clear c37
      try clear c40
      try clear c45
      try clear c45b1
      try clear c45b2
      try clear c48
      try clear c50
      try clear c50b0
      try clear c51
      try clear c51b0
      try clear c52
      try clear c52b0
      try clear c53
      try clear c53b0
      try clear c54
      try clear c54b0
      try clear c55
      try clear c55b0
      try clear p55
      try clear q55
      try clear hx55
      try clear c56
      try clear c57
      try clear c60
      try clear c60b0
      try clear c60b1
      try clear c60b2
      try clear c62
      try clear c62b0
      try clear c62b1
      try clear c63
      try clear c63b0
      try clear c63b1
      try clear c64
      try clear p64
      try clear c66
      try clear c66b0
      try clear c66b1
      try clear c67
      try clear c67b0
      try clear c67b1
      try clear c68
      try clear c70
      try clear c71
      try clear q73
      try clear c74
      try clear q74
      try clear hx552_0
      try clear hx553_0
      try clear hx554_0
      try clear p2
      try clear p552
      try clear p553
      try clear p554
      try clear p6
      try clear q074
      try clear q552
      try clear q553
      try clear q554
      try clear q73
      try clear q74
      obtain ⟨kq, HA, HJ35, HB⟩ := hcut
      cases kq with
      | zero => exact absurd HA.out (by simp [laws_FnTrimmed.j3])
      | succ kj35 =>
       have H := HA.out
       clear HA
       simp only [laws_FnTrimmed.j3] at H
       replace H := Option.bind_eq_some_iff.mp H
       obtain ⟨⟨t579, t580, t581⟩, A810, H⟩ := H
       replace H : ((impl_IsAtOnce.f kj35 t579 t580 t581).bind fun bt586 => ((spec_IsAtOnce.f kj35 t579 t580 t581).bind fun bt588 => (if (bt586.2 != bt588.2) = true then (laws_FnTrimmed.j4 kj35 t579 t580 t581 bt586.1 bt586.2 true) else (laws_FnTrimmed.j4 kj35 t579 t580 t581 bt586.1 bt586.2 (bt586.1 != bt588.1))))) = some r := H
       have A81 := Aside0.mk A810
       clear A810
       replace H := Option.bind_eq_some_iff.mp H
       obtain ⟨⟨t586, t587⟩, A820, H⟩ := H
       replace H : ((spec_IsAtOnce.f kj35 t579 t580 t581).bind fun bt588 => (if (t587 != bt588.2) = true then (laws_FnTrimmed.j4 kj35 t579 t580 t581 t586 t587 true) else (laws_FnTrimmed.j4 kj35 t579 t580 t581 t586 t587 (t586 != bt588.1)))) = some r := H
       have A82 := Aside0.mk A820
       clear A820
       replace H := Option.bind_eq_some_iff.mp H
       obtain ⟨⟨t588, t589⟩, A830, H⟩ := H
       replace H : (if (t587 != t589) = true then (laws_FnTrimmed.j4 kj35 t579 t580 t581 t586 t587 true) else (laws_FnTrimmed.j4 kj35 t579 t580 t581 t586 t587 (t586 != t588))) = some r := H
       have A83 := Aside0.mk A830
       clear A830
       have HC84 := Aside0.mk H
       clear H
       go_upto_region 28 with (first | ((with_reducible refine gate_callee (f := 58) rfl ?_); refine goesL_ (some 183) rfl rfl Try.func58 (by kernel_rfl) rfl #[.slice A1 l1.length c1] rfl (by simp only [zA_, zB_, zD_] <;> rfl) ?_; (with_reducible refine (spec_DrawIsAtOnce.calls kj35 _ _ l1 t579 t580 t581 _ ?side1 ?side2 A81.out).mono ?_); (case side1 => exact zC_ (Kd.C_below HR1.out HB.out)); (case side2 => exact HC1.out); rintro e w85 ⟨v582, v584, rfl, ho0, ho1, hb⟩; refine ⟨_, rfl, ?_⟩; have n0_ := Aside0.mk (Kd.N_lower (by first | exact ho0 | exact Kd.S_N ho0 | exact Kd.R_N ho0) (below_size (zb_ HB.out))); have n1_ := Aside0.mk (Kd.R_mono (ok' := fun _ => True) (Kd.R_lower ho1 (below_size (zb_ HB.out))) (fun _ _ => trivial)); have n2_ := Aside0.mk (below_step (zb_ HB.out) hb); clear HB; have HO583 := n0_; have HO585 := n1_; have HB := n2_; clear n0_ n1_ n2_; (try clear hb); (try clear hb2); (try clear hk); (try clear hi); (try clear ho0); (try clear ho1); obtain ⟨Ao86, co86, eo86⟩ := Kd.N_slice HO583.out; subst eo86; obtain ⟨Ao87, co87, eo87⟩ := Kd.R_slice HO585.out; subst eo87) | ((with_reducible refine gate_callee (f := 59) rfl ?_); refine goesL_ (some 191) rfl rfl Try.func59 (by kernel_rfl) rfl #[.int .i64 t579, .slice Ao86 t580.length co86, .slice Ao87 t581.length co87] rfl (by simp only [zA_, zB_, zD_] <;> rfl) ?_; (with_reducible refine (impl_IsAtOnce.calls kj35 t579 _ _ t580 _ _ t581 t586 t587 _ ?side1 ?side2 ?side3 ?side4 A82.out).mono ?_); (case side1 => exact zC_ (Kd.N_reads' HO583.out).2.2); (case side2 => exact (Kd.N_reads' HO583.out).2.1); (case side3 => exact zC_ (Kd.R_reads' HO585.out).2.2); (case side4 => exact (Kd.R_reads' HO585.out).2.1); rintro e w88 ⟨rfl, hb⟩; refine ⟨_, rfl, ?_⟩; have n0_ := Aside0.mk (Kd.N_below (zN_ HO583.out) hb); have n1_ := Aside0.mk (Kd.R_below (zR_ HO585.out) hb); have n2_ := Aside0.mk (below_step (zb_ HB.out) hb); clear HO583; clear HO585; clear HB; have HO583 := n0_; have HO585 := n1_; have HB := n2_; clear n0_ n1_ n2_; (try clear hb); (try clear hb2); (try clear hk); (try clear hi)) | ((with_reducible refine gate_callee (f := 60) rfl ?_); refine goesL_ (some 198) rfl rfl Try.func60 (by kernel_rfl) rfl #[.int .i64 t579, .slice Ao86 t580.length co86, .slice Ao87 t581.length co87] rfl (by simp only [zA_, zB_, zD_] <;> rfl) ?_; (with_reducible refine (spec_IsAtOnce.calls kj35 t579 _ _ t580 _ _ t581 t588 t589 _ ?side1 ?side2 ?side3 ?side4 A83.out).mono ?_); (case side1 => exact zC_ (Kd.N_reads' HO583.out).2.2); (case side2 => exact (Kd.N_reads' HO583.out).2.1); (case side3 => exact zC_ (Kd.R_reads' HO585.out).2.2); (case side4 => exact (Kd.R_reads' HO585.out).2.1); rintro e w89 ⟨rfl, hb⟩; refine ⟨_, rfl, ?_⟩; have n0_ := Aside0.mk (Kd.N_below (zN_ HO583.out) hb); have n1_ := Aside0.mk (Kd.R_below (zR_ HO585.out) hb); have n2_ := Aside0.mk (below_step (zb_ HB.out) hb); clear HO583; clear HO585; clear HB; have HO583 := n0_; have HO585 := n1_; have HB := n2_; clear n0_ n1_ n2_; (try clear hb); (try clear hb2); (try clear hk); (try clear hi)))
       (try simp only [Act.put, List.setIfInBounds_toArray, List.set_cons_zero, List.set_cons_succ])
       go_cut [208] (fun v208 wc => ∃ (kq : Nat) (x208_83 : Bool), v208 = .bool x208_83 ∧ Aside0 (laws_FnTrimmed.j4 kq t579 t580 t581 t586 t587 x208_83 = some r) ∧ Aside0 (kq ≤ kj35) ∧ Aside0 (Kd.N (Kd.slice 3 (Kd.int .i64)) 42 wc w.heap.size (fun _ => True) (.slice Ao86 t580.length co86) t580) ∧ Aside0 (Kd.R (Kd.int .i64) 3 wc w.heap.size (fun _ => True) (.slice Ao87 t581.length co87) t581) ∧ Aside0 (Below w.heap.size w wc))
       case first => as_aux_lemma =>
        have H := HC84.out
        clear HC84
        by_cases c90 : (t587 != t589) = true
        ·rw [if_pos c90] at H
         have c90b0 : (t587 != t589) = true := c90
         (try (have c90b1 : decide (t587 = t589) = false := by simpa using c90))
         (try (have c90b2 : (t587 == t589) = false := by simpa using c90))
         (try (have c90b3 : ¬ (t587 = t589) := by simpa using c90))
         clear c90
         (first | rw [c90b0] | (simp only [i64_w, i32_w]; rw [c90b0]) | skip)
         have H' := Aside0.mk H
         clear H
         go_wp2
         go_meet
         case rel => exact ⟨_, (true), (by first | rfl | (simp; done) | (simp [*]; done)), H', ⟨by have := HJ8.out; have := HJ35.out; first | omega | exact Nat.le_refl _⟩, ⟨Kd.N_mono (zN_ HO583.out) (fun _ _ => trivial)⟩, ⟨Kd.R_mono (zR_ HO585.out) (fun _ _ => trivial)⟩, ⟨zb_ HB.out⟩⟩
        ·rw [if_neg c90] at H
         have c90b0 : (t587 != t589) = false := by simpa using c90
         (try (have c90b1 : decide (t587 = t589) = true := by simpa using c90))
         (try (have c90b2 : (t587 == t589) = true := by simpa using c90))
         clear c90
         (first | rw [c90b0] | (simp only [i64_w, i32_w]; rw [c90b0]) | skip)
         have H' := Aside0.mk H
         clear H
         go_wp2
         go_meet
         case rel => exact ⟨_, ((t586 != t588)), (by first | rfl | (simp; done) | (simp [*]; done)), H', ⟨by have := HJ8.out; have := HJ35.out; first | omega | exact Nat.le_refl _⟩, ⟨Kd.N_mono (zN_ HO583.out) (fun _ _ => trivial)⟩, ⟨Kd.R_mono (zR_ HO585.out) (fun _ _ => trivial)⟩, ⟨zb_ HB.out⟩⟩
       case rest => as_aux_lemma =>
        clear HC84
        try clear c1
        try clear p2
        try clear c3
        try clear c4
        try clear c5
        try clear p5
        try clear q5
        try clear hx5
        try clear c6
        try clear p6
        try clear c7
        try clear q7
        try clear c9
        try clear c37
        try clear c40
        try clear c45
        try clear c45b1
        try clear c45b2
        try clear c48
        try clear c50
        try clear c50b0
        try clear c51
        try clear c51b0
        try clear c52
        try clear c52b0
        try clear c53
        try clear c53b0
        try clear c54
        try clear c54b0
        try clear c55
        try clear c55b0
        try clear p55
        try clear q55
        try clear hx55
        try clear c56
        try clear c57
        try clear c58
        try clear c59
        try clear c60
        try clear c60b0
        try clear c60b1
        try clear c60b2
        try clear c62
        try clear c62b0
        try clear c62b1
        try clear c63
        try clear c63b0
        try clear c63b1
        try clear c64
        try clear p64
        try clear c66
        try clear c66b0
        try clear c66b1
        try clear c67
        try clear c67b0
        try clear c67b1
        try clear c68
        try clear c70
        try clear c71
        try clear q73
        try clear c74
        try clear q74
        try clear c90
        try clear c90b0
        try clear c90b1
        try clear c90b2
        try clear hx552_0
        try clear hx553_0
        try clear hx554_0
        try clear p2
        try clear p5
        try clear p55
        try clear p552
        try clear p553
        try clear p554
        try clear p6
        try clear p64
        try clear q074
        try clear q5
        try clear q55
        try clear q552
        try clear q553
        try clear q554
        try clear q7
        try clear q73
        try clear q74
        obtain ⟨kq, x208_83, rfl, HA, HJ83, HO_27, HO_28, HB⟩ := hcut
        cases kq with
        | zero => exact absurd HA.out (by simp [laws_FnTrimmed.j4])
        | succ kj83 =>
         have H := HA.out
         clear HA
         simp only [laws_FnTrimmed.j4] at H
         by_cases c91 : x208_83 = true
         ·subst c91
          have H1 : (none) = some r := by rw [if_pos rfl] at H; exact H
          clear H
          have H := H1
          clear H1
          exact absurd H (by simp)
         ·replace c91 := Bool.eq_false_iff.mpr c91
          subst c91
          have H1 : (if t587 = true then (if t586 = true then ((impl_FollowsFrom.f kj83 t579 t580 t581).bind fun bt590 => (if bt590.2 = true then (some bt590.1) else (some true))) else (some true)) else (some true)) = some r := by rw [if_neg (show ¬ (false = true) by decide)] at H; exact H
          clear H
          have H := H1
          clear H1
          by_cases c92 : t587 = true
          ·subst c92
           have H1 : (if t586 = true then ((impl_FollowsFrom.f kj83 t579 t580 t581).bind fun bt590 => (if bt590.2 = true then (some bt590.1) else (some true))) else (some true)) = some r := by rw [if_pos rfl] at H; exact H
           clear H
           have H := H1
           clear H1
           by_cases c93 : t586 = true
           ·subst c93
            have H1 : ((impl_FollowsFrom.f kj83 t579 t580 t581).bind fun bt590 => (if bt590.2 = true then (some bt590.1) else (some true))) = some r := by rw [if_pos rfl] at H; exact H
            clear H
            have H := H1
            clear H1
            replace H := Option.bind_eq_some_iff.mp H
            obtain ⟨⟨t590, t591⟩, A940, H⟩ := H
            replace H : (if t591 = true then (some t590) else (some true)) = some r := H
            have A94 := Aside0.mk A940
            clear A940
            by_cases c95 : t591 = true
            ·subst c95
             have H1 : (some t590) = some r := by rw [if_pos rfl] at H; exact H
             clear H
             have H := H1
             clear H1
             obtain rfl := Option.some.inj H
             go_wp2_with (first | ((with_reducible refine gate_callee (f := 61) rfl ?_); refine goesL_ (some 217) rfl rfl Try.func61 (by kernel_rfl) rfl #[.int .i64 t579, .slice Ao86 t580.length co86, .slice Ao87 t581.length co87] rfl (by simp only [zA_, zB_, zD_] <;> rfl) ?_; (with_reducible refine (impl_FollowsFrom.calls kj83 t579 _ _ t580 _ _ t581 t590 true _ ?side1 ?side2 ?side3 ?side4 A94.out).mono ?_); (case side1 => exact zC_ (Kd.N_reads' HO_27.out).2.2); (case side2 => exact (Kd.N_reads' HO_27.out).2.1); (case side3 => exact zC_ (Kd.R_reads' HO_28.out).2.2); (case side4 => exact (Kd.R_reads' HO_28.out).2.1); rintro e w96 ⟨rfl, hb⟩; refine ⟨_, rfl, ?_⟩; have n0_ := Aside0.mk (Kd.N_below (zN_ HO_27.out) hb); have n1_ := Aside0.mk (Kd.R_below (zR_ HO_28.out) hb); have n2_ := Aside0.mk (below_step (zb_ HB.out) hb); clear HO_27; clear HO_28; clear HB; have HO_27 := n0_; have HO_28 := n1_; have HB := n2_; clear n0_ n1_ n2_; (try clear hb); (try clear hb2); (try clear hk); (try clear hi)))
             go_ret
             exact ⟨by first | rfl | (simp [errW_none, errW_some] <;> rfl) | (simp [*, errW_none, errW_some] <;> rfl), zb_ HB.out⟩
            ·replace c95 := Bool.eq_false_iff.mpr c95
             subst c95
             have H1 : (some true) = some r := by rw [if_neg (show ¬ (false = true) by decide)] at H; exact H
             clear H
             have H := H1
             clear H1
             obtain rfl := Option.some.inj H
             go_wp2_with (first | ((with_reducible refine gate_callee (f := 61) rfl ?_); refine goesL_ (some 217) rfl rfl Try.func61 (by kernel_rfl) rfl #[.int .i64 t579, .slice Ao86 t580.length co86, .slice Ao87 t581.length co87] rfl (by simp only [zA_, zB_, zD_] <;> rfl) ?_; (with_reducible refine (impl_FollowsFrom.calls kj83 t579 _ _ t580 _ _ t581 t590 false _ ?side1 ?side2 ?side3 ?side4 A94.out).mono ?_); (case side1 => exact zC_ (Kd.N_reads' HO_27.out).2.2); (case side2 => exact (Kd.N_reads' HO_27.out).2.1); (case side3 => exact zC_ (Kd.R_reads' HO_28.out).2.2); (case side4 => exact (Kd.R_reads' HO_28.out).2.1); rintro e w97 ⟨rfl, hb⟩; refine ⟨_, rfl, ?_⟩; have n0_ := Aside0.mk (Kd.N_below (zN_ HO_27.out) hb); have n1_ := Aside0.mk (Kd.R_below (zR_ HO_28.out) hb); have n2_ := Aside0.mk (below_step (zb_ HB.out) hb); clear HO_27; clear HO_28; clear HB; have HO_27 := n0_; have HO_28 := n1_; have HB := n2_; clear n0_ n1_ n2_; (try clear hb); (try clear hb2); (try clear hk); (try clear hi)))
             go_ret
             exact ⟨by first | rfl | (simp [errW_none, errW_some] <;> rfl) | (simp [*, errW_none, errW_some] <;> rfl), zb_ HB.out⟩
           ·replace c93 := Bool.eq_false_iff.mpr c93
            subst c93
            have H1 : (some true) = some r := by rw [if_neg (show ¬ (false = true) by decide)] at H; exact H
            clear H
            have H := H1
            clear H1
            obtain rfl := Option.some.inj H
            go_wp2
            go_ret
            exact ⟨by first | rfl | (simp [errW_none, errW_some] <;> rfl) | (simp [*, errW_none, errW_some] <;> rfl), zb_ HB.out⟩
          ·replace c92 := Bool.eq_false_iff.mpr c92
           subst c92
           have H1 : (some true) = some r := by rw [if_neg (show ¬ (false = true) by decide)] at H; exact H
           clear H
           have H := H1
           clear H1
           obtain rfl := Option.some.inj H
           go_wp2
           go_ret
           exact ⟨by first | rfl | (simp [errW_none, errW_some] <;> rfl) | (simp [*, errW_none, errW_some] <;> rfl), zb_ HB.out⟩
/-- THE ONE PURE STATEMENT of laws_FnTrimmed: yours. -/
def laws_FnTrimmed.Pure : Prop := ∀ (l0 : List Int) (l1 : List Int), l0.length ≤ maxLen → l0.length * 1 ≤ 140737488351232 → (∀ x ∈ l0, (Lit.int .u8 x).wf = true) → l1.length ≤ maxLen → l1.length * 1 ≤ 140737488351232 → (∀ x ∈ l1, (Lit.int .u8 x).wf = true) → ∃ k, laws_FnTrimmed.f k l0 l1 = some true
theorem laws_FnTrimmed.walk (P : laws_FnTrimmed.Pure) (a0 : Option Addr) (len0 cap0 : Nat) (z0 : List Int) (a1 : Option Addr) (len1 cap1 : Nat) (z1 : List Int) (w : World) (w0 : (a0 = none ∧ len0 = 0 ∧ cap0 = 0 ∧ z0 = []) ∨ ∃ x, a0 = some x ∧ len0 ≤ cap0 ∧ cap0 ≤ maxLen ∧ z0.length = cap0 ∧ (∀ i, i < z0.length → w.cell? (x.add i) = some (.int .u8 (z0.getD i 0))) ∧ ∀ n ∈ z0, (Lit.int .u8 n).wf = true) (y0 : len0 * 1 ≤ 140737488351232) (w1 : (a1 = none ∧ len1 = 0 ∧ cap1 = 0 ∧ z1 = []) ∨ ∃ x, a1 = some x ∧ len1 ≤ cap1 ∧ cap1 ≤ maxLen ∧ z1.length = cap1 ∧ (∀ i, i < z1.length → w.cell? (x.add i) = some (.int .u8 (z1.getD i 0))) ∧ ∀ n ∈ z1, (Lit.int .u8 n).wf = true) (y1 : len1 * 1 ≤ 140737488351232) :
  Calls Try.prog 7 #[.slice a0 len0 cap0, .slice a1 len1 cap1] w fun e w' => e = .returned (.bool true) ∧ Below w.heap.size w w' := by
 obtain ⟨l0, rfl, hr0, hm0, hw0, hc0⟩ := ReadsInt.ofRowC w0
 obtain ⟨l1, rfl, hr1, hm1, hw1, hc1⟩ := ReadsInt.ofRowC w1
 obtain ⟨k, h⟩ := P l0 l1 hm0 y0 hw0 hm1 y1 hw1
 refine (laws_FnTrimmed.calls k _ _ l0 _ _ l1 true w (Kd.C_of_reads (d := (0 : Int)) (h1 := fun _ => rfl) hr0) hc0 (Kd.C_of_reads (d := (0 : Int)) (h1 := fun _ => rfl) hr1) hc1 h).mono ?_
 rintro e w' ⟨rfl, hd⟩
 exact ⟨rfl, hd⟩
end Go.Proofs.Ytpkbjgmeejlchaa.PFnTrimmed
-- squeezed
