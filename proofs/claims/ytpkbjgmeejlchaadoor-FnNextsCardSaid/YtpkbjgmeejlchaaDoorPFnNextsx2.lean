-- Made by a program of this session (wip/tools), which leans on the kit's print: checked by Lean alone.
import Derived.Test.YtpkbjgmeejlchaaDoorPFnNextsx0
import Derived.Test.YtpkbjgmeejlchaaDoorPFnNextsx1
namespace Go.Proofs.YtpkbjgmeejlchaaDoor.PFnNexts
open Go.RowKit Go.Proofs.YtpkbjgmeejlchaaDoorW.PrintWords Go.Proofs.YtpkbjgmeejlchaaDoorW.PrintLast Go.Proofs.YtpkbjgmeejlchaaDoorW.PrintMore
attribute [local go_sem] max2_int min2_int max_two min_two max_three min_three max_four min_four   -- for this text's walks alone
set_option linter.unusedVariables false
set_option linter.unusedSimpArgs false
mutual
def spec_l1Cur_step.j0 : Nat → Int → Bool → List Int → Int → Int → Int → Int → Int → Int → Int → Int → Option (Int × Int × Int × Int × Int × Int × Int × Int)
 | 0, _, _, _, _, _, _, _, _, _, _, _ => none
 | k + 1, x1, x16, x1000, x1001, x1002, x123000, x123001, x123002, x123003, x123004, x123005 => if x16 = true then (spec_l1Cur_step.j1 k x1 x1000 x1001 x1002 3 x123001 x123002 x123003 x123004 x123005) else (spec_l1Cur_step.j1 k x1 x1000 x1001 x1002 x123000 x123001 x123002 x123003 x123004 x123005)
def spec_l1Cur_step.j1 : Nat → Int → List Int → Int → Int → Int → Int → Int → Int → Int → Int → Option (Int × Int × Int × Int × Int × Int × Int × Int)
 | 0, _, _, _, _, _, _, _, _, _, _ => none
 | k + 1, x1, x1000, x1001, x1002, x123000, x123001, x123002, x123003, x123004, x123005 => if x123000 = 1 then ((spec_l1Cur_pick.f x1000 x1001 x1002 3).bind fun bt123 => (spec_l1Cur_step.j2 k x1 x1000 bt123.2.1 bt123.2.2 x123000 x123001 x123002 bt123.1 x123004 x123005)) else (if x123000 = 5 then ((spec_l1Cur_pick.f x1000 x1001 x1002 3).bind fun bt126 => (spec_l1Cur_step.j2 k x1 x1000 bt126.2.1 bt126.2.2 x123000 x123001 x123002 bt126.1 x123004 x123005)) else (if x123000 = 9 then ((spec_l1Cur_pick.f x1000 x1001 x1002 3).bind fun bt129 => (spec_l1Cur_step.j2 k x1 x1000 bt129.2.1 bt129.2.2 x123000 x123001 x123002 bt129.1 x123004 x123005)) else (if x123000 = 10 then ((spec_l1Cur_pick.f x1000 x1001 x1002 3).bind fun bt132 => (spec_l1Cur_step.j2 k x1 x1000 bt132.2.1 bt132.2.2 x123000 x123001 x123002 bt132.1 x123004 x123005)) else (spec_l1Cur_step.j2 k x1 x1000 x1001 x1002 x123000 x123001 x123002 x123003 x123004 x123005))))
def spec_l1Cur_step.j2 : Nat → Int → List Int → Int → Int → Int → Int → Int → Int → Int → Int → Option (Int × Int × Int × Int × Int × Int × Int × Int)
 | 0, _, _, _, _, _, _, _, _, _, _ => none
 | k + 1, x1, x1000, x1001, x1002, x123000, x123001, x123002, x123003, x123004, x123005 => if x123000 = 8 then (spec_l1Cur_step.j3 k x1 x1000 x1001 x1002 x123000 x123001 x123002 x123003 x123004 x123005) else ((spec_l1Cur_pick.f x1000 x1001 x1002 3).bind fun bt135 => (spec_l1Cur_step.j3 k x1 x1000 bt135.2.1 bt135.2.2 x123000 x123001 bt135.1 x123003 x123004 x123005))
def spec_l1Cur_step.j3 : Nat → Int → List Int → Int → Int → Int → Int → Int → Int → Int → Int → Option (Int × Int × Int × Int × Int × Int × Int × Int)
 | 0, _, _, _, _, _, _, _, _, _, _ => none
 | k + 1, x1, x1000, x1001, x1002, x123000, x123001, x123002, x123003, x123004, x123005 => if x123000 = 1 then ((spec_l1Cur_pick.f x1000 x1001 x1002 10).bind fun bt138 => (spec_l1Cur_step.j4 k x1 x1000 bt138.2.1 bt138.2.2 x123000 (wrap64 (1 + bt138.1)) x123002 x123003 x123004 x123005)) else (if x123000 = 2 then ((spec_l1Cur_pick.f x1000 x1001 x1002 10).bind fun bt141 => (spec_l1Cur_step.j4 k x1 x1000 bt141.2.1 bt141.2.2 x123000 (wrap64 (1 + bt141.1)) x123002 x123003 x123004 x123005)) else (spec_l1Cur_step.j4 k x1 x1000 x1001 x1002 x123000 x123001 x123002 x123003 x123004 x123005))
def spec_l1Cur_step.j4 : Nat → Int → List Int → Int → Int → Int → Int → Int → Int → Int → Int → Option (Int × Int × Int × Int × Int × Int × Int × Int)
 | 0, _, _, _, _, _, _, _, _, _, _ => none
 | k + 1, x1, x1000, x1001, x1002, x123000, x123001, x123002, x123003, x123004, x123005 => if x123000 = 2 then (spec_l1Cur_step.j5 k x1 x123000 (x123000 == 2) x1000 x1001 x1002 x123000 x123001 x123002 x123003 x123004 x123005) else (spec_l1Cur_step.j5 k x1 x123000 (x123000 == 3) x1000 x1001 x1002 x123000 x123001 x123002 x123003 x123004 x123005)
def spec_l1Cur_step.j5 : Nat → Int → Int → Bool → List Int → Int → Int → Int → Int → Int → Int → Int → Int → Option (Int × Int × Int × Int × Int × Int × Int × Int)
 | 0, _, _, _, _, _, _, _, _, _, _, _, _ => none
 | k + 1, x1, x44, x45, x1000, x1001, x1002, x123000, x123001, x123002, x123003, x123004, x123005 => if x45 = true then ((spec_l1Cur_pick.f x1000 x1001 x1002 20).bind fun bt144 => ((spec_l1Cur_among.f x1000 bt144.2.1 bt144.2.2 (([0, 1, 3, 7, 255, bt144.1] : List Int))).bind fun bt150 => (some (x123000, x123001, x123002, x123003, bt150.1, x123005, bt150.2.1, bt150.2.2)))) else (if x44 = 4 then ((spec_l1Cur_pick.f x1000 x1001 x1002 256).bind fun bt153 => ((spec_l1Cur_pick.f x1000 bt153.2.1 bt153.2.2 250).bind fun bt156 => ((spec_l1Cur_among.f x1000 bt156.2.1 bt156.2.2 (([256, 65535, wrap64 (256 + (wrap64 (bt153.1 * bt156.1)))] : List Int))).bind fun bt162 => (some (x123000, x123001, x123002, x123003, bt162.1, x123005, bt162.2.1, bt162.2.2))))) else (if x44 = 5 then ((spec_l1Cur_pick.f x1000 x1001 x1002 5).bind fun bt165 => (some (x123000, x123001, x123002, x123003, bt165.1, x123005, bt165.2.1, bt165.2.2))) else (if x44 = 6 then (spec_l1Cur_step.j6 k x1 x44 (x44 == 6) x1000 x1001 x1002 x123000 x123001 x123002 x123003 x123004 x123005) else (spec_l1Cur_step.j6 k x1 x44 (x44 == 7) x1000 x1001 x1002 x123000 x123001 x123002 x123003 x123004 x123005))))
def spec_l1Cur_step.j6 : Nat → Int → Int → Bool → List Int → Int → Int → Int → Int → Int → Int → Int → Int → Option (Int × Int × Int × Int × Int × Int × Int × Int)
 | 0, _, _, _, _, _, _, _, _, _, _, _, _ => none
 | k + 1, x1, x44, x71, x1000, x1001, x1002, x123000, x123001, x123002, x123003, x123004, x123005 => if x71 = true then ((spec_l1Cur_pick.f x1000 x1001 x1002 18).bind fun bt168 => (some (x123000, x123001, x123002, x123003, bt168.1, x123005, bt168.2.1, bt168.2.2))) else (if x44 = 8 then (spec_l1Cur_step.j7 k x1 (x44 == 8) x1000 x1001 x1002 x123000 x123001 x123002 x123003 x123004 x123005) else (if x44 = 9 then (spec_l1Cur_step.j7 k x1 (x44 == 9) x1000 x1001 x1002 x123000 x123001 x123002 x123003 x123004 x123005) else (spec_l1Cur_step.j7 k x1 (x44 == 10) x1000 x1001 x1002 x123000 x123001 x123002 x123003 x123004 x123005)))
def spec_l1Cur_step.j7 : Nat → Int → Bool → List Int → Int → Int → Int → Int → Int → Int → Int → Int → Option (Int × Int × Int × Int × Int × Int × Int × Int)
 | 0, _, _, _, _, _, _, _, _, _, _, _ => none
 | k + 1, x1, x77, x1000, x1001, x1002, x123000, x123001, x123002, x123003, x123004, x123005 => if x77 = true then ((spec_l1Least.f 4 (wrap64 (x1 - 1))).bind fun t171 => ((spec_l1Cur_pick.f x1000 x1001 x1002 t171).bind fun bt172 => (some (x123000, x123001, x123002, x123003, x123004, wrap64 (1 + bt172.1), bt172.2.1, bt172.2.2)))) else (some (x123000, x123001, x123002, x123003, x123004, x123005, x1001, x1002))
end
def spec_l1Cur_step.f (k : Nat) (s0_0 : List Int) (s0_1 : Int) (s0_2 : Int) (a1 : Int) : Option (Int × Int × Int × Int × Int × Int × Int × Int) := (spec_l1Cur_among.f s0_0 s0_1 s0_2 (([1, 1, 2, 2, 2, 3, 3, 4, 5, 5, 6, 7, 7, 8, 9, 10, 10] : List Int))).bind fun bt119 => (if bt119.1 ≥ 8 then (spec_l1Cur_step.j0 k a1 (decide (a1 < 2)) s0_0 bt119.2.1 bt119.2.2 bt119.1 0 0 0 0 0) else (spec_l1Cur_step.j0 k a1 false s0_0 bt119.2.1 bt119.2.2 bt119.1 0 0 0 0 0))
theorem spec_l1Cur_step.mono_l : ∀ k, (∀ y0 y1 y2 y3 y4 y5 y6 y7 y8 y9 y10, LeO (spec_l1Cur_step.j0 k y0 y1 y2 y3 y4 y5 y6 y7 y8 y9 y10) (spec_l1Cur_step.j0 (k + 1) y0 y1 y2 y3 y4 y5 y6 y7 y8 y9 y10)) ∧ (∀ y0 y1 y2 y3 y4 y5 y6 y7 y8 y9, LeO (spec_l1Cur_step.j1 k y0 y1 y2 y3 y4 y5 y6 y7 y8 y9) (spec_l1Cur_step.j1 (k + 1) y0 y1 y2 y3 y4 y5 y6 y7 y8 y9)) ∧ (∀ y0 y1 y2 y3 y4 y5 y6 y7 y8 y9, LeO (spec_l1Cur_step.j2 k y0 y1 y2 y3 y4 y5 y6 y7 y8 y9) (spec_l1Cur_step.j2 (k + 1) y0 y1 y2 y3 y4 y5 y6 y7 y8 y9)) ∧ (∀ y0 y1 y2 y3 y4 y5 y6 y7 y8 y9, LeO (spec_l1Cur_step.j3 k y0 y1 y2 y3 y4 y5 y6 y7 y8 y9) (spec_l1Cur_step.j3 (k + 1) y0 y1 y2 y3 y4 y5 y6 y7 y8 y9)) ∧ (∀ y0 y1 y2 y3 y4 y5 y6 y7 y8 y9, LeO (spec_l1Cur_step.j4 k y0 y1 y2 y3 y4 y5 y6 y7 y8 y9) (spec_l1Cur_step.j4 (k + 1) y0 y1 y2 y3 y4 y5 y6 y7 y8 y9)) ∧ (∀ y0 y1 y2 y3 y4 y5 y6 y7 y8 y9 y10 y11, LeO (spec_l1Cur_step.j5 k y0 y1 y2 y3 y4 y5 y6 y7 y8 y9 y10 y11) (spec_l1Cur_step.j5 (k + 1) y0 y1 y2 y3 y4 y5 y6 y7 y8 y9 y10 y11)) ∧ (∀ y0 y1 y2 y3 y4 y5 y6 y7 y8 y9 y10 y11, LeO (spec_l1Cur_step.j6 k y0 y1 y2 y3 y4 y5 y6 y7 y8 y9 y10 y11) (spec_l1Cur_step.j6 (k + 1) y0 y1 y2 y3 y4 y5 y6 y7 y8 y9 y10 y11)) ∧ (∀ y0 y1 y2 y3 y4 y5 y6 y7 y8 y9 y10, LeO (spec_l1Cur_step.j7 k y0 y1 y2 y3 y4 y5 y6 y7 y8 y9 y10) (spec_l1Cur_step.j7 (k + 1) y0 y1 y2 y3 y4 y5 y6 y7 y8 y9 y10))
 | 0 => ⟨fun _ _ _ _ _ _ _ _ _ _ _ r h => by simp [spec_l1Cur_step.j0] at h, fun _ _ _ _ _ _ _ _ _ _ r h => by simp [spec_l1Cur_step.j1] at h, fun _ _ _ _ _ _ _ _ _ _ r h => by simp [spec_l1Cur_step.j2] at h, fun _ _ _ _ _ _ _ _ _ _ r h => by simp [spec_l1Cur_step.j3] at h, fun _ _ _ _ _ _ _ _ _ _ r h => by simp [spec_l1Cur_step.j4] at h, fun _ _ _ _ _ _ _ _ _ _ _ _ r h => by simp [spec_l1Cur_step.j5] at h, fun _ _ _ _ _ _ _ _ _ _ _ _ r h => by simp [spec_l1Cur_step.j6] at h, fun _ _ _ _ _ _ _ _ _ _ _ r h => by simp [spec_l1Cur_step.j7] at h⟩
 | k + 1 => by
  obtain ⟨ih0, ih1, ih2, ih3, ih4, ih5, ih6, ih7⟩ := spec_l1Cur_step.mono_l k
  refine ⟨?_, ?_, ?_, ?_, ?_, ?_, ?_, ?_⟩
  ·intro y0 y1 y2 y3 y4 y5 y6 y7 y8 y9 y10
   unfold spec_l1Cur_step.j0
   repeat' first
   | (with_reducible exact ih0 _ _ _ _ _ _ _ _ _ _ _)
   | (with_reducible exact ih1 _ _ _ _ _ _ _ _ _ _)
   | (with_reducible exact ih2 _ _ _ _ _ _ _ _ _ _)
   | (with_reducible exact ih3 _ _ _ _ _ _ _ _ _ _)
   | (with_reducible exact ih4 _ _ _ _ _ _ _ _ _ _)
   | (with_reducible exact ih5 _ _ _ _ _ _ _ _ _ _ _ _)
   | (with_reducible exact ih6 _ _ _ _ _ _ _ _ _ _ _ _)
   | (with_reducible exact ih7 _ _ _ _ _ _ _ _ _ _ _)
   | (with_reducible exact LeO.refl _)
   | (with_reducible exact LeO.none _)
   | (with_reducible refine LeO.ite ?_ ?_)
   | (with_reducible refine LeO.bind ?_ (fun _ => ?_))
   | exact ih0 _ _ _ _ _ _ _ _ _ _ _
   | exact ih1 _ _ _ _ _ _ _ _ _ _
   | exact ih2 _ _ _ _ _ _ _ _ _ _
   | exact ih3 _ _ _ _ _ _ _ _ _ _
   | exact ih4 _ _ _ _ _ _ _ _ _ _
   | exact ih5 _ _ _ _ _ _ _ _ _ _ _ _
   | exact ih6 _ _ _ _ _ _ _ _ _ _ _ _
   | exact ih7 _ _ _ _ _ _ _ _ _ _ _
   | exact LeO.none _
   | refine LeO.ite ?_ ?_
   | refine LeO.bind ?_ (fun _ => ?_)
  ·intro y0 y1 y2 y3 y4 y5 y6 y7 y8 y9
   unfold spec_l1Cur_step.j1
   repeat' first
   | (with_reducible exact ih0 _ _ _ _ _ _ _ _ _ _ _)
   | (with_reducible exact ih1 _ _ _ _ _ _ _ _ _ _)
   | (with_reducible exact ih2 _ _ _ _ _ _ _ _ _ _)
   | (with_reducible exact ih3 _ _ _ _ _ _ _ _ _ _)
   | (with_reducible exact ih4 _ _ _ _ _ _ _ _ _ _)
   | (with_reducible exact ih5 _ _ _ _ _ _ _ _ _ _ _ _)
   | (with_reducible exact ih6 _ _ _ _ _ _ _ _ _ _ _ _)
   | (with_reducible exact ih7 _ _ _ _ _ _ _ _ _ _ _)
   | (with_reducible exact LeO.refl _)
   | (with_reducible exact LeO.none _)
   | (with_reducible refine LeO.ite ?_ ?_)
   | (with_reducible refine LeO.bind ?_ (fun _ => ?_))
   | exact ih0 _ _ _ _ _ _ _ _ _ _ _
   | exact ih1 _ _ _ _ _ _ _ _ _ _
   | exact ih2 _ _ _ _ _ _ _ _ _ _
   | exact ih3 _ _ _ _ _ _ _ _ _ _
   | exact ih4 _ _ _ _ _ _ _ _ _ _
   | exact ih5 _ _ _ _ _ _ _ _ _ _ _ _
   | exact ih6 _ _ _ _ _ _ _ _ _ _ _ _
   | exact ih7 _ _ _ _ _ _ _ _ _ _ _
   | exact LeO.none _
   | refine LeO.ite ?_ ?_
   | refine LeO.bind ?_ (fun _ => ?_)
  ·intro y0 y1 y2 y3 y4 y5 y6 y7 y8 y9
   unfold spec_l1Cur_step.j2
   repeat' first
   | (with_reducible exact ih0 _ _ _ _ _ _ _ _ _ _ _)
   | (with_reducible exact ih1 _ _ _ _ _ _ _ _ _ _)
   | (with_reducible exact ih2 _ _ _ _ _ _ _ _ _ _)
   | (with_reducible exact ih3 _ _ _ _ _ _ _ _ _ _)
   | (with_reducible exact ih4 _ _ _ _ _ _ _ _ _ _)
   | (with_reducible exact ih5 _ _ _ _ _ _ _ _ _ _ _ _)
   | (with_reducible exact ih6 _ _ _ _ _ _ _ _ _ _ _ _)
   | (with_reducible exact ih7 _ _ _ _ _ _ _ _ _ _ _)
   | (with_reducible exact LeO.refl _)
   | (with_reducible exact LeO.none _)
   | (with_reducible refine LeO.ite ?_ ?_)
   | (with_reducible refine LeO.bind ?_ (fun _ => ?_))
   | exact ih0 _ _ _ _ _ _ _ _ _ _ _
   | exact ih1 _ _ _ _ _ _ _ _ _ _
   | exact ih2 _ _ _ _ _ _ _ _ _ _
   | exact ih3 _ _ _ _ _ _ _ _ _ _
   | exact ih4 _ _ _ _ _ _ _ _ _ _
   | exact ih5 _ _ _ _ _ _ _ _ _ _ _ _
   | exact ih6 _ _ _ _ _ _ _ _ _ _ _ _
   | exact ih7 _ _ _ _ _ _ _ _ _ _ _
   | exact LeO.none _
   | refine LeO.ite ?_ ?_
   | refine LeO.bind ?_ (fun _ => ?_)
  ·intro y0 y1 y2 y3 y4 y5 y6 y7 y8 y9
   unfold spec_l1Cur_step.j3
   repeat' first
   | (with_reducible exact ih0 _ _ _ _ _ _ _ _ _ _ _)
   | (with_reducible exact ih1 _ _ _ _ _ _ _ _ _ _)
   | (with_reducible exact ih2 _ _ _ _ _ _ _ _ _ _)
   | (with_reducible exact ih3 _ _ _ _ _ _ _ _ _ _)
   | (with_reducible exact ih4 _ _ _ _ _ _ _ _ _ _)
   | (with_reducible exact ih5 _ _ _ _ _ _ _ _ _ _ _ _)
   | (with_reducible exact ih6 _ _ _ _ _ _ _ _ _ _ _ _)
   | (with_reducible exact ih7 _ _ _ _ _ _ _ _ _ _ _)
   | (with_reducible exact LeO.refl _)
   | (with_reducible exact LeO.none _)
   | (with_reducible refine LeO.ite ?_ ?_)
   | (with_reducible refine LeO.bind ?_ (fun _ => ?_))
   | exact ih0 _ _ _ _ _ _ _ _ _ _ _
   | exact ih1 _ _ _ _ _ _ _ _ _ _
   | exact ih2 _ _ _ _ _ _ _ _ _ _
   | exact ih3 _ _ _ _ _ _ _ _ _ _
   | exact ih4 _ _ _ _ _ _ _ _ _ _
   | exact ih5 _ _ _ _ _ _ _ _ _ _ _ _
   | exact ih6 _ _ _ _ _ _ _ _ _ _ _ _
   | exact ih7 _ _ _ _ _ _ _ _ _ _ _
   | exact LeO.none _
   | refine LeO.ite ?_ ?_
   | refine LeO.bind ?_ (fun _ => ?_)
  ·intro y0 y1 y2 y3 y4 y5 y6 y7 y8 y9
   unfold spec_l1Cur_step.j4
   repeat' first
   | (with_reducible exact ih0 _ _ _ _ _ _ _ _ _ _ _)
   | (with_reducible exact ih1 _ _ _ _ _ _ _ _ _ _)
   | (with_reducible exact ih2 _ _ _ _ _ _ _ _ _ _)
   | (with_reducible exact ih3 _ _ _ _ _ _ _ _ _ _)
   | (with_reducible exact ih4 _ _ _ _ _ _ _ _ _ _)
   | (with_reducible exact ih5 _ _ _ _ _ _ _ _ _ _ _ _)
   | (with_reducible exact ih6 _ _ _ _ _ _ _ _ _ _ _ _)
   | (with_reducible exact ih7 _ _ _ _ _ _ _ _ _ _ _)
   | (with_reducible exact LeO.refl _)
   | (with_reducible exact LeO.none _)
   | (with_reducible refine LeO.ite ?_ ?_)
   | (with_reducible refine LeO.bind ?_ (fun _ => ?_))
   | exact ih0 _ _ _ _ _ _ _ _ _ _ _
   | exact ih1 _ _ _ _ _ _ _ _ _ _
   | exact ih2 _ _ _ _ _ _ _ _ _ _
   | exact ih3 _ _ _ _ _ _ _ _ _ _
   | exact ih4 _ _ _ _ _ _ _ _ _ _
   | exact ih5 _ _ _ _ _ _ _ _ _ _ _ _
   | exact ih6 _ _ _ _ _ _ _ _ _ _ _ _
   | exact ih7 _ _ _ _ _ _ _ _ _ _ _
   | exact LeO.none _
   | refine LeO.ite ?_ ?_
   | refine LeO.bind ?_ (fun _ => ?_)
  ·intro y0 y1 y2 y3 y4 y5 y6 y7 y8 y9 y10 y11
   unfold spec_l1Cur_step.j5
   repeat' first
   | (with_reducible exact ih0 _ _ _ _ _ _ _ _ _ _ _)
   | (with_reducible exact ih1 _ _ _ _ _ _ _ _ _ _)
   | (with_reducible exact ih2 _ _ _ _ _ _ _ _ _ _)
   | (with_reducible exact ih3 _ _ _ _ _ _ _ _ _ _)
   | (with_reducible exact ih4 _ _ _ _ _ _ _ _ _ _)
   | (with_reducible exact ih5 _ _ _ _ _ _ _ _ _ _ _ _)
   | (with_reducible exact ih6 _ _ _ _ _ _ _ _ _ _ _ _)
   | (with_reducible exact ih7 _ _ _ _ _ _ _ _ _ _ _)
   | (with_reducible exact LeO.refl _)
   | (with_reducible exact LeO.none _)
   | (with_reducible refine LeO.ite ?_ ?_)
   | (with_reducible refine LeO.bind ?_ (fun _ => ?_))
   | exact ih0 _ _ _ _ _ _ _ _ _ _ _
   | exact ih1 _ _ _ _ _ _ _ _ _ _
   | exact ih2 _ _ _ _ _ _ _ _ _ _
   | exact ih3 _ _ _ _ _ _ _ _ _ _
   | exact ih4 _ _ _ _ _ _ _ _ _ _
   | exact ih5 _ _ _ _ _ _ _ _ _ _ _ _
   | exact ih6 _ _ _ _ _ _ _ _ _ _ _ _
   | exact ih7 _ _ _ _ _ _ _ _ _ _ _
   | exact LeO.none _
   | refine LeO.ite ?_ ?_
   | refine LeO.bind ?_ (fun _ => ?_)
  ·intro y0 y1 y2 y3 y4 y5 y6 y7 y8 y9 y10 y11
   unfold spec_l1Cur_step.j6
   repeat' first
   | (with_reducible exact ih0 _ _ _ _ _ _ _ _ _ _ _)
   | (with_reducible exact ih1 _ _ _ _ _ _ _ _ _ _)
   | (with_reducible exact ih2 _ _ _ _ _ _ _ _ _ _)
   | (with_reducible exact ih3 _ _ _ _ _ _ _ _ _ _)
   | (with_reducible exact ih4 _ _ _ _ _ _ _ _ _ _)
   | (with_reducible exact ih5 _ _ _ _ _ _ _ _ _ _ _ _)
   | (with_reducible exact ih6 _ _ _ _ _ _ _ _ _ _ _ _)
   | (with_reducible exact ih7 _ _ _ _ _ _ _ _ _ _ _)
   | (with_reducible exact LeO.refl _)
   | (with_reducible exact LeO.none _)
   | (with_reducible refine LeO.ite ?_ ?_)
   | (with_reducible refine LeO.bind ?_ (fun _ => ?_))
   | exact ih0 _ _ _ _ _ _ _ _ _ _ _
   | exact ih1 _ _ _ _ _ _ _ _ _ _
   | exact ih2 _ _ _ _ _ _ _ _ _ _
   | exact ih3 _ _ _ _ _ _ _ _ _ _
   | exact ih4 _ _ _ _ _ _ _ _ _ _
   | exact ih5 _ _ _ _ _ _ _ _ _ _ _ _
   | exact ih6 _ _ _ _ _ _ _ _ _ _ _ _
   | exact ih7 _ _ _ _ _ _ _ _ _ _ _
   | exact LeO.none _
   | refine LeO.ite ?_ ?_
   | refine LeO.bind ?_ (fun _ => ?_)
  ·intro y0 y1 y2 y3 y4 y5 y6 y7 y8 y9 y10
   unfold spec_l1Cur_step.j7
   repeat' first
   | (with_reducible exact ih0 _ _ _ _ _ _ _ _ _ _ _)
   | (with_reducible exact ih1 _ _ _ _ _ _ _ _ _ _)
   | (with_reducible exact ih2 _ _ _ _ _ _ _ _ _ _)
   | (with_reducible exact ih3 _ _ _ _ _ _ _ _ _ _)
   | (with_reducible exact ih4 _ _ _ _ _ _ _ _ _ _)
   | (with_reducible exact ih5 _ _ _ _ _ _ _ _ _ _ _ _)
   | (with_reducible exact ih6 _ _ _ _ _ _ _ _ _ _ _ _)
   | (with_reducible exact ih7 _ _ _ _ _ _ _ _ _ _ _)
   | (with_reducible exact LeO.refl _)
   | (with_reducible exact LeO.none _)
   | (with_reducible refine LeO.ite ?_ ?_)
   | (with_reducible refine LeO.bind ?_ (fun _ => ?_))
   | exact ih0 _ _ _ _ _ _ _ _ _ _ _
   | exact ih1 _ _ _ _ _ _ _ _ _ _
   | exact ih2 _ _ _ _ _ _ _ _ _ _
   | exact ih3 _ _ _ _ _ _ _ _ _ _
   | exact ih4 _ _ _ _ _ _ _ _ _ _
   | exact ih5 _ _ _ _ _ _ _ _ _ _ _ _
   | exact ih6 _ _ _ _ _ _ _ _ _ _ _ _
   | exact ih7 _ _ _ _ _ _ _ _ _ _ _
   | exact LeO.none _
   | refine LeO.ite ?_ ?_
   | refine LeO.bind ?_ (fun _ => ?_)
theorem spec_l1Cur_step.mono : ∀ a0 a1 a2 a3 k, LeO (spec_l1Cur_step.f k a0 a1 a2 a3) (spec_l1Cur_step.f (k + 1) a0 a1 a2 a3) := by
 intro a0 a1 a2 a3 k
 obtain ⟨ih0, ih1, ih2, ih3, ih4, ih5, ih6, ih7⟩ := spec_l1Cur_step.mono_l k
 unfold spec_l1Cur_step.f
 repeat' first
   | (with_reducible exact ih0 _ _ _ _ _ _ _ _ _ _ _)
   | (with_reducible exact ih1 _ _ _ _ _ _ _ _ _ _)
   | (with_reducible exact ih2 _ _ _ _ _ _ _ _ _ _)
   | (with_reducible exact ih3 _ _ _ _ _ _ _ _ _ _)
   | (with_reducible exact ih4 _ _ _ _ _ _ _ _ _ _)
   | (with_reducible exact ih5 _ _ _ _ _ _ _ _ _ _ _ _)
   | (with_reducible exact ih6 _ _ _ _ _ _ _ _ _ _ _ _)
   | (with_reducible exact ih7 _ _ _ _ _ _ _ _ _ _ _)
   | (with_reducible exact LeO.refl _)
   | (with_reducible exact LeO.none _)
   | (with_reducible refine LeO.ite ?_ ?_)
   | (with_reducible refine LeO.bind ?_ (fun _ => ?_))
   | exact ih0 _ _ _ _ _ _ _ _ _ _ _
   | exact ih1 _ _ _ _ _ _ _ _ _ _
   | exact ih2 _ _ _ _ _ _ _ _ _ _
   | exact ih3 _ _ _ _ _ _ _ _ _ _
   | exact ih4 _ _ _ _ _ _ _ _ _ _
   | exact ih5 _ _ _ _ _ _ _ _ _ _ _ _
   | exact ih6 _ _ _ _ _ _ _ _ _ _ _ _
   | exact ih7 _ _ _ _ _ _ _ _ _ _ _
   | exact LeO.none _
   | refine LeO.ite ?_ ?_
   | refine LeO.bind ?_ (fun _ => ?_)
set_option maxHeartbeats 8000000 in
set_option maxRecDepth 100000 in
theorem spec_l1Cur_step.calls (k : Nat) (g : Nat) (s0_0 : List Int) (s0_1 : Int) (s0_2 : Int) (a1 : Int) (r1 : Int) (r2 : Int) (r3 : Int) (r4 : Int) (r5 : Int) (r6 : Int) (r7 : Int) (r8 : Int) (w0 w : World) (hI : IsS41 w0 w g s0_0 s0_1 s0_2) (hB : Below w0.heap.size w0 w) (h : spec_l1Cur_step.f k s0_0 s0_1 s0_2 a1 = some (r1, r2, r3, r4, r5, r6, r7, r8)) :
  Calls Tryd.prog 31 #[.pointer (some ⟨g, 0, none⟩), .int .i64 a1] w fun e w' => e = .returned (.agg #[.int .i64 r1, .int .i64 r2, .int .i64 r3, .int .i64 r4, .int .i64 r5, .int .i64 r6]) ∧ IsS41 w0 w' g s0_0 r7 r8 ∧ Below w0.heap.size w0 w' ∧ KeepBut w w' g none := by
 have hu31 := Tryd.underlying31
 have HI0 := Aside0.mk hI
 have HK := Aside0.mk (KeepBut.refl w g none)
 have HL := Aside0.mk hB.size
 clear hI
 have HW0 := Aside0.mk hB.size
 have HB := Aside0.mk hB
 clear hB
 have H : ((spec_l1Cur_among.f s0_0 s0_1 s0_2 (([1, 1, 2, 2, 2, 3, 3, 4, 5, 5, 6, 7, 7, 8, 9, 10, 10] : List Int))).bind fun bt119 => (if bt119.1 ≥ 8 then (spec_l1Cur_step.j0 k a1 (decide (a1 < 2)) s0_0 bt119.2.1 bt119.2.2 bt119.1 0 0 0 0 0) else (spec_l1Cur_step.j0 k a1 false s0_0 bt119.2.1 bt119.2.2 bt119.1 0 0 0 0 0))) = some (r1, r2, r3, r4, r5, r6, r7, r8) := h
 clear h
 obtain ⟨y116, hy116⟩ : ∃ y_ : List Int, y_ = (([1, 1, 2, 2, 2, 3, 3, 4, 5, 5, 6, 7, 7, 8, 9, 10, 10] : List Int)) := ⟨_, rfl⟩
 replace H : ((spec_l1Cur_among.f s0_0 s0_1 s0_2 y116).bind fun bt119 => (if bt119.1 ≥ 8 then (spec_l1Cur_step.j0 k a1 (decide (a1 < 2)) s0_0 bt119.2.1 bt119.2.2 bt119.1 0 0 0 0 0) else (spec_l1Cur_step.j0 k a1 false s0_0 bt119.2.1 bt119.2.2 bt119.1 0 0 0 0 0))) = some (r1, r2, r3, r4, r5, r6, r7, r8) := by first | (rw [hy116]; with_reducible exact H) | (have H2_ := (Option.bind_some _ _).symm.trans H; rw [hy116]; with_reducible exact H2_) | (have H2_ := (Option.bind_some _ _).symm.trans H; with_reducible exact H2_) | with_reducible exact H | (rw [hy116]; exact H) | exact H
 have Ny116 := Aside0.mk hy116
 clear hy116
 replace H := Option.bind_eq_some_iff.mp H
 obtain ⟨⟨t119, t120, t121⟩, A30, H⟩ := H
 (try dsimp only at H)
 have A3 := Aside0.mk A30
 clear A30
 have HC4 := Aside0.mk H
 clear H
 go_enter Tryd.func31, Tryd.ntmps31
 go_upto_region 2 with (first | ((with_reducible refine gate_dst (N := 4) rfl ?_); refine box_event ?hg (N := 4) ?hd (cs := #[.int .i64 0, .int .i64 0, .int .i64 0, .int .i64 0, .int .i64 0, .int .i64 0]) (t := 31) ?hr ?_; (case hd => rfl); (case hg => rfl); (case hr => first | (go_simp; done) | (go_simp; rfl)); intro gb115 hg w5 hbox hb; have n0_ := Aside0.mk (IsS41.below (IsS41.g HI0.out) hb); have n1_ := Aside0.mk (KeepBut.trans (zK_ HK.out) (KeepBut.of_below hb g none) (.inl rfl)); have n2_ := Aside0.mk (below_step (zb_ HB.out) hb); have n3_ := Aside0.mk (hbox); have n4_ := Aside0.mk ((by rw [hg]; exact (keep_size (w := w) (g := g) (row := none) (zK_ HK.out)) : w.heap.size ≤ gb115)); have n5_ := Aside0.mk ((Nat.le_trans HW0.out (by rw [hg]; exact (keep_size (w := w) (g := g) (row := none) (zK_ HK.out)) : w.heap.size ≤ gb115) : w0.heap.size ≤ gb115)); have n6_ := Aside0.mk ((by rw [hg]; exact Nat.ne_of_lt (IsS41.lt (show IsS41 w0 _ g s0_0 s0_1 s0_2 from IsS41.g HI0.out)) : g ≠ gb115)); have n7_ := Aside0.mk ((by rw [hg]; exact Nat.ne_of_gt (IsS41.lt (show IsS41 w0 _ g s0_0 s0_1 s0_2 from IsS41.g HI0.out)) : gb115 ≠ g)); clear HI0; clear HK; clear HB; have HI0 := n0_; have HK := n1_; have HB := n2_; have BK115 := n3_; have GW115 := n4_; have GE115 := n5_; have NB0_115 := n6_; have NB115_0 := n7_; clear n0_ n1_ n2_ n3_ n4_ n5_ n6_ n7_; clear hb hbox hg) | ((with_reducible refine gate_dst (N := 7) rfl ?_); refine Kd.R_lit (Kd.int .i64) _ 3 ?hg (N := 7) ?hd (xs := ([1, 1, 2, 2, 2, 3, 3, 4, 5, 5, 6, 7, 7, 8, 9, 10, 10] : List Int)) (inner := [.int .i64 1, .int .i64 1, .int .i64 2, .int .i64 2, .int .i64 2, .int .i64 3, .int .i64 3, .int .i64 4, .int .i64 5, .int .i64 5, .int .i64 6, .int .i64 7, .int .i64 7, .int .i64 8, .int .i64 9, .int .i64 10, .int .i64 10]) (ok := fun _ => True) (okp := fun _ => True) ?hr ?hp (fun _ hk => hk) trivial (Below.refl _ _) (Nat.le_refl _) (by simp) ?_; (case hd => rfl); (case hg => rfl); (case hr => first | (go_simp; done) | (go_simp; rfl)); (case hp => exact (Reps.one (show Kd.M (Kd.int .i64) _ _ _ 1 [.int .i64 1] from rfl) (Reps.one (show Kd.M (Kd.int .i64) _ _ _ 1 [.int .i64 1] from rfl) (Reps.one (show Kd.M (Kd.int .i64) _ _ _ 2 [.int .i64 2] from rfl) (Reps.one (show Kd.M (Kd.int .i64) _ _ _ 2 [.int .i64 2] from rfl) (Reps.one (show Kd.M (Kd.int .i64) _ _ _ 2 [.int .i64 2] from rfl) (Reps.one (show Kd.M (Kd.int .i64) _ _ _ 3 [.int .i64 3] from rfl) (Reps.one (show Kd.M (Kd.int .i64) _ _ _ 3 [.int .i64 3] from rfl) (Reps.one (show Kd.M (Kd.int .i64) _ _ _ 4 [.int .i64 4] from rfl) (Reps.one (show Kd.M (Kd.int .i64) _ _ _ 5 [.int .i64 5] from rfl) (Reps.one (show Kd.M (Kd.int .i64) _ _ _ 5 [.int .i64 5] from rfl) (Reps.one (show Kd.M (Kd.int .i64) _ _ _ 6 [.int .i64 6] from rfl) (Reps.one (show Kd.M (Kd.int .i64) _ _ _ 7 [.int .i64 7] from rfl) (Reps.one (show Kd.M (Kd.int .i64) _ _ _ 7 [.int .i64 7] from rfl) (Reps.one (show Kd.M (Kd.int .i64) _ _ _ 8 [.int .i64 8] from rfl) (Reps.one (show Kd.M (Kd.int .i64) _ _ _ 9 [.int .i64 9] from rfl) (Reps.one (show Kd.M (Kd.int .i64) _ _ _ 10 [.int .i64 10] from rfl) (Reps.one (show Kd.M (Kd.int .i64) _ _ _ 10 [.int .i64 10] from rfl) (Reps.none _ _))))))))))))))))))); intro v117 w6 ho7 hb hg_ hnew_; clear hg_ hnew_; (first | rw [← Ny116.out] at ho7 | (simp only [Int.reduceToNat] at ho7; rw [← Ny116.out] at ho7)); have n0_ := Aside0.mk (Kd.R_lower ho7 (keep_size (w := w) (g := g) (row := none) (by repeat (first | (with_reducible first | exact HK.out | apply KeepBut.set_ | apply keep_drewN | apply keep_drew | apply keep_alloc | refine keep_far ?_ GW115.out _) | exact HK.out)))); have n1_ := Aside0.mk (IsS41.below (by repeat (first | (with_reducible first | exact HI0.out | apply IsS41.alloc | apply IsS41.drewN | apply IsS41.drew | apply IsS41.set_1 | apply IsS41.set_2 | refine IsS41.far ?_ NB0_115.out _) | exact HI0.out)) hb); have n2_ := Aside0.mk (blk_below (g := gb115) (o := .cells #[.int .i64 0, .int .i64 0, .int .i64 0, .int .i64 0, .int .i64 0, .int .i64 0] 31 (0, 0)) (by (with_reducible repeat (first | refine blk_drewN ?_ _ | refine blk_drew ?_ | refine blk_alloc ?_ _)); exact BK115.out) hb); have n3_ := Aside0.mk (KeepBut.trans (by repeat (first | (with_reducible first | exact HK.out | apply KeepBut.set_ | apply keep_drewN | apply keep_drew | apply keep_alloc | refine keep_far ?_ GW115.out _) | exact HK.out)) (KeepBut.of_below hb g none) (.inl rfl)); have n4_ := Aside0.mk (below_step (by repeat (first | (with_reducible first | exact HB.out | apply below_alloc | apply pw_below_drewN | apply below_drew1 | refine below_set ?_ (IsS41.ge HI0.out) | refine below_set ?_ GE115.out) | exact HB.out)) hb); clear HI0; clear BK115; clear HK; clear HB; have HO118 := n0_; have HI0 := n1_; have BK115 := n2_; have HK := n3_; have HB := n4_; clear n0_ n1_ n2_ n3_ n4_; clear hb ho7; obtain ⟨Ao8, co8, eo8⟩ := Kd.R_slice HO118.out; subst eo8) | ((with_reducible refine gate_callee (f := 32) rfl ?_); refine goesL_ (some 8) rfl rfl Tryd.func32 (by kernel_rfl) rfl #[.pointer (some ⟨g, 0, none⟩), .slice Ao8 y116.length co8] rfl (by simp only [zA_, zB_, zD_] <;> rfl) ?_; (with_reducible refine (spec_l1Cur_among.calls g s0_0 s0_1 s0_2 _ _ y116 t119 t120 t121 w0 _ ?side1 ?side2 ?side3 ?side4 ?side5 A3.out).mono ?_); (case side1 => repeat (first | (with_reducible first | exact HI0.out | apply IsS41.alloc | apply IsS41.drewN | apply IsS41.drew | apply IsS41.set_1 | apply IsS41.set_2 | refine IsS41.far ?_ NB0_115.out _) | exact HI0.out)); (case side2 => repeat (first | (with_reducible first | exact HB.out | apply below_alloc | apply pw_below_drewN | apply below_drew1 | refine below_set ?_ (IsS41.ge HI0.out) | refine below_set ?_ GE115.out) | exact HB.out)); (case side3 => exact zC_ (Kd.R_reads' HO118.out).2.2); (case side4 => exact (Kd.R_reads' HO118.out).2.1); (case side5 => exact far_slice (IsS41.own_ne HI0.out HO118.out (by decide))); rintro e w9 ⟨rfl, hi, hb, hk⟩; refine ⟨_, rfl, ?_⟩; have n0_ := Aside0.mk (KeepBut.blk hk (g' := gb115) (o := .cells #[.int .i64 0, .int .i64 0, .int .i64 0, .int .i64 0, .int .i64 0, .int .i64 0] 31 (0, 0)) (by (with_reducible repeat (first | refine blk_drewN ?_ _ | refine blk_drew ?_ | refine blk_alloc ?_ _)); exact BK115.out) NB115_0.out (by simp)); have n1_ := Aside0.mk (Kd.R_mono (Kd.R_keep (IsS41.apart (show IsS41 w0 _ g s0_0 s0_1 s0_2 from by repeat (first | (with_reducible first | exact HI0.out | apply IsS41.alloc | apply IsS41.drewN | apply IsS41.drew | apply IsS41.set_1 | apply IsS41.set_2 | refine IsS41.far ?_ NB0_115.out _) | exact HI0.out)) (zR_ HO118.out) (by decide)) hk (fun _ h => h.2)) (fun _ h => h.1)); have n2_ := Aside0.mk (KeepBut.trans (by repeat (first | (with_reducible first | exact HK.out | apply KeepBut.set_ | apply keep_drewN | apply keep_drew | apply keep_alloc | refine keep_far ?_ GW115.out _) | exact HK.out)) hk (.inl rfl)); have n3_ := Aside0.mk (hb); have n4_ := Aside0.mk (hi); clear BK115; clear HO118; clear HK; clear HB; clear HI0; have BK115 := n0_; have HO118 := n1_; have HK := n2_; have HB := n3_; have HI0 := n4_; clear n0_ n1_ n2_ n3_ n4_; (try clear hb); (try clear hb2); (try clear hk); (try clear hi)) | ((with_reducible refine gate_dst (N := 5) rfl ?_); refine box_event ?hg (N := 5) ?hd (cs := #[.int .i64 0, .int .i64 0, .int .i64 0, .int .i64 0, .int .i64 0, .int .i64 0]) (t := 31) ?hr ?_; (case hd => rfl); (case hg => rfl); (case hr => first | (go_simp; done) | (go_simp; rfl)); intro gb122 hg w10 hbox hb; have n0_ := Aside0.mk (Kd.R_below (zR_ HO118.out) hb); have n1_ := Aside0.mk (IsS41.below (by repeat (first | (with_reducible first | exact HI0.out | apply IsS41.alloc | apply IsS41.drewN | apply IsS41.drew | apply IsS41.set_1 | apply IsS41.set_2 | refine IsS41.far ?_ NB0_115.out _) | exact HI0.out)) hb); have n2_ := Aside0.mk (blk_below (g := gb115) (o := .cells #[.int .i64 0, .int .i64 0, .int .i64 0, .int .i64 0, .int .i64 0, .int .i64 0] 31 (0, 0)) (by (with_reducible repeat (first | refine blk_drewN ?_ _ | refine blk_drew ?_ | refine blk_alloc ?_ _)); exact BK115.out) hb); have n3_ := Aside0.mk (KeepBut.trans (by repeat (first | (with_reducible first | exact HK.out | apply KeepBut.set_ | apply keep_drewN | apply keep_drew | apply keep_alloc | refine keep_far ?_ GW115.out _) | exact HK.out)) (KeepBut.of_below hb g none) (.inl rfl)); have n4_ := Aside0.mk (below_step (by repeat (first | (with_reducible first | exact HB.out | apply below_alloc | apply pw_below_drewN | apply below_drew1 | refine below_set ?_ (IsS41.ge HI0.out) | refine below_set ?_ GE115.out) | exact HB.out)) hb); have n5_ := Aside0.mk (hbox); have n6_ := Aside0.mk ((by rw [hg]; exact (keep_size (w := w) (g := g) (row := none) (by repeat (first | (with_reducible first | exact HK.out | apply KeepBut.set_ | apply keep_drewN | apply keep_drew | apply keep_alloc | refine keep_far ?_ GW115.out _) | exact HK.out))) : w.heap.size ≤ gb122)); have n7_ := Aside0.mk ((Nat.le_trans HW0.out (by rw [hg]; exact (keep_size (w := w) (g := g) (row := none) (by repeat (first | (with_reducible first | exact HK.out | apply KeepBut.set_ | apply keep_drewN | apply keep_drew | apply keep_alloc | refine keep_far ?_ GW115.out _) | exact HK.out))) : w.heap.size ≤ gb122) : w0.heap.size ≤ gb122)); have n8_ := Aside0.mk ((by rw [hg]; exact Nat.ne_of_lt (blk_lt (g := gb115) (o := .cells #[.int .i64 0, .int .i64 0, .int .i64 0, .int .i64 0, .int .i64 0, .int .i64 0] 31 (0, 0)) (by (with_reducible repeat (first | refine blk_drewN ?_ _ | refine blk_drew ?_ | refine blk_alloc ?_ _)); exact BK115.out)) : gb115 ≠ gb122)); have n9_ := Aside0.mk ((by rw [hg]; exact Nat.ne_of_gt (blk_lt (g := gb115) (o := .cells #[.int .i64 0, .int .i64 0, .int .i64 0, .int .i64 0, .int .i64 0, .int .i64 0] 31 (0, 0)) (by (with_reducible repeat (first | refine blk_drewN ?_ _ | refine blk_drew ?_ | refine blk_alloc ?_ _)); exact BK115.out)) : gb122 ≠ gb115)); have n10_ := Aside0.mk ((by rw [hg]; exact Nat.ne_of_lt (IsS41.lt (show IsS41 w0 _ g s0_0 t120 t121 from by repeat (first | (with_reducible first | exact HI0.out | apply IsS41.alloc | apply IsS41.drewN | apply IsS41.drew | apply IsS41.set_1 | apply IsS41.set_2 | refine IsS41.far ?_ NB0_115.out _) | exact HI0.out))) : g ≠ gb122)); have n11_ := Aside0.mk ((by rw [hg]; exact Nat.ne_of_gt (IsS41.lt (show IsS41 w0 _ g s0_0 t120 t121 from by repeat (first | (with_reducible first | exact HI0.out | apply IsS41.alloc | apply IsS41.drewN | apply IsS41.drew | apply IsS41.set_1 | apply IsS41.set_2 | refine IsS41.far ?_ NB0_115.out _) | exact HI0.out))) : gb122 ≠ g)); clear HO118; clear HI0; clear BK115; clear HK; clear HB; have HO118 := n0_; have HI0 := n1_; have BK115 := n2_; have HK := n3_; have HB := n4_; have BK122 := n5_; have GW122 := n6_; have GE122 := n7_; have NB115_122 := n8_; have NB122_115 := n9_; have NB0_122 := n10_; have NB122_0 := n11_; clear n0_ n1_ n2_ n3_ n4_ n5_ n6_ n7_ n8_ n9_ n10_ n11_; clear hb hbox hg; have hnb11 := NB122_115.out; have hnc11 := NB115_122.out; have hnb12 := NB122_0.out; have hnc12 := NB0_122.out; have hcz13_0 : w10.cell? ⟨gb122, 0, none⟩ = some (.int .i64 0) := (blk_cell BK122.out 0).trans rfl; have hcz13_1 : w10.cell? ⟨gb122, 1, none⟩ = some (.int .i64 0) := (blk_cell BK122.out 1).trans rfl; have hcz13_2 : w10.cell? ⟨gb122, 2, none⟩ = some (.int .i64 0) := (blk_cell BK122.out 2).trans rfl; have hcz13_3 : w10.cell? ⟨gb122, 3, none⟩ = some (.int .i64 0) := (blk_cell BK122.out 3).trans rfl; have hcz13_4 : w10.cell? ⟨gb122, 4, none⟩ = some (.int .i64 0) := (blk_cell BK122.out 4).trans rfl; have hcz13_5 : w10.cell? ⟨gb122, 5, none⟩ = some (.int .i64 0) := (blk_cell BK122.out 5).trans rfl; have hfz13_0 := blk_frozen BK122.out 0; have hfz13_1 := blk_frozen BK122.out 1; have hfz13_2 := blk_frozen BK122.out 2; have hfz13_3 := blk_frozen BK122.out 3; have hfz13_4 := blk_frozen BK122.out 4; have hfz13_5 := blk_frozen BK122.out 5))
 (try simp only [Act.put, List.setIfInBounds_toArray, List.set_cons_zero, List.set_cons_succ])
 go_cut [16] (fun v16 wc => ∃ (kq : Nat) (x16_3 : Bool), v16 = .bool x16_3 ∧ Aside0 (spec_l1Cur_step.j0 kq a1 x16_3 s0_0 t120 t121 t119 0 0 0 0 0 = some (r1, r2, r3, r4, r5, r6, r7, r8)) ∧ Aside0 (kq ≤ k) ∧ Aside0 (wc.heap[gb115]? = some (.cells #[.int .i64 0, .int .i64 0, .int .i64 0, .int .i64 0, .int .i64 0, .int .i64 0] 31 (0, 0))) ∧ Aside0 (wc.heap[gb122]? = some (.cells #[.int .i64 t119, .int .i64 0, .int .i64 0, .int .i64 0, .int .i64 0, .int .i64 0] 31 (0, 0))) ∧ Aside0 (IsS41 w0 wc g s0_0 t120 t121) ∧ Aside0 (KeepBut w wc g none) ∧ Aside0 (Below w0.heap.size w0 wc))
 case first =>
  have H := HC4.out
  clear HC4
  by_cases c14 : t119 ≥ 8
  ·rw [if_pos c14] at H
   have c14b0 : decide (8 ≤ t119) = true := decide_eq_true c14
   clear c14
   (first | rw [c14b0] | (simp only [i64_w, i32_w]; rw [c14b0]) | skip)
   have H' := Aside0.mk H
   clear H
   have hnb15 := NB122_115.out
   have hnc15 := NB115_122.out
   have hnb16 := NB122_0.out
   have hnc16 := NB0_122.out
   have hcz17_0 : w10.cell? ⟨gb122, 0, none⟩ = some (.int .i64 0) := (blk_cell BK122.out 0).trans rfl
   have hcz17_1 : w10.cell? ⟨gb122, 1, none⟩ = some (.int .i64 0) := (blk_cell BK122.out 1).trans rfl
   have hcz17_2 : w10.cell? ⟨gb122, 2, none⟩ = some (.int .i64 0) := (blk_cell BK122.out 2).trans rfl
   have hcz17_3 : w10.cell? ⟨gb122, 3, none⟩ = some (.int .i64 0) := (blk_cell BK122.out 3).trans rfl
   have hcz17_4 : w10.cell? ⟨gb122, 4, none⟩ = some (.int .i64 0) := (blk_cell BK122.out 4).trans rfl
   have hcz17_5 : w10.cell? ⟨gb122, 5, none⟩ = some (.int .i64 0) := (blk_cell BK122.out 5).trans rfl
   have hfz17_0 := blk_frozen BK122.out 0
   have hfz17_1 := blk_frozen BK122.out 1
   have hfz17_2 := blk_frozen BK122.out 2
   have hfz17_3 := blk_frozen BK122.out 3
   have hfz17_4 := blk_frozen BK122.out 4
   have hfz17_5 := blk_frozen BK122.out 5
   go_wp2
   go_meet
   case rel => exact ⟨_, (decide (a1 < 2)), (by first | rfl | (simp; done) | (simp [*]; done)), H', ⟨by first | omega | exact Nat.le_refl _⟩, ⟨by (with_reducible repeat (first | refine blk_drewN ?_ _ | refine blk_drew ?_ | refine blk_alloc ?_ _)); refine blk_far ?_ NB115_122.out _; (with_reducible repeat (first | refine blk_drewN ?_ _ | refine blk_drew ?_ | refine blk_alloc ?_ _)); refine blk_far ?_ NB115_122.out _; (with_reducible repeat (first | refine blk_drewN ?_ _ | refine blk_drew ?_ | refine blk_alloc ?_ _)); refine blk_far ?_ NB115_122.out _; (with_reducible repeat (first | refine blk_drewN ?_ _ | refine blk_drew ?_ | refine blk_alloc ?_ _)); refine blk_far ?_ NB115_122.out _; (with_reducible repeat (first | refine blk_drewN ?_ _ | refine blk_drew ?_ | refine blk_alloc ?_ _)); refine blk_far ?_ NB115_122.out _; (with_reducible repeat (first | refine blk_drewN ?_ _ | refine blk_drew ?_ | refine blk_alloc ?_ _)); refine blk_far ?_ NB115_122.out _; (with_reducible repeat (first | refine blk_drewN ?_ _ | refine blk_drew ?_ | refine blk_alloc ?_ _)); exact BK115.out⟩, ⟨by (with_reducible repeat (first | refine blk_drewN ?_ _ | refine blk_drew ?_ | refine blk_alloc ?_ _)); refine blk_put (cs := #[.int .i64 t119, .int .i64 0, .int .i64 0, .int .i64 0, .int .i64 0, .int .i64 0]) ?_ 5 _ rfl; (with_reducible repeat (first | refine blk_drewN ?_ _ | refine blk_drew ?_ | refine blk_alloc ?_ _)); refine blk_put (cs := #[.int .i64 t119, .int .i64 0, .int .i64 0, .int .i64 0, .int .i64 0, .int .i64 0]) ?_ 4 _ rfl; (with_reducible repeat (first | refine blk_drewN ?_ _ | refine blk_drew ?_ | refine blk_alloc ?_ _)); refine blk_put (cs := #[.int .i64 t119, .int .i64 0, .int .i64 0, .int .i64 0, .int .i64 0, .int .i64 0]) ?_ 3 _ rfl; (with_reducible repeat (first | refine blk_drewN ?_ _ | refine blk_drew ?_ | refine blk_alloc ?_ _)); refine blk_put (cs := #[.int .i64 t119, .int .i64 0, .int .i64 0, .int .i64 0, .int .i64 0, .int .i64 0]) ?_ 2 _ rfl; (with_reducible repeat (first | refine blk_drewN ?_ _ | refine blk_drew ?_ | refine blk_alloc ?_ _)); refine blk_put (cs := #[.int .i64 t119, .int .i64 0, .int .i64 0, .int .i64 0, .int .i64 0, .int .i64 0]) ?_ 1 _ rfl; (with_reducible repeat (first | refine blk_drewN ?_ _ | refine blk_drew ?_ | refine blk_alloc ?_ _)); refine blk_put (cs := #[.int .i64 0, .int .i64 0, .int .i64 0, .int .i64 0, .int .i64 0, .int .i64 0]) ?_ 0 _ rfl; (with_reducible repeat (first | refine blk_drewN ?_ _ | refine blk_drew ?_ | refine blk_alloc ?_ _)); exact BK122.out⟩, ⟨by repeat (first | (with_reducible first | exact HI0.out | apply IsS41.alloc | apply IsS41.drewN | apply IsS41.drew | apply IsS41.set_1 | apply IsS41.set_2 | refine IsS41.far ?_ NB0_115.out _ | refine IsS41.far ?_ NB0_122.out _) | exact HI0.out)⟩, ⟨by repeat (first | (with_reducible first | exact HK.out | apply KeepBut.set_ | apply keep_drewN | apply keep_drew | apply keep_alloc | refine keep_far ?_ GW115.out _ | refine keep_far ?_ GW122.out _) | exact HK.out)⟩, ⟨by repeat (first | (with_reducible first | exact HB.out | apply below_alloc | apply pw_below_drewN | apply below_drew1 | refine below_set ?_ (IsS41.ge HI0.out) | refine below_set ?_ GE115.out | refine below_set ?_ GE122.out) | exact HB.out)⟩⟩
  ·rw [if_neg c14] at H
   have c14b0 : decide (8 ≤ t119) = false := decide_eq_false c14
   clear c14
   (first | rw [c14b0] | (simp only [i64_w, i32_w]; rw [c14b0]) | skip)
   have H' := Aside0.mk H
   clear H
   have hnb18 := NB122_115.out
   have hnc18 := NB115_122.out
   have hnb19 := NB122_0.out
   have hnc19 := NB0_122.out
   have hcz20_0 : w10.cell? ⟨gb122, 0, none⟩ = some (.int .i64 0) := (blk_cell BK122.out 0).trans rfl
   have hcz20_1 : w10.cell? ⟨gb122, 1, none⟩ = some (.int .i64 0) := (blk_cell BK122.out 1).trans rfl
   have hcz20_2 : w10.cell? ⟨gb122, 2, none⟩ = some (.int .i64 0) := (blk_cell BK122.out 2).trans rfl
   have hcz20_3 : w10.cell? ⟨gb122, 3, none⟩ = some (.int .i64 0) := (blk_cell BK122.out 3).trans rfl
   have hcz20_4 : w10.cell? ⟨gb122, 4, none⟩ = some (.int .i64 0) := (blk_cell BK122.out 4).trans rfl
   have hcz20_5 : w10.cell? ⟨gb122, 5, none⟩ = some (.int .i64 0) := (blk_cell BK122.out 5).trans rfl
   have hfz20_0 := blk_frozen BK122.out 0
   have hfz20_1 := blk_frozen BK122.out 1
   have hfz20_2 := blk_frozen BK122.out 2
   have hfz20_3 := blk_frozen BK122.out 3
   have hfz20_4 := blk_frozen BK122.out 4
   have hfz20_5 := blk_frozen BK122.out 5
   go_wp2
   go_meet
   case rel => exact ⟨_, (false), (by first | rfl | (simp; done) | (simp [*]; done)), H', ⟨by first | omega | exact Nat.le_refl _⟩, ⟨by (with_reducible repeat (first | refine blk_drewN ?_ _ | refine blk_drew ?_ | refine blk_alloc ?_ _)); refine blk_far ?_ NB115_122.out _; (with_reducible repeat (first | refine blk_drewN ?_ _ | refine blk_drew ?_ | refine blk_alloc ?_ _)); refine blk_far ?_ NB115_122.out _; (with_reducible repeat (first | refine blk_drewN ?_ _ | refine blk_drew ?_ | refine blk_alloc ?_ _)); refine blk_far ?_ NB115_122.out _; (with_reducible repeat (first | refine blk_drewN ?_ _ | refine blk_drew ?_ | refine blk_alloc ?_ _)); refine blk_far ?_ NB115_122.out _; (with_reducible repeat (first | refine blk_drewN ?_ _ | refine blk_drew ?_ | refine blk_alloc ?_ _)); refine blk_far ?_ NB115_122.out _; (with_reducible repeat (first | refine blk_drewN ?_ _ | refine blk_drew ?_ | refine blk_alloc ?_ _)); refine blk_far ?_ NB115_122.out _; (with_reducible repeat (first | refine blk_drewN ?_ _ | refine blk_drew ?_ | refine blk_alloc ?_ _)); exact BK115.out⟩, ⟨by (with_reducible repeat (first | refine blk_drewN ?_ _ | refine blk_drew ?_ | refine blk_alloc ?_ _)); refine blk_put (cs := #[.int .i64 t119, .int .i64 0, .int .i64 0, .int .i64 0, .int .i64 0, .int .i64 0]) ?_ 5 _ rfl; (with_reducible repeat (first | refine blk_drewN ?_ _ | refine blk_drew ?_ | refine blk_alloc ?_ _)); refine blk_put (cs := #[.int .i64 t119, .int .i64 0, .int .i64 0, .int .i64 0, .int .i64 0, .int .i64 0]) ?_ 4 _ rfl; (with_reducible repeat (first | refine blk_drewN ?_ _ | refine blk_drew ?_ | refine blk_alloc ?_ _)); refine blk_put (cs := #[.int .i64 t119, .int .i64 0, .int .i64 0, .int .i64 0, .int .i64 0, .int .i64 0]) ?_ 3 _ rfl; (with_reducible repeat (first | refine blk_drewN ?_ _ | refine blk_drew ?_ | refine blk_alloc ?_ _)); refine blk_put (cs := #[.int .i64 t119, .int .i64 0, .int .i64 0, .int .i64 0, .int .i64 0, .int .i64 0]) ?_ 2 _ rfl; (with_reducible repeat (first | refine blk_drewN ?_ _ | refine blk_drew ?_ | refine blk_alloc ?_ _)); refine blk_put (cs := #[.int .i64 t119, .int .i64 0, .int .i64 0, .int .i64 0, .int .i64 0, .int .i64 0]) ?_ 1 _ rfl; (with_reducible repeat (first | refine blk_drewN ?_ _ | refine blk_drew ?_ | refine blk_alloc ?_ _)); refine blk_put (cs := #[.int .i64 0, .int .i64 0, .int .i64 0, .int .i64 0, .int .i64 0, .int .i64 0]) ?_ 0 _ rfl; (with_reducible repeat (first | refine blk_drewN ?_ _ | refine blk_drew ?_ | refine blk_alloc ?_ _)); exact BK122.out⟩, ⟨by repeat (first | (with_reducible first | exact HI0.out | apply IsS41.alloc | apply IsS41.drewN | apply IsS41.drew | apply IsS41.set_1 | apply IsS41.set_2 | refine IsS41.far ?_ NB0_115.out _ | refine IsS41.far ?_ NB0_122.out _) | exact HI0.out)⟩, ⟨by repeat (first | (with_reducible first | exact HK.out | apply KeepBut.set_ | apply keep_drewN | apply keep_drew | apply keep_alloc | refine keep_far ?_ GW115.out _ | refine keep_far ?_ GW122.out _) | exact HK.out)⟩, ⟨by repeat (first | (with_reducible first | exact HB.out | apply below_alloc | apply pw_below_drewN | apply below_drew1 | refine below_set ?_ (IsS41.ge HI0.out) | refine below_set ?_ GE115.out | refine below_set ?_ GE122.out) | exact HB.out)⟩⟩
 case rest =>
  clear HC4
  try clear c1
  try clear p2
  try clear c3
  try clear c11
  try clear c12
  try clear c14
  try clear c14b0
  try clear c15
  try clear c16
  try clear c18
  try clear c19
  try clear hcz13_0
  try clear hcz13_1
  try clear hcz13_2
  try clear hcz13_3
  try clear hcz13_4
  try clear hcz13_5
  try clear hcz17_0
  try clear hcz17_1
  try clear hcz17_2
  try clear hcz17_3
  try clear hcz17_4
  try clear hcz17_5
  try clear hcz20_0
  try clear hcz20_1
  try clear hcz20_2
  try clear hcz20_3
  try clear hcz20_4
  try clear hcz20_5
  try clear hfz13_0
  try clear hfz13_1
  try clear hfz13_2
  try clear hfz13_3
  try clear hfz13_4
  try clear hfz13_5
  try clear hfz17_0
  try clear hfz17_1
  try clear hfz17_2
  try clear hfz17_3
  try clear hfz17_4
  try clear hfz17_5
  try clear hfz20_0
  try clear hfz20_1
  try clear hfz20_2
  try clear hfz20_3
  try clear hfz20_4
  try clear hfz20_5
  obtain ⟨kq, x16_3, rfl, HA, HJ3, BK115, BK122, HI0, HK, HB⟩ := hcut
  cases kq with
  | zero => exact absurd HA.out (by simp [spec_l1Cur_step.j0])
  | succ kj3 =>
   have H := HA.out
   clear HA
   simp only [spec_l1Cur_step.j0] at H
   have HC21 := Aside0.mk H
   clear H
   go_upto_if 16 with (fail)
   go_cut [] (fun wc => ∃ (kq : Nat) (x123000_20 : Int), Aside0 (spec_l1Cur_step.j1 kq a1 s0_0 t120 t121 x123000_20 0 0 0 0 0 = some (r1, r2, r3, r4, r5, r6, r7, r8)) ∧ Aside0 (kq ≤ kj3) ∧ Aside0 (wc.heap[gb115]? = some (.cells #[.int .i64 0, .int .i64 0, .int .i64 0, .int .i64 0, .int .i64 0, .int .i64 0] 31 (0, 0))) ∧ Aside0 (wc.heap[gb122]? = some (.cells #[.int .i64 x123000_20, .int .i64 0, .int .i64 0, .int .i64 0, .int .i64 0, .int .i64 0] 31 (0, 0))) ∧ Aside0 (IsS41 w0 wc g s0_0 t120 t121) ∧ Aside0 (KeepBut w wc g none) ∧ Aside0 (Below w0.heap.size w0 wc))
   case first =>
    have H := HC21.out
    clear HC21
    by_cases c22 : x16_3 = true
    ·subst c22
     have H1 : (spec_l1Cur_step.j1 kj3 a1 s0_0 t120 t121 3 0 0 0 0 0) = some (r1, r2, r3, r4, r5, r6, r7, r8) := by rw [if_pos rfl] at H; exact H
     clear H
     have H := H1
     clear H1
     have H' := Aside0.mk H
     clear H
     have hnb23 := NB122_115.out
     have hnc23 := NB115_122.out
     have hnb24 := NB122_0.out
     have hnc24 := NB0_122.out
     have hcz25_0 : wc.cell? ⟨gb122, 0, none⟩ = some (.int .i64 t119) := (blk_cell BK122.out 0).trans rfl
     have hcz25_1 : wc.cell? ⟨gb122, 1, none⟩ = some (.int .i64 0) := (blk_cell BK122.out 1).trans rfl
     have hcz25_2 : wc.cell? ⟨gb122, 2, none⟩ = some (.int .i64 0) := (blk_cell BK122.out 2).trans rfl
     have hcz25_3 : wc.cell? ⟨gb122, 3, none⟩ = some (.int .i64 0) := (blk_cell BK122.out 3).trans rfl
     have hcz25_4 : wc.cell? ⟨gb122, 4, none⟩ = some (.int .i64 0) := (blk_cell BK122.out 4).trans rfl
     have hcz25_5 : wc.cell? ⟨gb122, 5, none⟩ = some (.int .i64 0) := (blk_cell BK122.out 5).trans rfl
     have hfz25_0 := blk_frozen BK122.out 0
     have hfz25_1 := blk_frozen BK122.out 1
     have hfz25_2 := blk_frozen BK122.out 2
     have hfz25_3 := blk_frozen BK122.out 3
     have hfz25_4 := blk_frozen BK122.out 4
     have hfz25_5 := blk_frozen BK122.out 5
     go_wp2
     go_meet
     case rel => exact ⟨_, (3), H', ⟨by have := HJ3.out; first | omega | exact Nat.le_refl _⟩, ⟨by (with_reducible repeat (first | refine blk_drewN ?_ _ | refine blk_drew ?_ | refine blk_alloc ?_ _)); refine blk_far ?_ NB115_122.out _; (with_reducible repeat (first | refine blk_drewN ?_ _ | refine blk_drew ?_ | refine blk_alloc ?_ _)); exact BK115.out⟩, ⟨by (with_reducible repeat (first | refine blk_drewN ?_ _ | refine blk_drew ?_ | refine blk_alloc ?_ _)); refine blk_put (cs := #[.int .i64 t119, .int .i64 0, .int .i64 0, .int .i64 0, .int .i64 0, .int .i64 0]) ?_ 0 _ rfl; (with_reducible repeat (first | refine blk_drewN ?_ _ | refine blk_drew ?_ | refine blk_alloc ?_ _)); exact BK122.out⟩, ⟨by repeat (first | (with_reducible first | exact HI0.out | apply IsS41.alloc | apply IsS41.drewN | apply IsS41.drew | apply IsS41.set_1 | apply IsS41.set_2 | refine IsS41.far ?_ NB0_115.out _ | refine IsS41.far ?_ NB0_122.out _) | exact HI0.out)⟩, ⟨by repeat (first | (with_reducible first | exact HK.out | apply KeepBut.set_ | apply keep_drewN | apply keep_drew | apply keep_alloc | refine keep_far ?_ GW115.out _ | refine keep_far ?_ GW122.out _) | exact HK.out)⟩, ⟨by repeat (first | (with_reducible first | exact HB.out | apply below_alloc | apply pw_below_drewN | apply below_drew1 | refine below_set ?_ (IsS41.ge HI0.out) | refine below_set ?_ GE115.out | refine below_set ?_ GE122.out) | exact HB.out)⟩⟩
    ·replace c22 := Bool.eq_false_iff.mpr c22
     subst c22
     have H1 : (spec_l1Cur_step.j1 kj3 a1 s0_0 t120 t121 t119 0 0 0 0 0) = some (r1, r2, r3, r4, r5, r6, r7, r8) := by rw [if_neg (show ¬ (false = true) by decide)] at H; exact H
     clear H
     have H := H1
     clear H1
     have H' := Aside0.mk H
     clear H
     go_wp2
     go_meet
     case rel => exact ⟨_, (t119), H', ⟨by have := HJ3.out; first | omega | exact Nat.le_refl _⟩, ⟨by (with_reducible repeat (first | refine blk_drewN ?_ _ | refine blk_drew ?_ | refine blk_alloc ?_ _)); exact BK115.out⟩, ⟨by (with_reducible repeat (first | refine blk_drewN ?_ _ | refine blk_drew ?_ | refine blk_alloc ?_ _)); exact BK122.out⟩, ⟨by repeat (first | (with_reducible first | exact HI0.out | apply IsS41.alloc | apply IsS41.drewN | apply IsS41.drew | apply IsS41.set_1 | apply IsS41.set_2 | refine IsS41.far ?_ NB0_115.out _ | refine IsS41.far ?_ NB0_122.out _) | exact HI0.out)⟩, ⟨by repeat (first | (with_reducible first | exact HK.out | apply KeepBut.set_ | apply keep_drewN | apply keep_drew | apply keep_alloc | refine keep_far ?_ GW115.out _ | refine keep_far ?_ GW122.out _) | exact HK.out)⟩, ⟨by repeat (first | (with_reducible first | exact HB.out | apply below_alloc | apply pw_below_drewN | apply below_drew1 | refine below_set ?_ (IsS41.ge HI0.out) | refine below_set ?_ GE115.out | refine below_set ?_ GE122.out) | exact HB.out)⟩⟩
   case rest =>
    clear HC21
    try clear c1
    try clear c2
    try clear p2
    try clear c3
    try clear c11
    try clear c12
    try clear c14
    try clear c14b0
    try clear c15
    try clear c16
    try clear c18
    try clear c19
    try clear c22
    try clear c23
    try clear c24
    try clear hcz13_0
    try clear hcz13_1
    try clear hcz13_2
    try clear hcz13_3
    try clear hcz13_4
    try clear hcz13_5
    try clear hcz17_0
    try clear hcz17_1
    try clear hcz17_2
    try clear hcz17_3
    try clear hcz17_4
    try clear hcz17_5
    try clear hcz20_0
    try clear hcz20_1
    try clear hcz20_2
    try clear hcz20_3
    try clear hcz20_4
    try clear hcz20_5
    try clear hcz25_0
    try clear hcz25_1
    try clear hcz25_2
    try clear hcz25_3
    try clear hcz25_4
    try clear hcz25_5
    try clear hfz13_0
    try clear hfz13_1
    try clear hfz13_2
    try clear hfz13_3
    try clear hfz13_4
    try clear hfz13_5
    try clear hfz17_0
    try clear hfz17_1
    try clear hfz17_2
    try clear hfz17_3
    try clear hfz17_4
    try clear hfz17_5
    try clear hfz20_0
    try clear hfz20_1
    try clear hfz20_2
    try clear hfz20_3
    try clear hfz20_4
    try clear hfz20_5
    try clear hfz25_0
    try clear hfz25_1
    try clear hfz25_2
    try clear hfz25_3
    try clear hfz25_4
    try clear hfz25_5
    try clear p2
    obtain ⟨kq, x123000_20, HA, HJ20, BK115, BK122, HI0, HK, HB⟩ := hcut
    cases kq with
    | zero => exact absurd HA.out (by simp [spec_l1Cur_step.j1])
    | succ kj20 =>
     have H := HA.out
     clear HA
     simp only [spec_l1Cur_step.j1] at H
     have HC26 := Aside0.mk H
     clear H
     have hnb27 := NB122_115.out
     have hnc27 := NB115_122.out
     have hnb28 := NB122_0.out
     have hnc28 := NB0_122.out
     have hcz29_0 : wc.cell? ⟨gb122, 0, none⟩ = some (.int .i64 x123000_20) := (blk_cell BK122.out 0).trans rfl
     have hcz29_1 : wc.cell? ⟨gb122, 1, none⟩ = some (.int .i64 0) := (blk_cell BK122.out 1).trans rfl
     have hcz29_2 : wc.cell? ⟨gb122, 2, none⟩ = some (.int .i64 0) := (blk_cell BK122.out 2).trans rfl
     have hcz29_3 : wc.cell? ⟨gb122, 3, none⟩ = some (.int .i64 0) := (blk_cell BK122.out 3).trans rfl
     have hcz29_4 : wc.cell? ⟨gb122, 4, none⟩ = some (.int .i64 0) := (blk_cell BK122.out 4).trans rfl
     have hcz29_5 : wc.cell? ⟨gb122, 5, none⟩ = some (.int .i64 0) := (blk_cell BK122.out 5).trans rfl
     have hfz29_0 := blk_frozen BK122.out 0
     have hfz29_1 := blk_frozen BK122.out 1
     have hfz29_2 := blk_frozen BK122.out 2
     have hfz29_3 := blk_frozen BK122.out 3
     have hfz29_4 := blk_frozen BK122.out 4
     have hfz29_5 := blk_frozen BK122.out 5
     go_upto_block 0 with (fail)
     go_cut [] (fun wc => ∃ (kq : Nat) (x1001_25 : Int) (x1002_25 : Int) (x123003_25 : Int), Aside0 (spec_l1Cur_step.j2 kq a1 s0_0 x1001_25 x1002_25 x123000_20 0 0 x123003_25 0 0 = some (r1, r2, r3, r4, r5, r6, r7, r8)) ∧ Aside0 (kq ≤ kj20) ∧ Aside0 (wc.heap[gb115]? = some (.cells #[.int .i64 0, .int .i64 0, .int .i64 0, .int .i64 0, .int .i64 0, .int .i64 0] 31 (0, 0))) ∧ Aside0 (wc.heap[gb122]? = some (.cells #[.int .i64 x123000_20, .int .i64 0, .int .i64 0, .int .i64 x123003_25, .int .i64 0, .int .i64 0] 31 (0, 0))) ∧ Aside0 (IsS41 w0 wc g s0_0 x1001_25 x1002_25) ∧ Aside0 (KeepBut w wc g none) ∧ Aside0 (Below w0.heap.size w0 wc))
     case first =>
      have H := HC26.out
      clear HC26
      by_cases c30 : x123000_20 = 1
      ·rw [if_pos c30] at H
       have c30b0 : (x123000_20 == 1) = true := beq_iff_eq.mpr c30
       have c30b1 : (x123000_20 != 1) = false := bne_eq_false_iff_eq.mpr c30
       clear c30
       (first | rw [c30b0] | (simp only [i64_w, i32_w]; rw [c30b0]) | skip)
       replace H := Option.bind_eq_some_iff.mp H
       obtain ⟨⟨t123, t124, t125⟩, A310, H⟩ := H
       (try dsimp only at H)
       have A31 := Aside0.mk A310
       clear A310
       have H' := Aside0.mk H
       clear H
       go_wp2_with (first | ((with_reducible refine gate_callee (f := 17) rfl ?_); refine goesL_ (some 26) rfl rfl Tryd.func17 (by kernel_rfl) rfl #[.pointer (some ⟨g, 0, none⟩), .int .i64 3] rfl (by simp only [zA_, zB_, zD_] <;> rfl) ?_; (with_reducible refine (spec_l1Cur_pick.calls g s0_0 t120 t121 3 t123 t124 t125 w0 _ ?side1 ?side2 A31.out).mono ?_); (case side1 => repeat (first | (with_reducible first | exact HI0.out | apply IsS41.alloc | apply IsS41.drewN | apply IsS41.drew | apply IsS41.set_1 | apply IsS41.set_2 | refine IsS41.far ?_ NB0_115.out _ | refine IsS41.far ?_ NB0_122.out _) | exact HI0.out)); (case side2 => repeat (first | (with_reducible first | exact HB.out | apply below_alloc | apply pw_below_drewN | apply below_drew1 | refine below_set ?_ (IsS41.ge HI0.out) | refine below_set ?_ GE115.out | refine below_set ?_ GE122.out) | exact HB.out)); rintro e w32 ⟨rfl, hi, hb, hk⟩; refine ⟨_, rfl, ?_⟩; have n0_ := Aside0.mk (KeepBut.blk hk (g' := gb115) (o := .cells #[.int .i64 0, .int .i64 0, .int .i64 0, .int .i64 0, .int .i64 0, .int .i64 0] 31 (0, 0)) (by (with_reducible repeat (first | refine blk_drewN ?_ _ | refine blk_drew ?_ | refine blk_alloc ?_ _)); exact BK115.out) NB115_0.out (by simp)); have n1_ := Aside0.mk (KeepBut.blk hk (g' := gb122) (o := .cells #[.int .i64 x123000_20, .int .i64 0, .int .i64 0, .int .i64 0, .int .i64 0, .int .i64 0] 31 (0, 0)) (by (with_reducible repeat (first | refine blk_drewN ?_ _ | refine blk_drew ?_ | refine blk_alloc ?_ _)); exact BK122.out) NB122_0.out (by simp)); have n2_ := Aside0.mk (KeepBut.trans (by repeat (first | (with_reducible first | exact HK.out | apply KeepBut.set_ | apply keep_drewN | apply keep_drew | apply keep_alloc | refine keep_far ?_ GW115.out _ | refine keep_far ?_ GW122.out _) | exact HK.out)) hk (.inl rfl)); have n3_ := Aside0.mk (hb); have n4_ := Aside0.mk (hi); clear BK115; clear BK122; clear HK; clear HB; clear HI0; have BK115 := n0_; have BK122 := n1_; have HK := n2_; have HB := n3_; have HI0 := n4_; clear n0_ n1_ n2_ n3_ n4_; (try clear hb); (try clear hb2); (try clear hk); (try clear hi); have hnb33 := NB122_115.out; have hnc33 := NB115_122.out; have hnb34 := NB122_0.out; have hnc34 := NB0_122.out; have hcz35_0 : w32.cell? ⟨gb122, 0, none⟩ = some (.int .i64 x123000_20) := (blk_cell BK122.out 0).trans rfl; have hcz35_1 : w32.cell? ⟨gb122, 1, none⟩ = some (.int .i64 0) := (blk_cell BK122.out 1).trans rfl; have hcz35_2 : w32.cell? ⟨gb122, 2, none⟩ = some (.int .i64 0) := (blk_cell BK122.out 2).trans rfl; have hcz35_3 : w32.cell? ⟨gb122, 3, none⟩ = some (.int .i64 0) := (blk_cell BK122.out 3).trans rfl; have hcz35_4 : w32.cell? ⟨gb122, 4, none⟩ = some (.int .i64 0) := (blk_cell BK122.out 4).trans rfl; have hcz35_5 : w32.cell? ⟨gb122, 5, none⟩ = some (.int .i64 0) := (blk_cell BK122.out 5).trans rfl; have hfz35_0 := blk_frozen BK122.out 0; have hfz35_1 := blk_frozen BK122.out 1; have hfz35_2 := blk_frozen BK122.out 2; have hfz35_3 := blk_frozen BK122.out 3; have hfz35_4 := blk_frozen BK122.out 4; have hfz35_5 := blk_frozen BK122.out 5))
       go_meet
       case rel => exact ⟨_, (t124), (t125), (t123), H', ⟨by have := HJ3.out; have := HJ20.out; first | omega | exact Nat.le_refl _⟩, ⟨by (with_reducible repeat (first | refine blk_drewN ?_ _ | refine blk_drew ?_ | refine blk_alloc ?_ _)); refine blk_far ?_ NB115_122.out _; (with_reducible repeat (first | refine blk_drewN ?_ _ | refine blk_drew ?_ | refine blk_alloc ?_ _)); exact BK115.out⟩, ⟨by (with_reducible repeat (first | refine blk_drewN ?_ _ | refine blk_drew ?_ | refine blk_alloc ?_ _)); refine blk_put (cs := #[.int .i64 x123000_20, .int .i64 0, .int .i64 0, .int .i64 0, .int .i64 0, .int .i64 0]) ?_ 3 _ rfl; (with_reducible repeat (first | refine blk_drewN ?_ _ | refine blk_drew ?_ | refine blk_alloc ?_ _)); exact BK122.out⟩, ⟨by repeat (first | (with_reducible first | exact HI0.out | apply IsS41.alloc | apply IsS41.drewN | apply IsS41.drew | apply IsS41.set_1 | apply IsS41.set_2 | refine IsS41.far ?_ NB0_115.out _ | refine IsS41.far ?_ NB0_122.out _) | exact HI0.out)⟩, ⟨by repeat (first | (with_reducible first | exact HK.out | apply KeepBut.set_ | apply keep_drewN | apply keep_drew | apply keep_alloc | refine keep_far ?_ GW115.out _ | refine keep_far ?_ GW122.out _) | exact HK.out)⟩, ⟨by repeat (first | (with_reducible first | exact HB.out | apply below_alloc | apply pw_below_drewN | apply below_drew1 | refine below_set ?_ (IsS41.ge HI0.out) | refine below_set ?_ GE115.out | refine below_set ?_ GE122.out) | exact HB.out)⟩⟩
      ·rw [if_neg c30] at H
       have c30b0 : (x123000_20 == 1) = false := beq_eq_false_iff_ne.mpr c30
       have c30b1 : (x123000_20 != 1) = true := bne_iff_ne.mpr c30
       (first | rw [c30b0] | (simp only [i64_w, i32_w]; rw [c30b0]) | skip)
       by_cases c36 : x123000_20 = 5
       ·rw [if_pos c36] at H
        have c36b0 : (x123000_20 == 5) = true := beq_iff_eq.mpr c36
        have c36b1 : (x123000_20 != 5) = false := bne_eq_false_iff_eq.mpr c36
        clear c36
        replace H := Option.bind_eq_some_iff.mp H
        obtain ⟨⟨t126, t127, t128⟩, A370, H⟩ := H
        (try dsimp only at H)
        have A37 := Aside0.mk A370
        clear A370
        have H' := Aside0.mk H
        clear H
        go_wp2_with (first | ((with_reducible refine gate_callee (f := 17) rfl ?_); refine goesL_ (some 26) rfl rfl Tryd.func17 (by kernel_rfl) rfl #[.pointer (some ⟨g, 0, none⟩), .int .i64 3] rfl (by simp only [zA_, zB_, zD_] <;> rfl) ?_; (with_reducible refine (spec_l1Cur_pick.calls g s0_0 t120 t121 3 t126 t127 t128 w0 _ ?side1 ?side2 A37.out).mono ?_); (case side1 => repeat (first | (with_reducible first | exact HI0.out | apply IsS41.alloc | apply IsS41.drewN | apply IsS41.drew | apply IsS41.set_1 | apply IsS41.set_2 | refine IsS41.far ?_ NB0_115.out _ | refine IsS41.far ?_ NB0_122.out _) | exact HI0.out)); (case side2 => repeat (first | (with_reducible first | exact HB.out | apply below_alloc | apply pw_below_drewN | apply below_drew1 | refine below_set ?_ (IsS41.ge HI0.out) | refine below_set ?_ GE115.out | refine below_set ?_ GE122.out) | exact HB.out)); rintro e w38 ⟨rfl, hi, hb, hk⟩; refine ⟨_, rfl, ?_⟩; have n0_ := Aside0.mk (KeepBut.blk hk (g' := gb115) (o := .cells #[.int .i64 0, .int .i64 0, .int .i64 0, .int .i64 0, .int .i64 0, .int .i64 0] 31 (0, 0)) (by (with_reducible repeat (first | refine blk_drewN ?_ _ | refine blk_drew ?_ | refine blk_alloc ?_ _)); exact BK115.out) NB115_0.out (by simp)); have n1_ := Aside0.mk (KeepBut.blk hk (g' := gb122) (o := .cells #[.int .i64 x123000_20, .int .i64 0, .int .i64 0, .int .i64 0, .int .i64 0, .int .i64 0] 31 (0, 0)) (by (with_reducible repeat (first | refine blk_drewN ?_ _ | refine blk_drew ?_ | refine blk_alloc ?_ _)); exact BK122.out) NB122_0.out (by simp)); have n2_ := Aside0.mk (KeepBut.trans (by repeat (first | (with_reducible first | exact HK.out | apply KeepBut.set_ | apply keep_drewN | apply keep_drew | apply keep_alloc | refine keep_far ?_ GW115.out _ | refine keep_far ?_ GW122.out _) | exact HK.out)) hk (.inl rfl)); have n3_ := Aside0.mk (hb); have n4_ := Aside0.mk (hi); clear BK115; clear BK122; clear HK; clear HB; clear HI0; have BK115 := n0_; have BK122 := n1_; have HK := n2_; have HB := n3_; have HI0 := n4_; clear n0_ n1_ n2_ n3_ n4_; (try clear hb); (try clear hb2); (try clear hk); (try clear hi); have hnb39 := NB122_115.out; have hnc39 := NB115_122.out; have hnb40 := NB122_0.out; have hnc40 := NB0_122.out; have hcz41_0 : w38.cell? ⟨gb122, 0, none⟩ = some (.int .i64 x123000_20) := (blk_cell BK122.out 0).trans rfl; have hcz41_1 : w38.cell? ⟨gb122, 1, none⟩ = some (.int .i64 0) := (blk_cell BK122.out 1).trans rfl; have hcz41_2 : w38.cell? ⟨gb122, 2, none⟩ = some (.int .i64 0) := (blk_cell BK122.out 2).trans rfl; have hcz41_3 : w38.cell? ⟨gb122, 3, none⟩ = some (.int .i64 0) := (blk_cell BK122.out 3).trans rfl; have hcz41_4 : w38.cell? ⟨gb122, 4, none⟩ = some (.int .i64 0) := (blk_cell BK122.out 4).trans rfl; have hcz41_5 : w38.cell? ⟨gb122, 5, none⟩ = some (.int .i64 0) := (blk_cell BK122.out 5).trans rfl; have hfz41_0 := blk_frozen BK122.out 0; have hfz41_1 := blk_frozen BK122.out 1; have hfz41_2 := blk_frozen BK122.out 2; have hfz41_3 := blk_frozen BK122.out 3; have hfz41_4 := blk_frozen BK122.out 4; have hfz41_5 := blk_frozen BK122.out 5))
        go_meet
        case rel => exact ⟨_, (t127), (t128), (t126), H', ⟨by have := HJ3.out; have := HJ20.out; first | omega | exact Nat.le_refl _⟩, ⟨by (with_reducible repeat (first | refine blk_drewN ?_ _ | refine blk_drew ?_ | refine blk_alloc ?_ _)); refine blk_far ?_ NB115_122.out _; (with_reducible repeat (first | refine blk_drewN ?_ _ | refine blk_drew ?_ | refine blk_alloc ?_ _)); exact BK115.out⟩, ⟨by (with_reducible repeat (first | refine blk_drewN ?_ _ | refine blk_drew ?_ | refine blk_alloc ?_ _)); refine blk_put (cs := #[.int .i64 x123000_20, .int .i64 0, .int .i64 0, .int .i64 0, .int .i64 0, .int .i64 0]) ?_ 3 _ rfl; (with_reducible repeat (first | refine blk_drewN ?_ _ | refine blk_drew ?_ | refine blk_alloc ?_ _)); exact BK122.out⟩, ⟨by repeat (first | (with_reducible first | exact HI0.out | apply IsS41.alloc | apply IsS41.drewN | apply IsS41.drew | apply IsS41.set_1 | apply IsS41.set_2 | refine IsS41.far ?_ NB0_115.out _ | refine IsS41.far ?_ NB0_122.out _) | exact HI0.out)⟩, ⟨by repeat (first | (with_reducible first | exact HK.out | apply KeepBut.set_ | apply keep_drewN | apply keep_drew | apply keep_alloc | refine keep_far ?_ GW115.out _ | refine keep_far ?_ GW122.out _) | exact HK.out)⟩, ⟨by repeat (first | (with_reducible first | exact HB.out | apply below_alloc | apply pw_below_drewN | apply below_drew1 | refine below_set ?_ (IsS41.ge HI0.out) | refine below_set ?_ GE115.out | refine below_set ?_ GE122.out) | exact HB.out)⟩⟩
       ·rw [if_neg c36] at H
        have c36b0 : (x123000_20 == 5) = false := beq_eq_false_iff_ne.mpr c36
        have c36b1 : (x123000_20 != 5) = true := bne_iff_ne.mpr c36
        by_cases c42 : x123000_20 = 9
        ·rw [if_pos c42] at H
         have c42b0 : (x123000_20 == 9) = true := beq_iff_eq.mpr c42
         have c42b1 : (x123000_20 != 9) = false := bne_eq_false_iff_eq.mpr c42
         clear c42
         replace H := Option.bind_eq_some_iff.mp H
         obtain ⟨⟨t129, t130, t131⟩, A430, H⟩ := H
         (try dsimp only at H)
         have A43 := Aside0.mk A430
         clear A430
         have H' := Aside0.mk H
         clear H
         go_wp2_with (first | ((with_reducible refine gate_callee (f := 17) rfl ?_); refine goesL_ (some 26) rfl rfl Tryd.func17 (by kernel_rfl) rfl #[.pointer (some ⟨g, 0, none⟩), .int .i64 3] rfl (by simp only [zA_, zB_, zD_] <;> rfl) ?_; (with_reducible refine (spec_l1Cur_pick.calls g s0_0 t120 t121 3 t129 t130 t131 w0 _ ?side1 ?side2 A43.out).mono ?_); (case side1 => repeat (first | (with_reducible first | exact HI0.out | apply IsS41.alloc | apply IsS41.drewN | apply IsS41.drew | apply IsS41.set_1 | apply IsS41.set_2 | refine IsS41.far ?_ NB0_115.out _ | refine IsS41.far ?_ NB0_122.out _) | exact HI0.out)); (case side2 => repeat (first | (with_reducible first | exact HB.out | apply below_alloc | apply pw_below_drewN | apply below_drew1 | refine below_set ?_ (IsS41.ge HI0.out) | refine below_set ?_ GE115.out | refine below_set ?_ GE122.out) | exact HB.out)); rintro e w44 ⟨rfl, hi, hb, hk⟩; refine ⟨_, rfl, ?_⟩; have n0_ := Aside0.mk (KeepBut.blk hk (g' := gb115) (o := .cells #[.int .i64 0, .int .i64 0, .int .i64 0, .int .i64 0, .int .i64 0, .int .i64 0] 31 (0, 0)) (by (with_reducible repeat (first | refine blk_drewN ?_ _ | refine blk_drew ?_ | refine blk_alloc ?_ _)); exact BK115.out) NB115_0.out (by simp)); have n1_ := Aside0.mk (KeepBut.blk hk (g' := gb122) (o := .cells #[.int .i64 x123000_20, .int .i64 0, .int .i64 0, .int .i64 0, .int .i64 0, .int .i64 0] 31 (0, 0)) (by (with_reducible repeat (first | refine blk_drewN ?_ _ | refine blk_drew ?_ | refine blk_alloc ?_ _)); exact BK122.out) NB122_0.out (by simp)); have n2_ := Aside0.mk (KeepBut.trans (by repeat (first | (with_reducible first | exact HK.out | apply KeepBut.set_ | apply keep_drewN | apply keep_drew | apply keep_alloc | refine keep_far ?_ GW115.out _ | refine keep_far ?_ GW122.out _) | exact HK.out)) hk (.inl rfl)); have n3_ := Aside0.mk (hb); have n4_ := Aside0.mk (hi); clear BK115; clear BK122; clear HK; clear HB; clear HI0; have BK115 := n0_; have BK122 := n1_; have HK := n2_; have HB := n3_; have HI0 := n4_; clear n0_ n1_ n2_ n3_ n4_; (try clear hb); (try clear hb2); (try clear hk); (try clear hi); have hnb45 := NB122_115.out; have hnc45 := NB115_122.out; have hnb46 := NB122_0.out; have hnc46 := NB0_122.out; have hcz47_0 : w44.cell? ⟨gb122, 0, none⟩ = some (.int .i64 x123000_20) := (blk_cell BK122.out 0).trans rfl; have hcz47_1 : w44.cell? ⟨gb122, 1, none⟩ = some (.int .i64 0) := (blk_cell BK122.out 1).trans rfl; have hcz47_2 : w44.cell? ⟨gb122, 2, none⟩ = some (.int .i64 0) := (blk_cell BK122.out 2).trans rfl; have hcz47_3 : w44.cell? ⟨gb122, 3, none⟩ = some (.int .i64 0) := (blk_cell BK122.out 3).trans rfl; have hcz47_4 : w44.cell? ⟨gb122, 4, none⟩ = some (.int .i64 0) := (blk_cell BK122.out 4).trans rfl; have hcz47_5 : w44.cell? ⟨gb122, 5, none⟩ = some (.int .i64 0) := (blk_cell BK122.out 5).trans rfl; have hfz47_0 := blk_frozen BK122.out 0; have hfz47_1 := blk_frozen BK122.out 1; have hfz47_2 := blk_frozen BK122.out 2; have hfz47_3 := blk_frozen BK122.out 3; have hfz47_4 := blk_frozen BK122.out 4; have hfz47_5 := blk_frozen BK122.out 5))
         go_meet
         case rel => exact ⟨_, (t130), (t131), (t129), H', ⟨by have := HJ3.out; have := HJ20.out; first | omega | exact Nat.le_refl _⟩, ⟨by (with_reducible repeat (first | refine blk_drewN ?_ _ | refine blk_drew ?_ | refine blk_alloc ?_ _)); refine blk_far ?_ NB115_122.out _; (with_reducible repeat (first | refine blk_drewN ?_ _ | refine blk_drew ?_ | refine blk_alloc ?_ _)); exact BK115.out⟩, ⟨by (with_reducible repeat (first | refine blk_drewN ?_ _ | refine blk_drew ?_ | refine blk_alloc ?_ _)); refine blk_put (cs := #[.int .i64 x123000_20, .int .i64 0, .int .i64 0, .int .i64 0, .int .i64 0, .int .i64 0]) ?_ 3 _ rfl; (with_reducible repeat (first | refine blk_drewN ?_ _ | refine blk_drew ?_ | refine blk_alloc ?_ _)); exact BK122.out⟩, ⟨by repeat (first | (with_reducible first | exact HI0.out | apply IsS41.alloc | apply IsS41.drewN | apply IsS41.drew | apply IsS41.set_1 | apply IsS41.set_2 | refine IsS41.far ?_ NB0_115.out _ | refine IsS41.far ?_ NB0_122.out _) | exact HI0.out)⟩, ⟨by repeat (first | (with_reducible first | exact HK.out | apply KeepBut.set_ | apply keep_drewN | apply keep_drew | apply keep_alloc | refine keep_far ?_ GW115.out _ | refine keep_far ?_ GW122.out _) | exact HK.out)⟩, ⟨by repeat (first | (with_reducible first | exact HB.out | apply below_alloc | apply pw_below_drewN | apply below_drew1 | refine below_set ?_ (IsS41.ge HI0.out) | refine below_set ?_ GE115.out | refine below_set ?_ GE122.out) | exact HB.out)⟩⟩
        ·rw [if_neg c42] at H
         have c42b0 : (x123000_20 == 9) = false := beq_eq_false_iff_ne.mpr c42
         have c42b1 : (x123000_20 != 9) = true := bne_iff_ne.mpr c42
         by_cases c48 : x123000_20 = 10
         ·rw [if_pos c48] at H
          have c48b0 : (x123000_20 == 10) = true := beq_iff_eq.mpr c48
          have c48b1 : (x123000_20 != 10) = false := bne_eq_false_iff_eq.mpr c48
          clear c48
          replace H := Option.bind_eq_some_iff.mp H
          obtain ⟨⟨t132, t133, t134⟩, A490, H⟩ := H
          (try dsimp only at H)
          have A49 := Aside0.mk A490
          clear A490
          have H' := Aside0.mk H
          clear H
          go_wp2_with (first | ((with_reducible refine gate_callee (f := 17) rfl ?_); refine goesL_ (some 26) rfl rfl Tryd.func17 (by kernel_rfl) rfl #[.pointer (some ⟨g, 0, none⟩), .int .i64 3] rfl (by simp only [zA_, zB_, zD_] <;> rfl) ?_; (with_reducible refine (spec_l1Cur_pick.calls g s0_0 t120 t121 3 t132 t133 t134 w0 _ ?side1 ?side2 A49.out).mono ?_); (case side1 => repeat (first | (with_reducible first | exact HI0.out | apply IsS41.alloc | apply IsS41.drewN | apply IsS41.drew | apply IsS41.set_1 | apply IsS41.set_2 | refine IsS41.far ?_ NB0_115.out _ | refine IsS41.far ?_ NB0_122.out _) | exact HI0.out)); (case side2 => repeat (first | (with_reducible first | exact HB.out | apply below_alloc | apply pw_below_drewN | apply below_drew1 | refine below_set ?_ (IsS41.ge HI0.out) | refine below_set ?_ GE115.out | refine below_set ?_ GE122.out) | exact HB.out)); rintro e w50 ⟨rfl, hi, hb, hk⟩; refine ⟨_, rfl, ?_⟩; have n0_ := Aside0.mk (KeepBut.blk hk (g' := gb115) (o := .cells #[.int .i64 0, .int .i64 0, .int .i64 0, .int .i64 0, .int .i64 0, .int .i64 0] 31 (0, 0)) (by (with_reducible repeat (first | refine blk_drewN ?_ _ | refine blk_drew ?_ | refine blk_alloc ?_ _)); exact BK115.out) NB115_0.out (by simp)); have n1_ := Aside0.mk (KeepBut.blk hk (g' := gb122) (o := .cells #[.int .i64 x123000_20, .int .i64 0, .int .i64 0, .int .i64 0, .int .i64 0, .int .i64 0] 31 (0, 0)) (by (with_reducible repeat (first | refine blk_drewN ?_ _ | refine blk_drew ?_ | refine blk_alloc ?_ _)); exact BK122.out) NB122_0.out (by simp)); have n2_ := Aside0.mk (KeepBut.trans (by repeat (first | (with_reducible first | exact HK.out | apply KeepBut.set_ | apply keep_drewN | apply keep_drew | apply keep_alloc | refine keep_far ?_ GW115.out _ | refine keep_far ?_ GW122.out _) | exact HK.out)) hk (.inl rfl)); have n3_ := Aside0.mk (hb); have n4_ := Aside0.mk (hi); clear BK115; clear BK122; clear HK; clear HB; clear HI0; have BK115 := n0_; have BK122 := n1_; have HK := n2_; have HB := n3_; have HI0 := n4_; clear n0_ n1_ n2_ n3_ n4_; (try clear hb); (try clear hb2); (try clear hk); (try clear hi); have hnb51 := NB122_115.out; have hnc51 := NB115_122.out; have hnb52 := NB122_0.out; have hnc52 := NB0_122.out; have hcz53_0 : w50.cell? ⟨gb122, 0, none⟩ = some (.int .i64 x123000_20) := (blk_cell BK122.out 0).trans rfl; have hcz53_1 : w50.cell? ⟨gb122, 1, none⟩ = some (.int .i64 0) := (blk_cell BK122.out 1).trans rfl; have hcz53_2 : w50.cell? ⟨gb122, 2, none⟩ = some (.int .i64 0) := (blk_cell BK122.out 2).trans rfl; have hcz53_3 : w50.cell? ⟨gb122, 3, none⟩ = some (.int .i64 0) := (blk_cell BK122.out 3).trans rfl; have hcz53_4 : w50.cell? ⟨gb122, 4, none⟩ = some (.int .i64 0) := (blk_cell BK122.out 4).trans rfl; have hcz53_5 : w50.cell? ⟨gb122, 5, none⟩ = some (.int .i64 0) := (blk_cell BK122.out 5).trans rfl; have hfz53_0 := blk_frozen BK122.out 0; have hfz53_1 := blk_frozen BK122.out 1; have hfz53_2 := blk_frozen BK122.out 2; have hfz53_3 := blk_frozen BK122.out 3; have hfz53_4 := blk_frozen BK122.out 4; have hfz53_5 := blk_frozen BK122.out 5))
          go_meet
          case rel => exact ⟨_, (t133), (t134), (t132), H', ⟨by have := HJ3.out; have := HJ20.out; first | omega | exact Nat.le_refl _⟩, ⟨by (with_reducible repeat (first | refine blk_drewN ?_ _ | refine blk_drew ?_ | refine blk_alloc ?_ _)); refine blk_far ?_ NB115_122.out _; (with_reducible repeat (first | refine blk_drewN ?_ _ | refine blk_drew ?_ | refine blk_alloc ?_ _)); exact BK115.out⟩, ⟨by (with_reducible repeat (first | refine blk_drewN ?_ _ | refine blk_drew ?_ | refine blk_alloc ?_ _)); refine blk_put (cs := #[.int .i64 x123000_20, .int .i64 0, .int .i64 0, .int .i64 0, .int .i64 0, .int .i64 0]) ?_ 3 _ rfl; (with_reducible repeat (first | refine blk_drewN ?_ _ | refine blk_drew ?_ | refine blk_alloc ?_ _)); exact BK122.out⟩, ⟨by repeat (first | (with_reducible first | exact HI0.out | apply IsS41.alloc | apply IsS41.drewN | apply IsS41.drew | apply IsS41.set_1 | apply IsS41.set_2 | refine IsS41.far ?_ NB0_115.out _ | refine IsS41.far ?_ NB0_122.out _) | exact HI0.out)⟩, ⟨by repeat (first | (with_reducible first | exact HK.out | apply KeepBut.set_ | apply keep_drewN | apply keep_drew | apply keep_alloc | refine keep_far ?_ GW115.out _ | refine keep_far ?_ GW122.out _) | exact HK.out)⟩, ⟨by repeat (first | (with_reducible first | exact HB.out | apply below_alloc | apply pw_below_drewN | apply below_drew1 | refine below_set ?_ (IsS41.ge HI0.out) | refine below_set ?_ GE115.out | refine below_set ?_ GE122.out) | exact HB.out)⟩⟩
         ·rw [if_neg c48] at H
          have c48b0 : (x123000_20 == 10) = false := beq_eq_false_iff_ne.mpr c48
          have c48b1 : (x123000_20 != 10) = true := bne_iff_ne.mpr c48
          have H' := Aside0.mk H
          clear H
          go_wp2
          go_meet
          case rel => exact ⟨_, (t120), (t121), (0), H', ⟨by have := HJ3.out; have := HJ20.out; first | omega | exact Nat.le_refl _⟩, ⟨by (with_reducible repeat (first | refine blk_drewN ?_ _ | refine blk_drew ?_ | refine blk_alloc ?_ _)); exact BK115.out⟩, ⟨by (with_reducible repeat (first | refine blk_drewN ?_ _ | refine blk_drew ?_ | refine blk_alloc ?_ _)); exact BK122.out⟩, ⟨by repeat (first | (with_reducible first | exact HI0.out | apply IsS41.alloc | apply IsS41.drewN | apply IsS41.drew | apply IsS41.set_1 | apply IsS41.set_2 | refine IsS41.far ?_ NB0_115.out _ | refine IsS41.far ?_ NB0_122.out _) | exact HI0.out)⟩, ⟨by repeat (first | (with_reducible first | exact HK.out | apply KeepBut.set_ | apply keep_drewN | apply keep_drew | apply keep_alloc | refine keep_far ?_ GW115.out _ | refine keep_far ?_ GW122.out _) | exact HK.out)⟩, ⟨by repeat (first | (with_reducible first | exact HB.out | apply below_alloc | apply pw_below_drewN | apply below_drew1 | refine below_set ?_ (IsS41.ge HI0.out) | refine below_set ?_ GE115.out | refine below_set ?_ GE122.out) | exact HB.out)⟩⟩
     case rest =>
      clear HC26
      try clear c1
      try clear c2
      try clear p2
      try clear c3
      try clear c4
      try clear c5
      try clear c11
      try clear c12
      try clear c14
      try clear c14b0
      try clear c15
      try clear c16
      try clear c17
      try clear c18
      try clear c19
      try clear c22
      try clear c23
      try clear c24
      try clear c27
      try clear c28
      try clear c30
      try clear c30b0
      try clear c30b1
      try clear c31
      try clear c32
      try clear c33
      try clear c34
      try clear c36
      try clear c36b0
      try clear c36b1
      try clear c39
      try clear c40
      try clear c42
      try clear c42b0
      try clear c42b1
      try clear c45
      try clear c46
      try clear c48
      try clear c48b0
      try clear c48b1
      try clear c51
      try clear c52
      try clear hcz13_0
      try clear hcz13_1
      try clear hcz13_2
      try clear hcz13_3
      try clear hcz13_4
      try clear hcz13_5
      try clear hcz17_0
      try clear hcz17_1
      try clear hcz17_2
      try clear hcz17_3
      try clear hcz17_4
      try clear hcz17_5
      try clear hcz20_0
      try clear hcz20_1
      try clear hcz20_2
      try clear hcz20_3
      try clear hcz20_4
      try clear hcz20_5
      try clear hcz25_0
      try clear hcz25_1
      try clear hcz25_2
      try clear hcz25_3
      try clear hcz25_4
      try clear hcz25_5
      try clear hcz29_0
      try clear hcz29_1
      try clear hcz29_2
      try clear hcz29_3
      try clear hcz29_4
      try clear hcz29_5
      try clear hcz35_0
      try clear hcz35_1
      try clear hcz35_2
      try clear hcz35_3
      try clear hcz35_4
      try clear hcz35_5
      try clear hcz41_0
      try clear hcz41_1
      try clear hcz41_2
      try clear hcz41_3
      try clear hcz41_4
      try clear hcz41_5
      try clear hcz47_0
      try clear hcz47_1
      try clear hcz47_2
      try clear hcz47_3
      try clear hcz47_4
      try clear hcz47_5
      try clear hcz53_0
      try clear hcz53_1
      try clear hcz53_2
      try clear hcz53_3
      try clear hcz53_4
      try clear hcz53_5
      try clear hfz13_0
      try clear hfz13_1
      try clear hfz13_2
      try clear hfz13_3
      try clear hfz13_4
      try clear hfz13_5
      try clear hfz17_0
      try clear hfz17_1
      try clear hfz17_2
      try clear hfz17_3
      try clear hfz17_4
      try clear hfz17_5
      try clear hfz20_0
      try clear hfz20_1
      try clear hfz20_2
      try clear hfz20_3
      try clear hfz20_4
      try clear hfz20_5
      try clear hfz25_0
      try clear hfz25_1
      try clear hfz25_2
      try clear hfz25_3
      try clear hfz25_4
      try clear hfz25_5
      try clear hfz29_0
      try clear hfz29_1
      try clear hfz29_2
      try clear hfz29_3
      try clear hfz29_4
      try clear hfz29_5
      try clear hfz35_0
      try clear hfz35_1
      try clear hfz35_2
      try clear hfz35_3
      try clear hfz35_4
      try clear hfz35_5
      try clear hfz41_0
      try clear hfz41_1
      try clear hfz41_2
      try clear hfz41_3
      try clear hfz41_4
      try clear hfz41_5
      try clear hfz47_0
      try clear hfz47_1
      try clear hfz47_2
      try clear hfz47_3
      try clear hfz47_4
      try clear hfz47_5
      try clear hfz53_0
      try clear hfz53_1
      try clear hfz53_2
      try clear hfz53_3
      try clear hfz53_4
      try clear hfz53_5
      try clear p2
      obtain ⟨kq, x1001_25, x1002_25, x123003_25, HA, HJ25, BK115, BK122, HI0, HK, HB⟩ := hcut
      cases kq with
      | zero => exact absurd HA.out (by simp [spec_l1Cur_step.j2])
      | succ kj25 =>
       have H := HA.out
       clear HA
       simp only [spec_l1Cur_step.j2] at H
       have HC54 := Aside0.mk H
       clear H
       have hnb55 := NB122_115.out
       have hnc55 := NB115_122.out
       have hnb56 := NB122_0.out
       have hnc56 := NB0_122.out
       have hcz57_0 : wc.cell? ⟨gb122, 0, none⟩ = some (.int .i64 x123000_20) := (blk_cell BK122.out 0).trans rfl
       have hcz57_1 : wc.cell? ⟨gb122, 1, none⟩ = some (.int .i64 0) := (blk_cell BK122.out 1).trans rfl
       have hcz57_2 : wc.cell? ⟨gb122, 2, none⟩ = some (.int .i64 0) := (blk_cell BK122.out 2).trans rfl
       have hcz57_3 : wc.cell? ⟨gb122, 3, none⟩ = some (.int .i64 x123003_25) := (blk_cell BK122.out 3).trans rfl
       have hcz57_4 : wc.cell? ⟨gb122, 4, none⟩ = some (.int .i64 0) := (blk_cell BK122.out 4).trans rfl
       have hcz57_5 : wc.cell? ⟨gb122, 5, none⟩ = some (.int .i64 0) := (blk_cell BK122.out 5).trans rfl
       have hfz57_0 := blk_frozen BK122.out 0
       have hfz57_1 := blk_frozen BK122.out 1
       have hfz57_2 := blk_frozen BK122.out 2
       have hfz57_3 := blk_frozen BK122.out 3
       have hfz57_4 := blk_frozen BK122.out 4
       have hfz57_5 := blk_frozen BK122.out 5
       go_upto_if 30 with (fail)
       go_cut [] (fun wc => ∃ (kq : Nat) (x1001_53 : Int) (x1002_53 : Int) (x123002_53 : Int), Aside0 (spec_l1Cur_step.j3 kq a1 s0_0 x1001_53 x1002_53 x123000_20 0 x123002_53 x123003_25 0 0 = some (r1, r2, r3, r4, r5, r6, r7, r8)) ∧ Aside0 (kq ≤ kj25) ∧ Aside0 (wc.heap[gb115]? = some (.cells #[.int .i64 0, .int .i64 0, .int .i64 0, .int .i64 0, .int .i64 0, .int .i64 0] 31 (0, 0))) ∧ Aside0 (wc.heap[gb122]? = some (.cells #[.int .i64 x123000_20, .int .i64 0, .int .i64 x123002_53, .int .i64 x123003_25, .int .i64 0, .int .i64 0] 31 (0, 0))) ∧ Aside0 (IsS41 w0 wc g s0_0 x1001_53 x1002_53) ∧ Aside0 (KeepBut w wc g none) ∧ Aside0 (Below w0.heap.size w0 wc))
       case first =>
        have H := HC54.out
        clear HC54
        by_cases c58 : x123000_20 = 8
        ·rw [if_pos c58] at H
         have c58b0 : (x123000_20 == 8) = true := beq_iff_eq.mpr c58
         have c58b1 : (x123000_20 != 8) = false := bne_eq_false_iff_eq.mpr c58
         clear c58
         (first | rw [c58b0] | (simp only [i64_w, i32_w]; rw [c58b0]) | skip)
         have H' := Aside0.mk H
         clear H
         go_wp2
         go_meet
         case rel => exact ⟨_, (x1001_25), (x1002_25), (0), H', ⟨by have := HJ3.out; have := HJ20.out; have := HJ25.out; first | omega | exact Nat.le_refl _⟩, ⟨by (with_reducible repeat (first | refine blk_drewN ?_ _ | refine blk_drew ?_ | refine blk_alloc ?_ _)); exact BK115.out⟩, ⟨by (with_reducible repeat (first | refine blk_drewN ?_ _ | refine blk_drew ?_ | refine blk_alloc ?_ _)); exact BK122.out⟩, ⟨by repeat (first | (with_reducible first | exact HI0.out | apply IsS41.alloc | apply IsS41.drewN | apply IsS41.drew | apply IsS41.set_1 | apply IsS41.set_2 | refine IsS41.far ?_ NB0_115.out _ | refine IsS41.far ?_ NB0_122.out _) | exact HI0.out)⟩, ⟨by repeat (first | (with_reducible first | exact HK.out | apply KeepBut.set_ | apply keep_drewN | apply keep_drew | apply keep_alloc | refine keep_far ?_ GW115.out _ | refine keep_far ?_ GW122.out _) | exact HK.out)⟩, ⟨by repeat (first | (with_reducible first | exact HB.out | apply below_alloc | apply pw_below_drewN | apply below_drew1 | refine below_set ?_ (IsS41.ge HI0.out) | refine below_set ?_ GE115.out | refine below_set ?_ GE122.out) | exact HB.out)⟩⟩
        ·rw [if_neg c58] at H
         have c58b0 : (x123000_20 == 8) = false := beq_eq_false_iff_ne.mpr c58
         have c58b1 : (x123000_20 != 8) = true := bne_iff_ne.mpr c58
         (first | rw [c58b0] | (simp only [i64_w, i32_w]; rw [c58b0]) | skip)
         replace H := Option.bind_eq_some_iff.mp H
         obtain ⟨⟨t135, t136, t137⟩, A590, H⟩ := H
         (try dsimp only at H)
         have A59 := Aside0.mk A590
         clear A590
         have H' := Aside0.mk H
         clear H
         go_wp2_with (first | ((with_reducible refine gate_callee (f := 17) rfl ?_); refine goesL_ (some 32) rfl rfl Tryd.func17 (by kernel_rfl) rfl #[.pointer (some ⟨g, 0, none⟩), .int .i64 3] rfl (by simp only [zA_, zB_, zD_] <;> rfl) ?_; (with_reducible refine (spec_l1Cur_pick.calls g s0_0 x1001_25 x1002_25 3 t135 t136 t137 w0 _ ?side1 ?side2 A59.out).mono ?_); (case side1 => repeat (first | (with_reducible first | exact HI0.out | apply IsS41.alloc | apply IsS41.drewN | apply IsS41.drew | apply IsS41.set_1 | apply IsS41.set_2 | refine IsS41.far ?_ NB0_115.out _ | refine IsS41.far ?_ NB0_122.out _) | exact HI0.out)); (case side2 => repeat (first | (with_reducible first | exact HB.out | apply below_alloc | apply pw_below_drewN | apply below_drew1 | refine below_set ?_ (IsS41.ge HI0.out) | refine below_set ?_ GE115.out | refine below_set ?_ GE122.out) | exact HB.out)); rintro e w60 ⟨rfl, hi, hb, hk⟩; refine ⟨_, rfl, ?_⟩; have n0_ := Aside0.mk (KeepBut.blk hk (g' := gb115) (o := .cells #[.int .i64 0, .int .i64 0, .int .i64 0, .int .i64 0, .int .i64 0, .int .i64 0] 31 (0, 0)) (by (with_reducible repeat (first | refine blk_drewN ?_ _ | refine blk_drew ?_ | refine blk_alloc ?_ _)); exact BK115.out) NB115_0.out (by simp)); have n1_ := Aside0.mk (KeepBut.blk hk (g' := gb122) (o := .cells #[.int .i64 x123000_20, .int .i64 0, .int .i64 0, .int .i64 x123003_25, .int .i64 0, .int .i64 0] 31 (0, 0)) (by (with_reducible repeat (first | refine blk_drewN ?_ _ | refine blk_drew ?_ | refine blk_alloc ?_ _)); exact BK122.out) NB122_0.out (by simp)); have n2_ := Aside0.mk (KeepBut.trans (by repeat (first | (with_reducible first | exact HK.out | apply KeepBut.set_ | apply keep_drewN | apply keep_drew | apply keep_alloc | refine keep_far ?_ GW115.out _ | refine keep_far ?_ GW122.out _) | exact HK.out)) hk (.inl rfl)); have n3_ := Aside0.mk (hb); have n4_ := Aside0.mk (hi); clear BK115; clear BK122; clear HK; clear HB; clear HI0; have BK115 := n0_; have BK122 := n1_; have HK := n2_; have HB := n3_; have HI0 := n4_; clear n0_ n1_ n2_ n3_ n4_; (try clear hb); (try clear hb2); (try clear hk); (try clear hi); have hnb61 := NB122_115.out; have hnc61 := NB115_122.out; have hnb62 := NB122_0.out; have hnc62 := NB0_122.out; have hcz63_0 : w60.cell? ⟨gb122, 0, none⟩ = some (.int .i64 x123000_20) := (blk_cell BK122.out 0).trans rfl; have hcz63_1 : w60.cell? ⟨gb122, 1, none⟩ = some (.int .i64 0) := (blk_cell BK122.out 1).trans rfl; have hcz63_2 : w60.cell? ⟨gb122, 2, none⟩ = some (.int .i64 0) := (blk_cell BK122.out 2).trans rfl; have hcz63_3 : w60.cell? ⟨gb122, 3, none⟩ = some (.int .i64 x123003_25) := (blk_cell BK122.out 3).trans rfl; have hcz63_4 : w60.cell? ⟨gb122, 4, none⟩ = some (.int .i64 0) := (blk_cell BK122.out 4).trans rfl; have hcz63_5 : w60.cell? ⟨gb122, 5, none⟩ = some (.int .i64 0) := (blk_cell BK122.out 5).trans rfl; have hfz63_0 := blk_frozen BK122.out 0; have hfz63_1 := blk_frozen BK122.out 1; have hfz63_2 := blk_frozen BK122.out 2; have hfz63_3 := blk_frozen BK122.out 3; have hfz63_4 := blk_frozen BK122.out 4; have hfz63_5 := blk_frozen BK122.out 5))
         go_meet
         case rel => exact ⟨_, (t136), (t137), (t135), H', ⟨by have := HJ3.out; have := HJ20.out; have := HJ25.out; first | omega | exact Nat.le_refl _⟩, ⟨by (with_reducible repeat (first | refine blk_drewN ?_ _ | refine blk_drew ?_ | refine blk_alloc ?_ _)); refine blk_far ?_ NB115_122.out _; (with_reducible repeat (first | refine blk_drewN ?_ _ | refine blk_drew ?_ | refine blk_alloc ?_ _)); exact BK115.out⟩, ⟨by (with_reducible repeat (first | refine blk_drewN ?_ _ | refine blk_drew ?_ | refine blk_alloc ?_ _)); refine blk_put (cs := #[.int .i64 x123000_20, .int .i64 0, .int .i64 0, .int .i64 x123003_25, .int .i64 0, .int .i64 0]) ?_ 2 _ rfl; (with_reducible repeat (first | refine blk_drewN ?_ _ | refine blk_drew ?_ | refine blk_alloc ?_ _)); exact BK122.out⟩, ⟨by repeat (first | (with_reducible first | exact HI0.out | apply IsS41.alloc | apply IsS41.drewN | apply IsS41.drew | apply IsS41.set_1 | apply IsS41.set_2 | refine IsS41.far ?_ NB0_115.out _ | refine IsS41.far ?_ NB0_122.out _) | exact HI0.out)⟩, ⟨by repeat (first | (with_reducible first | exact HK.out | apply KeepBut.set_ | apply keep_drewN | apply keep_drew | apply keep_alloc | refine keep_far ?_ GW115.out _ | refine keep_far ?_ GW122.out _) | exact HK.out)⟩, ⟨by repeat (first | (with_reducible first | exact HB.out | apply below_alloc | apply pw_below_drewN | apply below_drew1 | refine below_set ?_ (IsS41.ge HI0.out) | refine below_set ?_ GE115.out | refine below_set ?_ GE122.out) | exact HB.out)⟩⟩
       case rest =>
        clear HC54
        try clear c1
        try clear c2
        try clear p2
        try clear c3
        try clear c4
        try clear c5
        try clear c6
        try clear c11
        try clear c12
        try clear c14
        try clear c14b0
        try clear c15
        try clear c16
        try clear c17
        try clear c18
        try clear c19
        try clear c22
        try clear c23
        try clear c24
        try clear c27
        try clear c28
        try clear c30
        try clear c30b0
        try clear c30b1
        try clear c31
        try clear c32
        try clear c33
        try clear c34
        try clear c36
        try clear c36b0
        try clear c36b1
        try clear c39
        try clear c40
        try clear c42
        try clear c42b0
        try clear c42b1
        try clear c45
        try clear c46
        try clear c48
        try clear c48b0
        try clear c48b1
        try clear c51
        try clear c52
        try clear c55
        try clear c56
        try clear c58
        try clear c58b0
        try clear c58b1
        try clear c61
        try clear c62
        try clear hcz13_0
        try clear hcz13_1
        try clear hcz13_2
        try clear hcz13_3
        try clear hcz13_4
        try clear hcz13_5
        try clear hcz17_0
        try clear hcz17_1
        try clear hcz17_2
        try clear hcz17_3
        try clear hcz17_4
        try clear hcz17_5
        try clear hcz20_0
        try clear hcz20_1
        try clear hcz20_2
        try clear hcz20_3
        try clear hcz20_4
        try clear hcz20_5
        try clear hcz25_0
        try clear hcz25_1
        try clear hcz25_2
        try clear hcz25_3
        try clear hcz25_4
        try clear hcz25_5
        try clear hcz29_0
        try clear hcz29_1
        try clear hcz29_2
        try clear hcz29_3
        try clear hcz29_4
        try clear hcz29_5
        try clear hcz35_0
        try clear hcz35_1
        try clear hcz35_2
        try clear hcz35_3
        try clear hcz35_4
        try clear hcz35_5
        try clear hcz41_0
        try clear hcz41_1
        try clear hcz41_2
        try clear hcz41_3
        try clear hcz41_4
        try clear hcz41_5
        try clear hcz47_0
        try clear hcz47_1
        try clear hcz47_2
        try clear hcz47_3
        try clear hcz47_4
        try clear hcz47_5
        try clear hcz53_0
        try clear hcz53_1
        try clear hcz53_2
        try clear hcz53_3
        try clear hcz53_4
        try clear hcz53_5
        try clear hcz57_0
        try clear hcz57_1
        try clear hcz57_2
        try clear hcz57_3
        try clear hcz57_4
        try clear hcz57_5
        try clear hcz63_0
        try clear hcz63_1
        try clear hcz63_2
        try clear hcz63_3
        try clear hcz63_4
        try clear hcz63_5
        try clear hfz13_0
        try clear hfz13_1
        try clear hfz13_2
        try clear hfz13_3
        try clear hfz13_4
        try clear hfz13_5
        try clear hfz17_0
        try clear hfz17_1
        try clear hfz17_2
        try clear hfz17_3
        try clear hfz17_4
        try clear hfz17_5
        try clear hfz20_0
        try clear hfz20_1
        try clear hfz20_2
        try clear hfz20_3
        try clear hfz20_4
        try clear hfz20_5
        try clear hfz25_0
        try clear hfz25_1
        try clear hfz25_2
        try clear hfz25_3
        try clear hfz25_4
        try clear hfz25_5
        try clear hfz29_0
        try clear hfz29_1
        try clear hfz29_2
        try clear hfz29_3
        try clear hfz29_4
        try clear hfz29_5
        try clear hfz35_0
        try clear hfz35_1
        try clear hfz35_2
        try clear hfz35_3
        try clear hfz35_4
        try clear hfz35_5
        try clear hfz41_0
        try clear hfz41_1
        try clear hfz41_2
        try clear hfz41_3
        try clear hfz41_4
        try clear hfz41_5
        try clear hfz47_0
        try clear hfz47_1
        try clear hfz47_2
        try clear hfz47_3
        try clear hfz47_4
        try clear hfz47_5
        try clear hfz53_0
        try clear hfz53_1
        try clear hfz53_2
        try clear hfz53_3
        try clear hfz53_4
        try clear hfz53_5
        try clear hfz57_0
        try clear hfz57_1
        try clear hfz57_2
        try clear hfz57_3
        try clear hfz57_4
        try clear hfz57_5
        try clear hfz63_0
        try clear hfz63_1
        try clear hfz63_2
        try clear hfz63_3
        try clear hfz63_4
        try clear hfz63_5
        try clear p2
        obtain ⟨kq, x1001_53, x1002_53, x123002_53, HA, HJ53, BK115, BK122, HI0, HK, HB⟩ := hcut
        cases kq with
        | zero => exact absurd HA.out (by simp [spec_l1Cur_step.j3])
        | succ kj53 =>
         have H := HA.out
         clear HA
         simp only [spec_l1Cur_step.j3] at H
         have HC64 := Aside0.mk H
         clear H
         have hnb65 := NB122_115.out
         have hnc65 := NB115_122.out
         have hnb66 := NB122_0.out
         have hnc66 := NB0_122.out
         have hcz67_0 : wc.cell? ⟨gb122, 0, none⟩ = some (.int .i64 x123000_20) := (blk_cell BK122.out 0).trans rfl
         have hcz67_1 : wc.cell? ⟨gb122, 1, none⟩ = some (.int .i64 0) := (blk_cell BK122.out 1).trans rfl
         have hcz67_2 : wc.cell? ⟨gb122, 2, none⟩ = some (.int .i64 x123002_53) := (blk_cell BK122.out 2).trans rfl
         have hcz67_3 : wc.cell? ⟨gb122, 3, none⟩ = some (.int .i64 x123003_25) := (blk_cell BK122.out 3).trans rfl
         have hcz67_4 : wc.cell? ⟨gb122, 4, none⟩ = some (.int .i64 0) := (blk_cell BK122.out 4).trans rfl
         have hcz67_5 : wc.cell? ⟨gb122, 5, none⟩ = some (.int .i64 0) := (blk_cell BK122.out 5).trans rfl
         have hfz67_0 := blk_frozen BK122.out 0
         have hfz67_1 := blk_frozen BK122.out 1
         have hfz67_2 := blk_frozen BK122.out 2
         have hfz67_3 := blk_frozen BK122.out 3
         have hfz67_4 := blk_frozen BK122.out 4
         have hfz67_5 := blk_frozen BK122.out 5
         go_upto_block 1 with (fail)
         go_cut [] (fun wc => ∃ (kq : Nat) (x1001_63 : Int) (x1002_63 : Int) (x123001_63 : Int), Aside0 (spec_l1Cur_step.j4 kq a1 s0_0 x1001_63 x1002_63 x123000_20 x123001_63 x123002_53 x123003_25 0 0 = some (r1, r2, r3, r4, r5, r6, r7, r8)) ∧ Aside0 (kq ≤ kj53) ∧ Aside0 (wc.heap[gb115]? = some (.cells #[.int .i64 0, .int .i64 0, .int .i64 0, .int .i64 0, .int .i64 0, .int .i64 0] 31 (0, 0))) ∧ Aside0 (wc.heap[gb122]? = some (.cells #[.int .i64 x123000_20, .int .i64 x123001_63, .int .i64 x123002_53, .int .i64 x123003_25, .int .i64 0, .int .i64 0] 31 (0, 0))) ∧ Aside0 (IsS41 w0 wc g s0_0 x1001_63 x1002_63) ∧ Aside0 (KeepBut w wc g none) ∧ Aside0 (Below w0.heap.size w0 wc))
         case first =>
          have H := HC64.out
          clear HC64
          by_cases c68 : x123000_20 = 1
          ·rw [if_pos c68] at H
           have c68b0 : (x123000_20 == 1) = true := beq_iff_eq.mpr c68
           have c68b1 : (x123000_20 != 1) = false := bne_eq_false_iff_eq.mpr c68
           clear c68
           (first | rw [c68b0] | (simp only [i64_w, i32_w]; rw [c68b0]) | skip)
           replace H := Option.bind_eq_some_iff.mp H
           obtain ⟨⟨t138, t139, t140⟩, A690, H⟩ := H
           (try dsimp only at H)
           have A69 := Aside0.mk A690
           clear A690
           have H' := Aside0.mk H
           clear H
           go_wp2_with (first | ((with_reducible refine gate_callee (f := 17) rfl ?_); refine goesL_ (some 40) rfl rfl Tryd.func17 (by kernel_rfl) rfl #[.pointer (some ⟨g, 0, none⟩), .int .i64 10] rfl (by simp only [zA_, zB_, zD_] <;> rfl) ?_; (with_reducible refine (spec_l1Cur_pick.calls g s0_0 x1001_53 x1002_53 10 t138 t139 t140 w0 _ ?side1 ?side2 A69.out).mono ?_); (case side1 => repeat (first | (with_reducible first | exact HI0.out | apply IsS41.alloc | apply IsS41.drewN | apply IsS41.drew | apply IsS41.set_1 | apply IsS41.set_2 | refine IsS41.far ?_ NB0_115.out _ | refine IsS41.far ?_ NB0_122.out _) | exact HI0.out)); (case side2 => repeat (first | (with_reducible first | exact HB.out | apply below_alloc | apply pw_below_drewN | apply below_drew1 | refine below_set ?_ (IsS41.ge HI0.out) | refine below_set ?_ GE115.out | refine below_set ?_ GE122.out) | exact HB.out)); rintro e w70 ⟨rfl, hi, hb, hk⟩; refine ⟨_, rfl, ?_⟩; have n0_ := Aside0.mk (KeepBut.blk hk (g' := gb115) (o := .cells #[.int .i64 0, .int .i64 0, .int .i64 0, .int .i64 0, .int .i64 0, .int .i64 0] 31 (0, 0)) (by (with_reducible repeat (first | refine blk_drewN ?_ _ | refine blk_drew ?_ | refine blk_alloc ?_ _)); exact BK115.out) NB115_0.out (by simp)); have n1_ := Aside0.mk (KeepBut.blk hk (g' := gb122) (o := .cells #[.int .i64 x123000_20, .int .i64 0, .int .i64 x123002_53, .int .i64 x123003_25, .int .i64 0, .int .i64 0] 31 (0, 0)) (by (with_reducible repeat (first | refine blk_drewN ?_ _ | refine blk_drew ?_ | refine blk_alloc ?_ _)); exact BK122.out) NB122_0.out (by simp)); have n2_ := Aside0.mk (KeepBut.trans (by repeat (first | (with_reducible first | exact HK.out | apply KeepBut.set_ | apply keep_drewN | apply keep_drew | apply keep_alloc | refine keep_far ?_ GW115.out _ | refine keep_far ?_ GW122.out _) | exact HK.out)) hk (.inl rfl)); have n3_ := Aside0.mk (hb); have n4_ := Aside0.mk (hi); clear BK115; clear BK122; clear HK; clear HB; clear HI0; have BK115 := n0_; have BK122 := n1_; have HK := n2_; have HB := n3_; have HI0 := n4_; clear n0_ n1_ n2_ n3_ n4_; (try clear hb); (try clear hb2); (try clear hk); (try clear hi); have hnb71 := NB122_115.out; have hnc71 := NB115_122.out; have hnb72 := NB122_0.out; have hnc72 := NB0_122.out; have hcz73_0 : w70.cell? ⟨gb122, 0, none⟩ = some (.int .i64 x123000_20) := (blk_cell BK122.out 0).trans rfl; have hcz73_1 : w70.cell? ⟨gb122, 1, none⟩ = some (.int .i64 0) := (blk_cell BK122.out 1).trans rfl; have hcz73_2 : w70.cell? ⟨gb122, 2, none⟩ = some (.int .i64 x123002_53) := (blk_cell BK122.out 2).trans rfl; have hcz73_3 : w70.cell? ⟨gb122, 3, none⟩ = some (.int .i64 x123003_25) := (blk_cell BK122.out 3).trans rfl; have hcz73_4 : w70.cell? ⟨gb122, 4, none⟩ = some (.int .i64 0) := (blk_cell BK122.out 4).trans rfl; have hcz73_5 : w70.cell? ⟨gb122, 5, none⟩ = some (.int .i64 0) := (blk_cell BK122.out 5).trans rfl; have hfz73_0 := blk_frozen BK122.out 0; have hfz73_1 := blk_frozen BK122.out 1; have hfz73_2 := blk_frozen BK122.out 2; have hfz73_3 := blk_frozen BK122.out 3; have hfz73_4 := blk_frozen BK122.out 4; have hfz73_5 := blk_frozen BK122.out 5))
           go_meet
           case rel => exact ⟨_, (t139), (t140), (wrap64 (1 + t138)), H', ⟨by have := HJ3.out; have := HJ20.out; have := HJ25.out; have := HJ53.out; first | omega | exact Nat.le_refl _⟩, ⟨by (with_reducible repeat (first | refine blk_drewN ?_ _ | refine blk_drew ?_ | refine blk_alloc ?_ _)); refine blk_far ?_ NB115_122.out _; (with_reducible repeat (first | refine blk_drewN ?_ _ | refine blk_drew ?_ | refine blk_alloc ?_ _)); exact BK115.out⟩, ⟨by (with_reducible repeat (first | refine blk_drewN ?_ _ | refine blk_drew ?_ | refine blk_alloc ?_ _)); refine blk_put (cs := #[.int .i64 x123000_20, .int .i64 0, .int .i64 x123002_53, .int .i64 x123003_25, .int .i64 0, .int .i64 0]) ?_ 1 _ rfl; (with_reducible repeat (first | refine blk_drewN ?_ _ | refine blk_drew ?_ | refine blk_alloc ?_ _)); exact BK122.out⟩, ⟨by repeat (first | (with_reducible first | exact HI0.out | apply IsS41.alloc | apply IsS41.drewN | apply IsS41.drew | apply IsS41.set_1 | apply IsS41.set_2 | refine IsS41.far ?_ NB0_115.out _ | refine IsS41.far ?_ NB0_122.out _) | exact HI0.out)⟩, ⟨by repeat (first | (with_reducible first | exact HK.out | apply KeepBut.set_ | apply keep_drewN | apply keep_drew | apply keep_alloc | refine keep_far ?_ GW115.out _ | refine keep_far ?_ GW122.out _) | exact HK.out)⟩, ⟨by repeat (first | (with_reducible first | exact HB.out | apply below_alloc | apply pw_below_drewN | apply below_drew1 | refine below_set ?_ (IsS41.ge HI0.out) | refine below_set ?_ GE115.out | refine below_set ?_ GE122.out) | exact HB.out)⟩⟩
          ·rw [if_neg c68] at H
           have c68b0 : (x123000_20 == 1) = false := beq_eq_false_iff_ne.mpr c68
           have c68b1 : (x123000_20 != 1) = true := bne_iff_ne.mpr c68
           (first | rw [c68b0] | (simp only [i64_w, i32_w]; rw [c68b0]) | skip)
           by_cases c74 : x123000_20 = 2
           ·rw [if_pos c74] at H
            have c74b0 : (x123000_20 == 2) = true := beq_iff_eq.mpr c74
            have c74b1 : (x123000_20 != 2) = false := bne_eq_false_iff_eq.mpr c74
            clear c74
            replace H := Option.bind_eq_some_iff.mp H
            obtain ⟨⟨t141, t142, t143⟩, A750, H⟩ := H
            (try dsimp only at H)
            have A75 := Aside0.mk A750
            clear A750
            have H' := Aside0.mk H
            clear H
            go_wp2_with (first | ((with_reducible refine gate_callee (f := 17) rfl ?_); refine goesL_ (some 40) rfl rfl Tryd.func17 (by kernel_rfl) rfl #[.pointer (some ⟨g, 0, none⟩), .int .i64 10] rfl (by simp only [zA_, zB_, zD_] <;> rfl) ?_; (with_reducible refine (spec_l1Cur_pick.calls g s0_0 x1001_53 x1002_53 10 t141 t142 t143 w0 _ ?side1 ?side2 A75.out).mono ?_); (case side1 => repeat (first | (with_reducible first | exact HI0.out | apply IsS41.alloc | apply IsS41.drewN | apply IsS41.drew | apply IsS41.set_1 | apply IsS41.set_2 | refine IsS41.far ?_ NB0_115.out _ | refine IsS41.far ?_ NB0_122.out _) | exact HI0.out)); (case side2 => repeat (first | (with_reducible first | exact HB.out | apply below_alloc | apply pw_below_drewN | apply below_drew1 | refine below_set ?_ (IsS41.ge HI0.out) | refine below_set ?_ GE115.out | refine below_set ?_ GE122.out) | exact HB.out)); rintro e w76 ⟨rfl, hi, hb, hk⟩; refine ⟨_, rfl, ?_⟩; have n0_ := Aside0.mk (KeepBut.blk hk (g' := gb115) (o := .cells #[.int .i64 0, .int .i64 0, .int .i64 0, .int .i64 0, .int .i64 0, .int .i64 0] 31 (0, 0)) (by (with_reducible repeat (first | refine blk_drewN ?_ _ | refine blk_drew ?_ | refine blk_alloc ?_ _)); exact BK115.out) NB115_0.out (by simp)); have n1_ := Aside0.mk (KeepBut.blk hk (g' := gb122) (o := .cells #[.int .i64 x123000_20, .int .i64 0, .int .i64 x123002_53, .int .i64 x123003_25, .int .i64 0, .int .i64 0] 31 (0, 0)) (by (with_reducible repeat (first | refine blk_drewN ?_ _ | refine blk_drew ?_ | refine blk_alloc ?_ _)); exact BK122.out) NB122_0.out (by simp)); have n2_ := Aside0.mk (KeepBut.trans (by repeat (first | (with_reducible first | exact HK.out | apply KeepBut.set_ | apply keep_drewN | apply keep_drew | apply keep_alloc | refine keep_far ?_ GW115.out _ | refine keep_far ?_ GW122.out _) | exact HK.out)) hk (.inl rfl)); have n3_ := Aside0.mk (hb); have n4_ := Aside0.mk (hi); clear BK115; clear BK122; clear HK; clear HB; clear HI0; have BK115 := n0_; have BK122 := n1_; have HK := n2_; have HB := n3_; have HI0 := n4_; clear n0_ n1_ n2_ n3_ n4_; (try clear hb); (try clear hb2); (try clear hk); (try clear hi); have hnb77 := NB122_115.out; have hnc77 := NB115_122.out; have hnb78 := NB122_0.out; have hnc78 := NB0_122.out; have hcz79_0 : w76.cell? ⟨gb122, 0, none⟩ = some (.int .i64 x123000_20) := (blk_cell BK122.out 0).trans rfl; have hcz79_1 : w76.cell? ⟨gb122, 1, none⟩ = some (.int .i64 0) := (blk_cell BK122.out 1).trans rfl; have hcz79_2 : w76.cell? ⟨gb122, 2, none⟩ = some (.int .i64 x123002_53) := (blk_cell BK122.out 2).trans rfl; have hcz79_3 : w76.cell? ⟨gb122, 3, none⟩ = some (.int .i64 x123003_25) := (blk_cell BK122.out 3).trans rfl; have hcz79_4 : w76.cell? ⟨gb122, 4, none⟩ = some (.int .i64 0) := (blk_cell BK122.out 4).trans rfl; have hcz79_5 : w76.cell? ⟨gb122, 5, none⟩ = some (.int .i64 0) := (blk_cell BK122.out 5).trans rfl; have hfz79_0 := blk_frozen BK122.out 0; have hfz79_1 := blk_frozen BK122.out 1; have hfz79_2 := blk_frozen BK122.out 2; have hfz79_3 := blk_frozen BK122.out 3; have hfz79_4 := blk_frozen BK122.out 4; have hfz79_5 := blk_frozen BK122.out 5))
            go_meet
            case rel => exact ⟨_, (t142), (t143), (wrap64 (1 + t141)), H', ⟨by have := HJ3.out; have := HJ20.out; have := HJ25.out; have := HJ53.out; first | omega | exact Nat.le_refl _⟩, ⟨by (with_reducible repeat (first | refine blk_drewN ?_ _ | refine blk_drew ?_ | refine blk_alloc ?_ _)); refine blk_far ?_ NB115_122.out _; (with_reducible repeat (first | refine blk_drewN ?_ _ | refine blk_drew ?_ | refine blk_alloc ?_ _)); exact BK115.out⟩, ⟨by (with_reducible repeat (first | refine blk_drewN ?_ _ | refine blk_drew ?_ | refine blk_alloc ?_ _)); refine blk_put (cs := #[.int .i64 x123000_20, .int .i64 0, .int .i64 x123002_53, .int .i64 x123003_25, .int .i64 0, .int .i64 0]) ?_ 1 _ rfl; (with_reducible repeat (first | refine blk_drewN ?_ _ | refine blk_drew ?_ | refine blk_alloc ?_ _)); exact BK122.out⟩, ⟨by repeat (first | (with_reducible first | exact HI0.out | apply IsS41.alloc | apply IsS41.drewN | apply IsS41.drew | apply IsS41.set_1 | apply IsS41.set_2 | refine IsS41.far ?_ NB0_115.out _ | refine IsS41.far ?_ NB0_122.out _) | exact HI0.out)⟩, ⟨by repeat (first | (with_reducible first | exact HK.out | apply KeepBut.set_ | apply keep_drewN | apply keep_drew | apply keep_alloc | refine keep_far ?_ GW115.out _ | refine keep_far ?_ GW122.out _) | exact HK.out)⟩, ⟨by repeat (first | (with_reducible first | exact HB.out | apply below_alloc | apply pw_below_drewN | apply below_drew1 | refine below_set ?_ (IsS41.ge HI0.out) | refine below_set ?_ GE115.out | refine below_set ?_ GE122.out) | exact HB.out)⟩⟩
           ·rw [if_neg c74] at H
            have c74b0 : (x123000_20 == 2) = false := beq_eq_false_iff_ne.mpr c74
            have c74b1 : (x123000_20 != 2) = true := bne_iff_ne.mpr c74
            have H' := Aside0.mk H
            clear H
            go_wp2
            go_meet
            case rel => exact ⟨_, (x1001_53), (x1002_53), (0), H', ⟨by have := HJ3.out; have := HJ20.out; have := HJ25.out; have := HJ53.out; first | omega | exact Nat.le_refl _⟩, ⟨by (with_reducible repeat (first | refine blk_drewN ?_ _ | refine blk_drew ?_ | refine blk_alloc ?_ _)); exact BK115.out⟩, ⟨by (with_reducible repeat (first | refine blk_drewN ?_ _ | refine blk_drew ?_ | refine blk_alloc ?_ _)); exact BK122.out⟩, ⟨by repeat (first | (with_reducible first | exact HI0.out | apply IsS41.alloc | apply IsS41.drewN | apply IsS41.drew | apply IsS41.set_1 | apply IsS41.set_2 | refine IsS41.far ?_ NB0_115.out _ | refine IsS41.far ?_ NB0_122.out _) | exact HI0.out)⟩, ⟨by repeat (first | (with_reducible first | exact HK.out | apply KeepBut.set_ | apply keep_drewN | apply keep_drew | apply keep_alloc | refine keep_far ?_ GW115.out _ | refine keep_far ?_ GW122.out _) | exact HK.out)⟩, ⟨by repeat (first | (with_reducible first | exact HB.out | apply below_alloc | apply pw_below_drewN | apply below_drew1 | refine below_set ?_ (IsS41.ge HI0.out) | refine below_set ?_ GE115.out | refine below_set ?_ GE122.out) | exact HB.out)⟩⟩
         case rest =>
          clear HC64
          try clear c1
          try clear c2
          try clear p2
          try clear c3
          try clear c4
          try clear c5
          try clear c6
          try clear p6
          try clear c7
          try clear c11
          try clear c12
          try clear c14
          try clear c14b0
          try clear c15
          try clear c16
          try clear c17
          try clear c18
          try clear c19
          try clear c22
          try clear c23
          try clear c24
          try clear c27
          try clear c28
          try clear c30
          try clear c30b0
          try clear c30b1
          try clear c31
          try clear c32
          try clear c33
          try clear c34
          try clear c36
          try clear c36b0
          try clear c36b1
          try clear c39
          try clear c40
          try clear c42
          try clear c42b0
          try clear c42b1
          try clear c45
          try clear c46
          try clear c48
          try clear c48b0
          try clear c48b1
          try clear c51
          try clear c52
          try clear c55
          try clear c56
          try clear c58
          try clear c58b0
          try clear c58b1
          try clear c61
          try clear c62
          try clear p64
          try clear c65
          try clear c66
          try clear c68
          try clear c68b0
          try clear c68b1
          try clear c71
          try clear c72
          try clear c74
          try clear c74b0
          try clear c74b1
          try clear c77
          try clear c78
          try clear hcz13_0
          try clear hcz13_1
          try clear hcz13_2
          try clear hcz13_3
          try clear hcz13_4
          try clear hcz13_5
          try clear hcz17_0
          try clear hcz17_1
          try clear hcz17_2
          try clear hcz17_3
          try clear hcz17_4
          try clear hcz17_5
          try clear hcz20_0
          try clear hcz20_1
          try clear hcz20_2
          try clear hcz20_3
          try clear hcz20_4
          try clear hcz20_5
          try clear hcz25_0
          try clear hcz25_1
          try clear hcz25_2
          try clear hcz25_3
          try clear hcz25_4
          try clear hcz25_5
          try clear hcz29_0
          try clear hcz29_1
          try clear hcz29_2
          try clear hcz29_3
          try clear hcz29_4
          try clear hcz29_5
          try clear hcz35_0
          try clear hcz35_1
          try clear hcz35_2
          try clear hcz35_3
          try clear hcz35_4
          try clear hcz35_5
          try clear hcz41_0
          try clear hcz41_1
          try clear hcz41_2
          try clear hcz41_3
          try clear hcz41_4
          try clear hcz41_5
          try clear hcz47_0
          try clear hcz47_1
          try clear hcz47_2
          try clear hcz47_3
          try clear hcz47_4
          try clear hcz47_5
          try clear hcz53_0
          try clear hcz53_1
          try clear hcz53_2
          try clear hcz53_3
          try clear hcz53_4
          try clear hcz53_5
          try clear hcz57_0
          try clear hcz57_1
          try clear hcz57_2
          try clear hcz57_3
          try clear hcz57_4
          try clear hcz57_5
          try clear hcz63_0
          try clear hcz63_1
          try clear hcz63_2
          try clear hcz63_3
          try clear hcz63_4
          try clear hcz63_5
          try clear hcz67_0
          try clear hcz67_1
          try clear hcz67_2
          try clear hcz67_3
          try clear hcz67_4
          try clear hcz67_5
          try clear hcz73_0
          try clear hcz73_1
          try clear hcz73_2
          try clear hcz73_3
          try clear hcz73_4
          try clear hcz73_5
          try clear hcz79_0
          try clear hcz79_1
          try clear hcz79_2
          try clear hcz79_3
          try clear hcz79_4
          try clear hcz79_5
          try clear hfz13_0
          try clear hfz13_1
          try clear hfz13_2
          try clear hfz13_3
          try clear hfz13_4
          try clear hfz13_5
          try clear hfz17_0
          try clear hfz17_1
          try clear hfz17_2
          try clear hfz17_3
          try clear hfz17_4
          try clear hfz17_5
          try clear hfz20_0
          try clear hfz20_1
          try clear hfz20_2
          try clear hfz20_3
          try clear hfz20_4
          try clear hfz20_5
          try clear hfz25_0
          try clear hfz25_1
          try clear hfz25_2
          try clear hfz25_3
          try clear hfz25_4
          try clear hfz25_5
          try clear hfz29_0
          try clear hfz29_1
          try clear hfz29_2
          try clear hfz29_3
          try clear hfz29_4
          try clear hfz29_5
          try clear hfz35_0
          try clear hfz35_1
          try clear hfz35_2
          try clear hfz35_3
          try clear hfz35_4
          try clear hfz35_5
          try clear hfz41_0
          try clear hfz41_1
          try clear hfz41_2
          try clear hfz41_3
          try clear hfz41_4
          try clear hfz41_5
          try clear hfz47_0
          try clear hfz47_1
          try clear hfz47_2
          try clear hfz47_3
          try clear hfz47_4
          try clear hfz47_5
          try clear hfz53_0
          try clear hfz53_1
          try clear hfz53_2
          try clear hfz53_3
          try clear hfz53_4
          try clear hfz53_5
          try clear hfz57_0
          try clear hfz57_1
          try clear hfz57_2
          try clear hfz57_3
          try clear hfz57_4
          try clear hfz57_5
          try clear hfz63_0
          try clear hfz63_1
          try clear hfz63_2
          try clear hfz63_3
          try clear hfz63_4
          try clear hfz63_5
          try clear hfz67_0
          try clear hfz67_1
          try clear hfz67_2
          try clear hfz67_3
          try clear hfz67_4
          try clear hfz67_5
          try clear hfz73_0
          try clear hfz73_1
          try clear hfz73_2
          try clear hfz73_3
          try clear hfz73_4
          try clear hfz73_5
          try clear hfz79_0
          try clear hfz79_1
          try clear hfz79_2
          try clear hfz79_3
          try clear hfz79_4
          try clear hfz79_5
          try clear p2
          obtain ⟨kq, x1001_63, x1002_63, x123001_63, HA, HJ63, BK115, BK122, HI0, HK, HB⟩ := hcut
          cases kq with
          | zero => exact absurd HA.out (by simp [spec_l1Cur_step.j4])
          | succ kj63 =>
           have H := HA.out
           clear HA
           simp only [spec_l1Cur_step.j4] at H
           have HC80 := Aside0.mk H
           clear H
           have hnb81 := NB122_115.out
           have hnc81 := NB115_122.out
           have hnb82 := NB122_0.out
           have hnc82 := NB0_122.out
           have hcz83_0 : wc.cell? ⟨gb122, 0, none⟩ = some (.int .i64 x123000_20) := (blk_cell BK122.out 0).trans rfl
           have hcz83_1 : wc.cell? ⟨gb122, 1, none⟩ = some (.int .i64 x123001_63) := (blk_cell BK122.out 1).trans rfl
           have hcz83_2 : wc.cell? ⟨gb122, 2, none⟩ = some (.int .i64 x123002_53) := (blk_cell BK122.out 2).trans rfl
           have hcz83_3 : wc.cell? ⟨gb122, 3, none⟩ = some (.int .i64 x123003_25) := (blk_cell BK122.out 3).trans rfl
           have hcz83_4 : wc.cell? ⟨gb122, 4, none⟩ = some (.int .i64 0) := (blk_cell BK122.out 4).trans rfl
           have hcz83_5 : wc.cell? ⟨gb122, 5, none⟩ = some (.int .i64 0) := (blk_cell BK122.out 5).trans rfl
           have hfz83_0 := blk_frozen BK122.out 0
           have hfz83_1 := blk_frozen BK122.out 1
           have hfz83_2 := blk_frozen BK122.out 2
           have hfz83_3 := blk_frozen BK122.out 3
           have hfz83_4 := blk_frozen BK122.out 4
           have hfz83_5 := blk_frozen BK122.out 5
           go_upto_if 45 with (fail)
           go_cut [45] (fun v45 wc => ∃ (kq : Nat) (x45_79 : Bool), v45 = .bool x45_79 ∧ Aside0 (spec_l1Cur_step.j5 kq a1 x123000_20 x45_79 s0_0 x1001_63 x1002_63 x123000_20 x123001_63 x123002_53 x123003_25 0 0 = some (r1, r2, r3, r4, r5, r6, r7, r8)) ∧ Aside0 (kq ≤ kj63) ∧ Aside0 (wc.heap[gb115]? = some (.cells #[.int .i64 0, .int .i64 0, .int .i64 0, .int .i64 0, .int .i64 0, .int .i64 0] 31 (0, 0))) ∧ Aside0 (wc.heap[gb122]? = some (.cells #[.int .i64 x123000_20, .int .i64 x123001_63, .int .i64 x123002_53, .int .i64 x123003_25, .int .i64 0, .int .i64 0] 31 (0, 0))) ∧ Aside0 (IsS41 w0 wc g s0_0 x1001_63 x1002_63) ∧ Aside0 (KeepBut w wc g none) ∧ Aside0 (Below w0.heap.size w0 wc))
           case first =>
            have H := HC80.out
            clear HC80
            by_cases c84 : x123000_20 = 2
            ·rw [if_pos c84] at H
             have c84b0 : (x123000_20 == 2) = true := beq_iff_eq.mpr c84
             have c84b1 : (x123000_20 != 2) = false := bne_eq_false_iff_eq.mpr c84
             clear c84
             (first | rw [c84b0] | (simp only [i64_w, i32_w]; rw [c84b0]) | skip)
             have H' := Aside0.mk H
             clear H
             go_wp2
             go_meet
             case rel => exact ⟨_, ((x123000_20 == 2)), (by first | rfl | (simp; done) | (simp [*]; done)), H', ⟨by have := HJ3.out; have := HJ20.out; have := HJ25.out; have := HJ53.out; have := HJ63.out; first | omega | exact Nat.le_refl _⟩, ⟨by (with_reducible repeat (first | refine blk_drewN ?_ _ | refine blk_drew ?_ | refine blk_alloc ?_ _)); exact BK115.out⟩, ⟨by (with_reducible repeat (first | refine blk_drewN ?_ _ | refine blk_drew ?_ | refine blk_alloc ?_ _)); exact BK122.out⟩, ⟨by repeat (first | (with_reducible first | exact HI0.out | apply IsS41.alloc | apply IsS41.drewN | apply IsS41.drew | apply IsS41.set_1 | apply IsS41.set_2 | refine IsS41.far ?_ NB0_115.out _ | refine IsS41.far ?_ NB0_122.out _) | exact HI0.out)⟩, ⟨by repeat (first | (with_reducible first | exact HK.out | apply KeepBut.set_ | apply keep_drewN | apply keep_drew | apply keep_alloc | refine keep_far ?_ GW115.out _ | refine keep_far ?_ GW122.out _) | exact HK.out)⟩, ⟨by repeat (first | (with_reducible first | exact HB.out | apply below_alloc | apply pw_below_drewN | apply below_drew1 | refine below_set ?_ (IsS41.ge HI0.out) | refine below_set ?_ GE115.out | refine below_set ?_ GE122.out) | exact HB.out)⟩⟩
            ·rw [if_neg c84] at H
             have c84b0 : (x123000_20 == 2) = false := beq_eq_false_iff_ne.mpr c84
             have c84b1 : (x123000_20 != 2) = true := bne_iff_ne.mpr c84
             (first | rw [c84b0] | (simp only [i64_w, i32_w]; rw [c84b0]) | skip)
             have H' := Aside0.mk H
             clear H
             go_wp2
             go_meet
             case rel => exact ⟨_, ((x123000_20 == 3)), (by first | rfl | (simp; done) | (simp [*]; done)), H', ⟨by have := HJ3.out; have := HJ20.out; have := HJ25.out; have := HJ53.out; have := HJ63.out; first | omega | exact Nat.le_refl _⟩, ⟨by (with_reducible repeat (first | refine blk_drewN ?_ _ | refine blk_drew ?_ | refine blk_alloc ?_ _)); exact BK115.out⟩, ⟨by (with_reducible repeat (first | refine blk_drewN ?_ _ | refine blk_drew ?_ | refine blk_alloc ?_ _)); exact BK122.out⟩, ⟨by repeat (first | (with_reducible first | exact HI0.out | apply IsS41.alloc | apply IsS41.drewN | apply IsS41.drew | apply IsS41.set_1 | apply IsS41.set_2 | refine IsS41.far ?_ NB0_115.out _ | refine IsS41.far ?_ NB0_122.out _) | exact HI0.out)⟩, ⟨by repeat (first | (with_reducible first | exact HK.out | apply KeepBut.set_ | apply keep_drewN | apply keep_drew | apply keep_alloc | refine keep_far ?_ GW115.out _ | refine keep_far ?_ GW122.out _) | exact HK.out)⟩, ⟨by repeat (first | (with_reducible first | exact HB.out | apply below_alloc | apply pw_below_drewN | apply below_drew1 | refine below_set ?_ (IsS41.ge HI0.out) | refine below_set ?_ GE115.out | refine below_set ?_ GE122.out) | exact HB.out)⟩⟩
           case rest =>
            clear HC80
            try clear c1
            try clear c2
            try clear p2
            try clear c3
            try clear c4
            try clear c5
            try clear c6
            try clear p6
            try clear c7
            try clear c8
            try clear c11
            try clear c12
            try clear c14
            try clear c14b0
            try clear c15
            try clear c16
            try clear c17
            try clear c18
            try clear c19
            try clear c22
            try clear c23
            try clear c24
            try clear c27
            try clear c28
            try clear c30
            try clear c30b0
            try clear c30b1
            try clear c31
            try clear c32
            try clear c33
            try clear c34
            try clear c36
            try clear c36b0
            try clear c36b1
            try clear c39
            try clear c40
            try clear c42
            try clear c42b0
            try clear c42b1
            try clear c45
            try clear c46
            try clear c48
            try clear c48b0
            try clear c48b1
            try clear c51
            try clear c52
            try clear c55
            try clear c56
            try clear c58
            try clear c58b0
            try clear c58b1
            try clear c61
            try clear c62
            try clear p64
            try clear c65
            try clear c66
            try clear c68
            try clear c68b0
            try clear c68b1
            try clear c71
            try clear c72
            try clear c74
            try clear c74b0
            try clear c74b1
            try clear c77
            try clear c78
            try clear c81
            try clear c82
            try clear c84
            try clear c84b0
            try clear c84b1
            try clear hcz13_0
            try clear hcz13_1
            try clear hcz13_2
            try clear hcz13_3
            try clear hcz13_4
            try clear hcz13_5
            try clear hcz17_0
            try clear hcz17_1
            try clear hcz17_2
            try clear hcz17_3
            try clear hcz17_4
            try clear hcz17_5
            try clear hcz20_0
            try clear hcz20_1
            try clear hcz20_2
            try clear hcz20_3
            try clear hcz20_4
            try clear hcz20_5
            try clear hcz25_0
            try clear hcz25_1
            try clear hcz25_2
            try clear hcz25_3
            try clear hcz25_4
            try clear hcz25_5
            try clear hcz29_0
            try clear hcz29_1
            try clear hcz29_2
            try clear hcz29_3
            try clear hcz29_4
            try clear hcz29_5
            try clear hcz35_0
            try clear hcz35_1
            try clear hcz35_2
            try clear hcz35_3
            try clear hcz35_4
            try clear hcz35_5
            try clear hcz41_0
            try clear hcz41_1
            try clear hcz41_2
            try clear hcz41_3
            try clear hcz41_4
            try clear hcz41_5
            try clear hcz47_0
            try clear hcz47_1
            try clear hcz47_2
            try clear hcz47_3
            try clear hcz47_4
            try clear hcz47_5
            try clear hcz53_0
            try clear hcz53_1
            try clear hcz53_2
            try clear hcz53_3
            try clear hcz53_4
            try clear hcz53_5
            try clear hcz57_0
            try clear hcz57_1
            try clear hcz57_2
            try clear hcz57_3
            try clear hcz57_4
            try clear hcz57_5
            try clear hcz63_0
            try clear hcz63_1
            try clear hcz63_2
            try clear hcz63_3
            try clear hcz63_4
            try clear hcz63_5
            try clear hcz67_0
            try clear hcz67_1
            try clear hcz67_2
            try clear hcz67_3
            try clear hcz67_4
            try clear hcz67_5
            try clear hcz73_0
            try clear hcz73_1
            try clear hcz73_2
            try clear hcz73_3
            try clear hcz73_4
            try clear hcz73_5
            try clear hcz79_0
            try clear hcz79_1
            try clear hcz79_2
            try clear hcz79_3
            try clear hcz79_4
            try clear hcz79_5
            try clear hcz83_0
            try clear hcz83_1
            try clear hcz83_2
            try clear hcz83_3
            try clear hcz83_4
            try clear hcz83_5
            try clear hfz13_0
            try clear hfz13_1
            try clear hfz13_2
            try clear hfz13_3
            try clear hfz13_4
            try clear hfz13_5
            try clear hfz17_0
            try clear hfz17_1
            try clear hfz17_2
            try clear hfz17_3
            try clear hfz17_4
            try clear hfz17_5
            try clear hfz20_0
            try clear hfz20_1
            try clear hfz20_2
            try clear hfz20_3
            try clear hfz20_4
            try clear hfz20_5
            try clear hfz25_0
            try clear hfz25_1
            try clear hfz25_2
            try clear hfz25_3
            try clear hfz25_4
            try clear hfz25_5
            try clear hfz29_0
            try clear hfz29_1
            try clear hfz29_2
            try clear hfz29_3
            try clear hfz29_4
            try clear hfz29_5
            try clear hfz35_0
            try clear hfz35_1
            try clear hfz35_2
            try clear hfz35_3
            try clear hfz35_4
            try clear hfz35_5
            try clear hfz41_0
            try clear hfz41_1
            try clear hfz41_2
            try clear hfz41_3
            try clear hfz41_4
            try clear hfz41_5
            try clear hfz47_0
            try clear hfz47_1
            try clear hfz47_2
            try clear hfz47_3
            try clear hfz47_4
            try clear hfz47_5
            try clear hfz53_0
            try clear hfz53_1
            try clear hfz53_2
            try clear hfz53_3
            try clear hfz53_4
            try clear hfz53_5
            try clear hfz57_0
            try clear hfz57_1
            try clear hfz57_2
            try clear hfz57_3
            try clear hfz57_4
            try clear hfz57_5
            try clear hfz63_0
            try clear hfz63_1
            try clear hfz63_2
            try clear hfz63_3
            try clear hfz63_4
            try clear hfz63_5
            try clear hfz67_0
            try clear hfz67_1
            try clear hfz67_2
            try clear hfz67_3
            try clear hfz67_4
            try clear hfz67_5
            try clear hfz73_0
            try clear hfz73_1
            try clear hfz73_2
            try clear hfz73_3
            try clear hfz73_4
            try clear hfz73_5
            try clear hfz79_0
            try clear hfz79_1
            try clear hfz79_2
            try clear hfz79_3
            try clear hfz79_4
            try clear hfz79_5
            try clear hfz83_0
            try clear hfz83_1
            try clear hfz83_2
            try clear hfz83_3
            try clear hfz83_4
            try clear hfz83_5
            try clear p2
            try clear p6
            try clear p64
            obtain ⟨kq, x45_79, rfl, HA, HJ79, BK115, BK122, HI0, HK, HB⟩ := hcut
            cases kq with
            | zero => exact absurd HA.out (by simp [spec_l1Cur_step.j5])
            | succ kj79 =>
             have H := HA.out
             clear HA
             simp only [spec_l1Cur_step.j5] at H
             by_cases c85 : x45_79 = true
             ·subst c85
              have H1 : ((spec_l1Cur_pick.f s0_0 x1001_63 x1002_63 20).bind fun bt144 => ((spec_l1Cur_among.f s0_0 bt144.2.1 bt144.2.2 (([0, 1, 3, 7, 255, bt144.1] : List Int))).bind fun bt150 => (some (x123000_20, x123001_63, x123002_53, x123003_25, bt150.1, 0, bt150.2.1, bt150.2.2)))) = some (r1, r2, r3, r4, r5, r6, r7, r8) := by rw [if_pos rfl] at H; exact H
              clear H
              have H := H1
              clear H1
              replace H := Option.bind_eq_some_iff.mp H
              obtain ⟨⟨t144, t145, t146⟩, A860, H⟩ := H
              (try dsimp only at H)
              have A86 := Aside0.mk A860
              clear A860
              obtain ⟨y147, hy147⟩ : ∃ y_ : List Int, y_ = (([0, 1, 3, 7, 255, t144] : List Int)) := ⟨_, rfl⟩
              replace H : ((spec_l1Cur_among.f s0_0 t145 t146 y147).bind fun bt150 => (some (x123000_20, x123001_63, x123002_53, x123003_25, bt150.1, 0, bt150.2.1, bt150.2.2))) = some (r1, r2, r3, r4, r5, r6, r7, r8) := by first | (rw [hy147]; with_reducible exact H) | (have H2_ := (Option.bind_some _ _).symm.trans H; rw [hy147]; with_reducible exact H2_) | (have H2_ := (Option.bind_some _ _).symm.trans H; with_reducible exact H2_) | with_reducible exact H | (rw [hy147]; exact H) | exact H
              have Ny147 := Aside0.mk hy147
              clear hy147
              replace H := Option.bind_eq_some_iff.mp H
              obtain ⟨⟨t150, t151, t152⟩, A870, H⟩ := H
              (try dsimp only at H)
              have A87 := Aside0.mk A870
              clear A870
              simp only [Option.some.injEq, Prod.mk.injEq] at H
              obtain ⟨rfl, rfl, rfl, rfl, rfl, rfl, rfl, rfl⟩ := H
              go_wp2_with (first | ((with_reducible refine gate_callee (f := 17) rfl ?_); refine goesL_ (some 50) rfl rfl Tryd.func17 (by kernel_rfl) rfl #[.pointer (some ⟨g, 0, none⟩), .int .i64 20] rfl (by simp only [zA_, zB_, zD_] <;> rfl) ?_; (with_reducible refine (spec_l1Cur_pick.calls g s0_0 x1001_63 x1002_63 20 t144 t145 t146 w0 _ ?side1 ?side2 A86.out).mono ?_); (case side1 => repeat (first | (with_reducible first | exact HI0.out | apply IsS41.alloc | apply IsS41.drewN | apply IsS41.drew | apply IsS41.set_1 | apply IsS41.set_2 | refine IsS41.far ?_ NB0_115.out _ | refine IsS41.far ?_ NB0_122.out _) | exact HI0.out)); (case side2 => repeat (first | (with_reducible first | exact HB.out | apply below_alloc | apply pw_below_drewN | apply below_drew1 | refine below_set ?_ (IsS41.ge HI0.out) | refine below_set ?_ GE115.out | refine below_set ?_ GE122.out) | exact HB.out)); rintro e w88 ⟨rfl, hi, hb, hk⟩; refine ⟨_, rfl, ?_⟩; have n0_ := Aside0.mk (KeepBut.blk hk (g' := gb115) (o := .cells #[.int .i64 0, .int .i64 0, .int .i64 0, .int .i64 0, .int .i64 0, .int .i64 0] 31 (0, 0)) (by (with_reducible repeat (first | refine blk_drewN ?_ _ | refine blk_drew ?_ | refine blk_alloc ?_ _)); exact BK115.out) NB115_0.out (by simp)); have n1_ := Aside0.mk (KeepBut.blk hk (g' := gb122) (o := .cells #[.int .i64 x123000_20, .int .i64 x123001_63, .int .i64 x123002_53, .int .i64 x123003_25, .int .i64 0, .int .i64 0] 31 (0, 0)) (by (with_reducible repeat (first | refine blk_drewN ?_ _ | refine blk_drew ?_ | refine blk_alloc ?_ _)); exact BK122.out) NB122_0.out (by simp)); have n2_ := Aside0.mk (KeepBut.trans (by repeat (first | (with_reducible first | exact HK.out | apply KeepBut.set_ | apply keep_drewN | apply keep_drew | apply keep_alloc | refine keep_far ?_ GW115.out _ | refine keep_far ?_ GW122.out _) | exact HK.out)) hk (.inl rfl)); have n3_ := Aside0.mk (hb); have n4_ := Aside0.mk (hi); clear BK115; clear BK122; clear HK; clear HB; clear HI0; have BK115 := n0_; have BK122 := n1_; have HK := n2_; have HB := n3_; have HI0 := n4_; clear n0_ n1_ n2_ n3_ n4_; (try clear hb); (try clear hb2); (try clear hk); (try clear hi)) | ((with_reducible refine gate_dst (N := 51) rfl ?_); refine Kd.R_lit (Kd.int .i64) _ 3 ?hg (N := 51) ?hd (xs := ([0, 1, 3, 7, 255, t144] : List Int)) (inner := [.int .i64 0, .int .i64 1, .int .i64 3, .int .i64 7, .int .i64 255, .int .i64 t144]) (ok := fun _ => True) (okp := fun _ => True) ?hr ?hp (fun _ hk => hk) trivial (Below.refl _ _) (Nat.le_refl _) (by simp) ?_; (case hd => rfl); (case hg => rfl); (case hr => first | (go_simp; done) | (go_simp; rfl)); (case hp => exact (Reps.one (show Kd.M (Kd.int .i64) _ _ _ 0 [.int .i64 0] from rfl) (Reps.one (show Kd.M (Kd.int .i64) _ _ _ 1 [.int .i64 1] from rfl) (Reps.one (show Kd.M (Kd.int .i64) _ _ _ 3 [.int .i64 3] from rfl) (Reps.one (show Kd.M (Kd.int .i64) _ _ _ 7 [.int .i64 7] from rfl) (Reps.one (show Kd.M (Kd.int .i64) _ _ _ 255 [.int .i64 255] from rfl) (Reps.one (show Kd.M (Kd.int .i64) _ _ _ t144 [.int .i64 t144] from rfl) (Reps.none _ _)))))))); intro v148 w89 ho90 hb hg_ hnew_; clear hg_ hnew_; (first | rw [← Ny147.out] at ho90 | (simp only [Int.reduceToNat] at ho90; rw [← Ny147.out] at ho90)); have n0_ := Aside0.mk (Kd.R_lower ho90 (keep_size (w := w) (g := g) (row := none) (by repeat (first | (with_reducible first | exact HK.out | apply KeepBut.set_ | apply keep_drewN | apply keep_drew | apply keep_alloc | refine keep_far ?_ GW115.out _ | refine keep_far ?_ GW122.out _) | exact HK.out)))); have n1_ := Aside0.mk (blk_below (g := gb115) (o := .cells #[.int .i64 0, .int .i64 0, .int .i64 0, .int .i64 0, .int .i64 0, .int .i64 0] 31 (0, 0)) (by (with_reducible repeat (first | refine blk_drewN ?_ _ | refine blk_drew ?_ | refine blk_alloc ?_ _)); exact BK115.out) hb); have n2_ := Aside0.mk (blk_below (g := gb122) (o := .cells #[.int .i64 x123000_20, .int .i64 x123001_63, .int .i64 x123002_53, .int .i64 x123003_25, .int .i64 0, .int .i64 0] 31 (0, 0)) (by (with_reducible repeat (first | refine blk_drewN ?_ _ | refine blk_drew ?_ | refine blk_alloc ?_ _)); exact BK122.out) hb); have n3_ := Aside0.mk (IsS41.below (by repeat (first | (with_reducible first | exact HI0.out | apply IsS41.alloc | apply IsS41.drewN | apply IsS41.drew | apply IsS41.set_1 | apply IsS41.set_2 | refine IsS41.far ?_ NB0_115.out _ | refine IsS41.far ?_ NB0_122.out _) | exact HI0.out)) hb); have n4_ := Aside0.mk (KeepBut.trans (by repeat (first | (with_reducible first | exact HK.out | apply KeepBut.set_ | apply keep_drewN | apply keep_drew | apply keep_alloc | refine keep_far ?_ GW115.out _ | refine keep_far ?_ GW122.out _) | exact HK.out)) (KeepBut.of_below hb g none) (.inl rfl)); have n5_ := Aside0.mk (below_step (by repeat (first | (with_reducible first | exact HB.out | apply below_alloc | apply pw_below_drewN | apply below_drew1 | refine below_set ?_ (IsS41.ge HI0.out) | refine below_set ?_ GE115.out | refine below_set ?_ GE122.out) | exact HB.out)) hb); clear BK115; clear BK122; clear HI0; clear HK; clear HB; have HO149 := n0_; have BK115 := n1_; have BK122 := n2_; have HI0 := n3_; have HK := n4_; have HB := n5_; clear n0_ n1_ n2_ n3_ n4_ n5_; clear hb ho90; obtain ⟨Ao91, co91, eo91⟩ := Kd.R_slice HO149.out; subst eo91) | ((with_reducible refine gate_callee (f := 32) rfl ?_); refine goesL_ (some 52) rfl rfl Tryd.func32 (by kernel_rfl) rfl #[.pointer (some ⟨g, 0, none⟩), .slice Ao91 y147.length co91] rfl (by simp only [zA_, zB_, zD_] <;> rfl) ?_; (with_reducible refine (spec_l1Cur_among.calls g s0_0 t145 t146 _ _ y147 t150 t151 t152 w0 _ ?side1 ?side2 ?side3 ?side4 ?side5 A87.out).mono ?_); (case side1 => repeat (first | (with_reducible first | exact HI0.out | apply IsS41.alloc | apply IsS41.drewN | apply IsS41.drew | apply IsS41.set_1 | apply IsS41.set_2 | refine IsS41.far ?_ NB0_115.out _ | refine IsS41.far ?_ NB0_122.out _) | exact HI0.out)); (case side2 => repeat (first | (with_reducible first | exact HB.out | apply below_alloc | apply pw_below_drewN | apply below_drew1 | refine below_set ?_ (IsS41.ge HI0.out) | refine below_set ?_ GE115.out | refine below_set ?_ GE122.out) | exact HB.out)); (case side3 => exact zC_ (Kd.R_reads' HO149.out).2.2); (case side4 => exact (Kd.R_reads' HO149.out).2.1); (case side5 => exact far_slice (IsS41.own_ne HI0.out HO149.out (by decide))); rintro e w92 ⟨rfl, hi, hb, hk⟩; refine ⟨_, rfl, ?_⟩; have n0_ := Aside0.mk (KeepBut.blk hk (g' := gb115) (o := .cells #[.int .i64 0, .int .i64 0, .int .i64 0, .int .i64 0, .int .i64 0, .int .i64 0] 31 (0, 0)) (by (with_reducible repeat (first | refine blk_drewN ?_ _ | refine blk_drew ?_ | refine blk_alloc ?_ _)); exact BK115.out) NB115_0.out (by simp)); have n1_ := Aside0.mk (KeepBut.blk hk (g' := gb122) (o := .cells #[.int .i64 x123000_20, .int .i64 x123001_63, .int .i64 x123002_53, .int .i64 x123003_25, .int .i64 0, .int .i64 0] 31 (0, 0)) (by (with_reducible repeat (first | refine blk_drewN ?_ _ | refine blk_drew ?_ | refine blk_alloc ?_ _)); exact BK122.out) NB122_0.out (by simp)); have n2_ := Aside0.mk (Kd.R_mono (Kd.R_keep (IsS41.apart (show IsS41 w0 _ g s0_0 t145 t146 from by repeat (first | (with_reducible first | exact HI0.out | apply IsS41.alloc | apply IsS41.drewN | apply IsS41.drew | apply IsS41.set_1 | apply IsS41.set_2 | refine IsS41.far ?_ NB0_115.out _ | refine IsS41.far ?_ NB0_122.out _) | exact HI0.out)) (zR_ HO149.out) (by decide)) hk (fun _ h => h.2)) (fun _ h => h.1)); have n3_ := Aside0.mk (KeepBut.trans (by repeat (first | (with_reducible first | exact HK.out | apply KeepBut.set_ | apply keep_drewN | apply keep_drew | apply keep_alloc | refine keep_far ?_ GW115.out _ | refine keep_far ?_ GW122.out _) | exact HK.out)) hk (.inl rfl)); have n4_ := Aside0.mk (hb); have n5_ := Aside0.mk (hi); clear BK115; clear BK122; clear HO149; clear HK; clear HB; clear HI0; have BK115 := n0_; have BK122 := n1_; have HO149 := n2_; have HK := n3_; have HB := n4_; have HI0 := n5_; clear n0_ n1_ n2_ n3_ n4_ n5_; (try clear hb); (try clear hb2); (try clear hk); (try clear hi); have hnb93 := NB122_115.out; have hnc93 := NB115_122.out; have hnb94 := NB122_0.out; have hnc94 := NB0_122.out; have hcz95_0 : w92.cell? ⟨gb122, 0, none⟩ = some (.int .i64 x123000_20) := (blk_cell BK122.out 0).trans rfl; have hcz95_1 : w92.cell? ⟨gb122, 1, none⟩ = some (.int .i64 x123001_63) := (blk_cell BK122.out 1).trans rfl; have hcz95_2 : w92.cell? ⟨gb122, 2, none⟩ = some (.int .i64 x123002_53) := (blk_cell BK122.out 2).trans rfl; have hcz95_3 : w92.cell? ⟨gb122, 3, none⟩ = some (.int .i64 x123003_25) := (blk_cell BK122.out 3).trans rfl; have hcz95_4 : w92.cell? ⟨gb122, 4, none⟩ = some (.int .i64 0) := (blk_cell BK122.out 4).trans rfl; have hcz95_5 : w92.cell? ⟨gb122, 5, none⟩ = some (.int .i64 0) := (blk_cell BK122.out 5).trans rfl; have hfz95_0 := blk_frozen BK122.out 0; have hfz95_1 := blk_frozen BK122.out 1; have hfz95_2 := blk_frozen BK122.out 2; have hfz95_3 := blk_frozen BK122.out 3; have hfz95_4 := blk_frozen BK122.out 4; have hfz95_5 := blk_frozen BK122.out 5; have hnb96 := NB115_0.out; have hnc96 := NB0_115.out; have hcz97_0 : w92.cell? ⟨gb115, 0, none⟩ = some (.int .i64 0) := (blk_cell BK115.out 0).trans rfl; have hcz97_1 : w92.cell? ⟨gb115, 1, none⟩ = some (.int .i64 0) := (blk_cell BK115.out 1).trans rfl; have hcz97_2 : w92.cell? ⟨gb115, 2, none⟩ = some (.int .i64 0) := (blk_cell BK115.out 2).trans rfl; have hcz97_3 : w92.cell? ⟨gb115, 3, none⟩ = some (.int .i64 0) := (blk_cell BK115.out 3).trans rfl; have hcz97_4 : w92.cell? ⟨gb115, 4, none⟩ = some (.int .i64 0) := (blk_cell BK115.out 4).trans rfl; have hcz97_5 : w92.cell? ⟨gb115, 5, none⟩ = some (.int .i64 0) := (blk_cell BK115.out 5).trans rfl; have hfz97_0 := blk_frozen BK115.out 0; have hfz97_1 := blk_frozen BK115.out 1; have hfz97_2 := blk_frozen BK115.out 2; have hfz97_3 := blk_frozen BK115.out 3; have hfz97_4 := blk_frozen BK115.out 4; have hfz97_5 := blk_frozen BK115.out 5))
              refine bodyPost_ret (results_cell_row rfl _ _ gb115 31 #[.int .i64 x123000_20, .int .i64 x123001_63, .int .i64 x123002_53, .int .i64 x123003_25, .int .i64 t150, .int .i64 0] (0, 0) _ rfl (by (with_reducible repeat (first | refine blk_drewN ?_ _ | refine blk_drew ?_ | refine blk_alloc ?_ _)); refine blk_put (cs := #[.int .i64 x123000_20, .int .i64 x123001_63, .int .i64 x123002_53, .int .i64 x123003_25, .int .i64 t150, .int .i64 0]) ?_ 5 _ rfl; (with_reducible repeat (first | refine blk_drewN ?_ _ | refine blk_drew ?_ | refine blk_alloc ?_ _)); refine blk_put (cs := #[.int .i64 x123000_20, .int .i64 x123001_63, .int .i64 x123002_53, .int .i64 x123003_25, .int .i64 0, .int .i64 0]) ?_ 4 _ rfl; (with_reducible repeat (first | refine blk_drewN ?_ _ | refine blk_drew ?_ | refine blk_alloc ?_ _)); refine blk_put (cs := #[.int .i64 x123000_20, .int .i64 x123001_63, .int .i64 x123002_53, .int .i64 0, .int .i64 0, .int .i64 0]) ?_ 3 _ rfl; (with_reducible repeat (first | refine blk_drewN ?_ _ | refine blk_drew ?_ | refine blk_alloc ?_ _)); refine blk_put (cs := #[.int .i64 x123000_20, .int .i64 x123001_63, .int .i64 0, .int .i64 0, .int .i64 0, .int .i64 0]) ?_ 2 _ rfl; (with_reducible repeat (first | refine blk_drewN ?_ _ | refine blk_drew ?_ | refine blk_alloc ?_ _)); refine blk_put (cs := #[.int .i64 x123000_20, .int .i64 0, .int .i64 0, .int .i64 0, .int .i64 0, .int .i64 0]) ?_ 1 _ rfl; (with_reducible repeat (first | refine blk_drewN ?_ _ | refine blk_drew ?_ | refine blk_alloc ?_ _)); refine blk_put (cs := #[.int .i64 0, .int .i64 0, .int .i64 0, .int .i64 0, .int .i64 0, .int .i64 0]) ?_ 0 _ rfl; (with_reducible repeat (first | refine blk_drewN ?_ _ | refine blk_drew ?_ | refine blk_alloc ?_ _)); refine blk_far ?_ NB115_122.out _; (with_reducible repeat (first | refine blk_drewN ?_ _ | refine blk_drew ?_ | refine blk_alloc ?_ _)); exact BK115.out) Tryd.underlying31 rfl (by kernel_rfl)) rfl ?_
              exact ⟨by first | rfl | (simp [errW_none, errW_some] <;> rfl) | (simp [*, errW_none, errW_some] <;> rfl), by repeat (first | (with_reducible first | exact HI0.out | apply IsS41.alloc | apply IsS41.drewN | apply IsS41.drew | apply IsS41.set_1 | apply IsS41.set_2 | refine IsS41.far ?_ NB0_115.out _ | refine IsS41.far ?_ NB0_122.out _) | exact HI0.out), by repeat (first | (with_reducible first | exact HB.out | apply below_alloc | apply pw_below_drewN | apply below_drew1 | refine below_set ?_ (IsS41.ge HI0.out) | refine below_set ?_ GE115.out | refine below_set ?_ GE122.out) | exact HB.out), by repeat (first | (with_reducible first | exact HK.out | apply KeepBut.set_ | apply keep_drewN | apply keep_drew | apply keep_alloc | refine keep_far ?_ GW115.out _ | refine keep_far ?_ GW122.out _) | exact HK.out)⟩
             ·replace c85 := Bool.eq_false_iff.mpr c85
              subst c85
              have H1 : (if x123000_20 = 4 then ((spec_l1Cur_pick.f s0_0 x1001_63 x1002_63 256).bind fun bt153 => ((spec_l1Cur_pick.f s0_0 bt153.2.1 bt153.2.2 250).bind fun bt156 => ((spec_l1Cur_among.f s0_0 bt156.2.1 bt156.2.2 (([256, 65535, wrap64 (256 + (wrap64 (bt153.1 * bt156.1)))] : List Int))).bind fun bt162 => (some (x123000_20, x123001_63, x123002_53, x123003_25, bt162.1, 0, bt162.2.1, bt162.2.2))))) else (if x123000_20 = 5 then ((spec_l1Cur_pick.f s0_0 x1001_63 x1002_63 5).bind fun bt165 => (some (x123000_20, x123001_63, x123002_53, x123003_25, bt165.1, 0, bt165.2.1, bt165.2.2))) else (if x123000_20 = 6 then (spec_l1Cur_step.j6 kj79 a1 x123000_20 (x123000_20 == 6) s0_0 x1001_63 x1002_63 x123000_20 x123001_63 x123002_53 x123003_25 0 0) else (spec_l1Cur_step.j6 kj79 a1 x123000_20 (x123000_20 == 7) s0_0 x1001_63 x1002_63 x123000_20 x123001_63 x123002_53 x123003_25 0 0)))) = some (r1, r2, r3, r4, r5, r6, r7, r8) := by rw [if_neg (show ¬ (false = true) by decide)] at H; exact H
              clear H
              have H := H1
              clear H1
              by_cases c98 : x123000_20 = 4
              ·rw [if_pos c98] at H
               have c98b0 : (x123000_20 == 4) = true := beq_iff_eq.mpr c98
               have c98b1 : (x123000_20 != 4) = false := bne_eq_false_iff_eq.mpr c98
               clear c98
               replace H := Option.bind_eq_some_iff.mp H
               obtain ⟨⟨t153, t154, t155⟩, A990, H⟩ := H
               (try dsimp only at H)
               have A99 := Aside0.mk A990
               clear A990
               replace H := Option.bind_eq_some_iff.mp H
               obtain ⟨⟨t156, t157, t158⟩, A1000, H⟩ := H
               (try dsimp only at H)
               have A100 := Aside0.mk A1000
               clear A1000
               obtain ⟨y159, hy159⟩ : ∃ y_ : List Int, y_ = (([256, 65535, wrap64 (256 + (wrap64 (t153 * t156)))] : List Int)) := ⟨_, rfl⟩
               replace H : ((spec_l1Cur_among.f s0_0 t157 t158 y159).bind fun bt162 => (some (x123000_20, x123001_63, x123002_53, x123003_25, bt162.1, 0, bt162.2.1, bt162.2.2))) = some (r1, r2, r3, r4, r5, r6, r7, r8) := by first | (rw [hy159]; with_reducible exact H) | (have H2_ := (Option.bind_some _ _).symm.trans H; rw [hy159]; with_reducible exact H2_) | (have H2_ := (Option.bind_some _ _).symm.trans H; with_reducible exact H2_) | with_reducible exact H | (rw [hy159]; exact H) | exact H
               have Ny159 := Aside0.mk hy159
               clear hy159
               replace H := Option.bind_eq_some_iff.mp H
               obtain ⟨⟨t162, t163, t164⟩, A1010, H⟩ := H
               (try dsimp only at H)
               have A101 := Aside0.mk A1010
               clear A1010
               simp only [Option.some.injEq, Prod.mk.injEq] at H
               obtain ⟨rfl, rfl, rfl, rfl, rfl, rfl, rfl, rfl⟩ := H
               go_wp2_with (first | ((with_reducible refine gate_callee (f := 17) rfl ?_); refine goesL_ (some 58) rfl rfl Tryd.func17 (by kernel_rfl) rfl #[.pointer (some ⟨g, 0, none⟩), .int .i64 256] rfl (by simp only [zA_, zB_, zD_] <;> rfl) ?_; (with_reducible refine (spec_l1Cur_pick.calls g s0_0 x1001_63 x1002_63 256 t153 t154 t155 w0 _ ?side1 ?side2 A99.out).mono ?_); (case side1 => repeat (first | (with_reducible first | exact HI0.out | apply IsS41.alloc | apply IsS41.drewN | apply IsS41.drew | apply IsS41.set_1 | apply IsS41.set_2 | refine IsS41.far ?_ NB0_115.out _ | refine IsS41.far ?_ NB0_122.out _) | exact HI0.out)); (case side2 => repeat (first | (with_reducible first | exact HB.out | apply below_alloc | apply pw_below_drewN | apply below_drew1 | refine below_set ?_ (IsS41.ge HI0.out) | refine below_set ?_ GE115.out | refine below_set ?_ GE122.out) | exact HB.out)); rintro e w102 ⟨rfl, hi, hb, hk⟩; refine ⟨_, rfl, ?_⟩; have n0_ := Aside0.mk (KeepBut.blk hk (g' := gb115) (o := .cells #[.int .i64 0, .int .i64 0, .int .i64 0, .int .i64 0, .int .i64 0, .int .i64 0] 31 (0, 0)) (by (with_reducible repeat (first | refine blk_drewN ?_ _ | refine blk_drew ?_ | refine blk_alloc ?_ _)); exact BK115.out) NB115_0.out (by simp)); have n1_ := Aside0.mk (KeepBut.blk hk (g' := gb122) (o := .cells #[.int .i64 x123000_20, .int .i64 x123001_63, .int .i64 x123002_53, .int .i64 x123003_25, .int .i64 0, .int .i64 0] 31 (0, 0)) (by (with_reducible repeat (first | refine blk_drewN ?_ _ | refine blk_drew ?_ | refine blk_alloc ?_ _)); exact BK122.out) NB122_0.out (by simp)); have n2_ := Aside0.mk (KeepBut.trans (by repeat (first | (with_reducible first | exact HK.out | apply KeepBut.set_ | apply keep_drewN | apply keep_drew | apply keep_alloc | refine keep_far ?_ GW115.out _ | refine keep_far ?_ GW122.out _) | exact HK.out)) hk (.inl rfl)); have n3_ := Aside0.mk (hb); have n4_ := Aside0.mk (hi); clear BK115; clear BK122; clear HK; clear HB; clear HI0; have BK115 := n0_; have BK122 := n1_; have HK := n2_; have HB := n3_; have HI0 := n4_; clear n0_ n1_ n2_ n3_ n4_; (try clear hb); (try clear hb2); (try clear hk); (try clear hi)) | ((with_reducible refine gate_callee (f := 17) rfl ?_); refine goesL_ (some 60) rfl rfl Tryd.func17 (by kernel_rfl) rfl #[.pointer (some ⟨g, 0, none⟩), .int .i64 250] rfl (by simp only [zA_, zB_, zD_] <;> rfl) ?_; (with_reducible refine (spec_l1Cur_pick.calls g s0_0 t154 t155 250 t156 t157 t158 w0 _ ?side1 ?side2 A100.out).mono ?_); (case side1 => repeat (first | (with_reducible first | exact HI0.out | apply IsS41.alloc | apply IsS41.drewN | apply IsS41.drew | apply IsS41.set_1 | apply IsS41.set_2 | refine IsS41.far ?_ NB0_115.out _ | refine IsS41.far ?_ NB0_122.out _) | exact HI0.out)); (case side2 => repeat (first | (with_reducible first | exact HB.out | apply below_alloc | apply pw_below_drewN | apply below_drew1 | refine below_set ?_ (IsS41.ge HI0.out) | refine below_set ?_ GE115.out | refine below_set ?_ GE122.out) | exact HB.out)); rintro e w103 ⟨rfl, hi, hb, hk⟩; refine ⟨_, rfl, ?_⟩; have n0_ := Aside0.mk (KeepBut.blk hk (g' := gb115) (o := .cells #[.int .i64 0, .int .i64 0, .int .i64 0, .int .i64 0, .int .i64 0, .int .i64 0] 31 (0, 0)) (by (with_reducible repeat (first | refine blk_drewN ?_ _ | refine blk_drew ?_ | refine blk_alloc ?_ _)); exact BK115.out) NB115_0.out (by simp)); have n1_ := Aside0.mk (KeepBut.blk hk (g' := gb122) (o := .cells #[.int .i64 x123000_20, .int .i64 x123001_63, .int .i64 x123002_53, .int .i64 x123003_25, .int .i64 0, .int .i64 0] 31 (0, 0)) (by (with_reducible repeat (first | refine blk_drewN ?_ _ | refine blk_drew ?_ | refine blk_alloc ?_ _)); exact BK122.out) NB122_0.out (by simp)); have n2_ := Aside0.mk (KeepBut.trans (by repeat (first | (with_reducible first | exact HK.out | apply KeepBut.set_ | apply keep_drewN | apply keep_drew | apply keep_alloc | refine keep_far ?_ GW115.out _ | refine keep_far ?_ GW122.out _) | exact HK.out)) hk (.inl rfl)); have n3_ := Aside0.mk (hb); have n4_ := Aside0.mk (hi); clear BK115; clear BK122; clear HK; clear HB; clear HI0; have BK115 := n0_; have BK122 := n1_; have HK := n2_; have HB := n3_; have HI0 := n4_; clear n0_ n1_ n2_ n3_ n4_; (try clear hb); (try clear hb2); (try clear hk); (try clear hi)) | ((with_reducible refine gate_dst (N := 63) rfl ?_); refine Kd.R_lit (Kd.int .i64) _ 3 ?hg (N := 63) ?hd (xs := ([256, 65535, wrap64 (256 + (wrap64 (t153 * t156)))] : List Int)) (inner := [.int .i64 256, .int .i64 65535, .int .i64 (wrap64 (256 + (wrap64 (t153 * t156))))]) (ok := fun _ => True) (okp := fun _ => True) ?hr ?hp (fun _ hk => hk) trivial (Below.refl _ _) (Nat.le_refl _) (by simp) ?_; (case hd => rfl); (case hg => rfl); (case hr => first | (go_simp; done) | (go_simp; rfl)); (case hp => exact (Reps.one (show Kd.M (Kd.int .i64) _ _ _ 256 [.int .i64 256] from rfl) (Reps.one (show Kd.M (Kd.int .i64) _ _ _ 65535 [.int .i64 65535] from rfl) (Reps.one (show Kd.M (Kd.int .i64) _ _ _ (wrap64 (256 + (wrap64 (t153 * t156)))) [.int .i64 (wrap64 (256 + (wrap64 (t153 * t156))))] from rfl) (Reps.none _ _))))); intro v160 w104 ho105 hb hg_ hnew_; clear hg_ hnew_; (first | rw [← Ny159.out] at ho105 | (simp only [Int.reduceToNat] at ho105; rw [← Ny159.out] at ho105)); have n0_ := Aside0.mk (Kd.R_lower ho105 (keep_size (w := w) (g := g) (row := none) (by repeat (first | (with_reducible first | exact HK.out | apply KeepBut.set_ | apply keep_drewN | apply keep_drew | apply keep_alloc | refine keep_far ?_ GW115.out _ | refine keep_far ?_ GW122.out _) | exact HK.out)))); have n1_ := Aside0.mk (blk_below (g := gb115) (o := .cells #[.int .i64 0, .int .i64 0, .int .i64 0, .int .i64 0, .int .i64 0, .int .i64 0] 31 (0, 0)) (by (with_reducible repeat (first | refine blk_drewN ?_ _ | refine blk_drew ?_ | refine blk_alloc ?_ _)); exact BK115.out) hb); have n2_ := Aside0.mk (blk_below (g := gb122) (o := .cells #[.int .i64 x123000_20, .int .i64 x123001_63, .int .i64 x123002_53, .int .i64 x123003_25, .int .i64 0, .int .i64 0] 31 (0, 0)) (by (with_reducible repeat (first | refine blk_drewN ?_ _ | refine blk_drew ?_ | refine blk_alloc ?_ _)); exact BK122.out) hb); have n3_ := Aside0.mk (IsS41.below (by repeat (first | (with_reducible first | exact HI0.out | apply IsS41.alloc | apply IsS41.drewN | apply IsS41.drew | apply IsS41.set_1 | apply IsS41.set_2 | refine IsS41.far ?_ NB0_115.out _ | refine IsS41.far ?_ NB0_122.out _) | exact HI0.out)) hb); have n4_ := Aside0.mk (KeepBut.trans (by repeat (first | (with_reducible first | exact HK.out | apply KeepBut.set_ | apply keep_drewN | apply keep_drew | apply keep_alloc | refine keep_far ?_ GW115.out _ | refine keep_far ?_ GW122.out _) | exact HK.out)) (KeepBut.of_below hb g none) (.inl rfl)); have n5_ := Aside0.mk (below_step (by repeat (first | (with_reducible first | exact HB.out | apply below_alloc | apply pw_below_drewN | apply below_drew1 | refine below_set ?_ (IsS41.ge HI0.out) | refine below_set ?_ GE115.out | refine below_set ?_ GE122.out) | exact HB.out)) hb); clear BK115; clear BK122; clear HI0; clear HK; clear HB; have HO161 := n0_; have BK115 := n1_; have BK122 := n2_; have HI0 := n3_; have HK := n4_; have HB := n5_; clear n0_ n1_ n2_ n3_ n4_ n5_; clear hb ho105; obtain ⟨Ao106, co106, eo106⟩ := Kd.R_slice HO161.out; subst eo106) | ((with_reducible refine gate_callee (f := 32) rfl ?_); refine goesL_ (some 64) rfl rfl Tryd.func32 (by kernel_rfl) rfl #[.pointer (some ⟨g, 0, none⟩), .slice Ao106 y159.length co106] rfl (by simp only [zA_, zB_, zD_] <;> rfl) ?_; (with_reducible refine (spec_l1Cur_among.calls g s0_0 t157 t158 _ _ y159 t162 t163 t164 w0 _ ?side1 ?side2 ?side3 ?side4 ?side5 A101.out).mono ?_); (case side1 => repeat (first | (with_reducible first | exact HI0.out | apply IsS41.alloc | apply IsS41.drewN | apply IsS41.drew | apply IsS41.set_1 | apply IsS41.set_2 | refine IsS41.far ?_ NB0_115.out _ | refine IsS41.far ?_ NB0_122.out _) | exact HI0.out)); (case side2 => repeat (first | (with_reducible first | exact HB.out | apply below_alloc | apply pw_below_drewN | apply below_drew1 | refine below_set ?_ (IsS41.ge HI0.out) | refine below_set ?_ GE115.out | refine below_set ?_ GE122.out) | exact HB.out)); (case side3 => exact zC_ (Kd.R_reads' HO161.out).2.2); (case side4 => exact (Kd.R_reads' HO161.out).2.1); (case side5 => exact far_slice (IsS41.own_ne HI0.out HO161.out (by decide))); rintro e w107 ⟨rfl, hi, hb, hk⟩; refine ⟨_, rfl, ?_⟩; have n0_ := Aside0.mk (KeepBut.blk hk (g' := gb115) (o := .cells #[.int .i64 0, .int .i64 0, .int .i64 0, .int .i64 0, .int .i64 0, .int .i64 0] 31 (0, 0)) (by (with_reducible repeat (first | refine blk_drewN ?_ _ | refine blk_drew ?_ | refine blk_alloc ?_ _)); exact BK115.out) NB115_0.out (by simp)); have n1_ := Aside0.mk (KeepBut.blk hk (g' := gb122) (o := .cells #[.int .i64 x123000_20, .int .i64 x123001_63, .int .i64 x123002_53, .int .i64 x123003_25, .int .i64 0, .int .i64 0] 31 (0, 0)) (by (with_reducible repeat (first | refine blk_drewN ?_ _ | refine blk_drew ?_ | refine blk_alloc ?_ _)); exact BK122.out) NB122_0.out (by simp)); have n2_ := Aside0.mk (Kd.R_mono (Kd.R_keep (IsS41.apart (show IsS41 w0 _ g s0_0 t157 t158 from by repeat (first | (with_reducible first | exact HI0.out | apply IsS41.alloc | apply IsS41.drewN | apply IsS41.drew | apply IsS41.set_1 | apply IsS41.set_2 | refine IsS41.far ?_ NB0_115.out _ | refine IsS41.far ?_ NB0_122.out _) | exact HI0.out)) (zR_ HO161.out) (by decide)) hk (fun _ h => h.2)) (fun _ h => h.1)); have n3_ := Aside0.mk (KeepBut.trans (by repeat (first | (with_reducible first | exact HK.out | apply KeepBut.set_ | apply keep_drewN | apply keep_drew | apply keep_alloc | refine keep_far ?_ GW115.out _ | refine keep_far ?_ GW122.out _) | exact HK.out)) hk (.inl rfl)); have n4_ := Aside0.mk (hb); have n5_ := Aside0.mk (hi); clear BK115; clear BK122; clear HO161; clear HK; clear HB; clear HI0; have BK115 := n0_; have BK122 := n1_; have HO161 := n2_; have HK := n3_; have HB := n4_; have HI0 := n5_; clear n0_ n1_ n2_ n3_ n4_ n5_; (try clear hb); (try clear hb2); (try clear hk); (try clear hi); have hnb108 := NB122_115.out; have hnc108 := NB115_122.out; have hnb109 := NB122_0.out; have hnc109 := NB0_122.out; have hcz110_0 : w107.cell? ⟨gb122, 0, none⟩ = some (.int .i64 x123000_20) := (blk_cell BK122.out 0).trans rfl; have hcz110_1 : w107.cell? ⟨gb122, 1, none⟩ = some (.int .i64 x123001_63) := (blk_cell BK122.out 1).trans rfl; have hcz110_2 : w107.cell? ⟨gb122, 2, none⟩ = some (.int .i64 x123002_53) := (blk_cell BK122.out 2).trans rfl; have hcz110_3 : w107.cell? ⟨gb122, 3, none⟩ = some (.int .i64 x123003_25) := (blk_cell BK122.out 3).trans rfl; have hcz110_4 : w107.cell? ⟨gb122, 4, none⟩ = some (.int .i64 0) := (blk_cell BK122.out 4).trans rfl; have hcz110_5 : w107.cell? ⟨gb122, 5, none⟩ = some (.int .i64 0) := (blk_cell BK122.out 5).trans rfl; have hfz110_0 := blk_frozen BK122.out 0; have hfz110_1 := blk_frozen BK122.out 1; have hfz110_2 := blk_frozen BK122.out 2; have hfz110_3 := blk_frozen BK122.out 3; have hfz110_4 := blk_frozen BK122.out 4; have hfz110_5 := blk_frozen BK122.out 5; have hnb111 := NB115_0.out; have hnc111 := NB0_115.out; have hcz112_0 : w107.cell? ⟨gb115, 0, none⟩ = some (.int .i64 0) := (blk_cell BK115.out 0).trans rfl; have hcz112_1 : w107.cell? ⟨gb115, 1, none⟩ = some (.int .i64 0) := (blk_cell BK115.out 1).trans rfl; have hcz112_2 : w107.cell? ⟨gb115, 2, none⟩ = some (.int .i64 0) := (blk_cell BK115.out 2).trans rfl; have hcz112_3 : w107.cell? ⟨gb115, 3, none⟩ = some (.int .i64 0) := (blk_cell BK115.out 3).trans rfl; have hcz112_4 : w107.cell? ⟨gb115, 4, none⟩ = some (.int .i64 0) := (blk_cell BK115.out 4).trans rfl; have hcz112_5 : w107.cell? ⟨gb115, 5, none⟩ = some (.int .i64 0) := (blk_cell BK115.out 5).trans rfl; have hfz112_0 := blk_frozen BK115.out 0; have hfz112_1 := blk_frozen BK115.out 1; have hfz112_2 := blk_frozen BK115.out 2; have hfz112_3 := blk_frozen BK115.out 3; have hfz112_4 := blk_frozen BK115.out 4; have hfz112_5 := blk_frozen BK115.out 5))
               refine bodyPost_ret (results_cell_row rfl _ _ gb115 31 #[.int .i64 x123000_20, .int .i64 x123001_63, .int .i64 x123002_53, .int .i64 x123003_25, .int .i64 t162, .int .i64 0] (0, 0) _ rfl (by (with_reducible repeat (first | refine blk_drewN ?_ _ | refine blk_drew ?_ | refine blk_alloc ?_ _)); refine blk_put (cs := #[.int .i64 x123000_20, .int .i64 x123001_63, .int .i64 x123002_53, .int .i64 x123003_25, .int .i64 t162, .int .i64 0]) ?_ 5 _ rfl; (with_reducible repeat (first | refine blk_drewN ?_ _ | refine blk_drew ?_ | refine blk_alloc ?_ _)); refine blk_put (cs := #[.int .i64 x123000_20, .int .i64 x123001_63, .int .i64 x123002_53, .int .i64 x123003_25, .int .i64 0, .int .i64 0]) ?_ 4 _ rfl; (with_reducible repeat (first | refine blk_drewN ?_ _ | refine blk_drew ?_ | refine blk_alloc ?_ _)); refine blk_put (cs := #[.int .i64 x123000_20, .int .i64 x123001_63, .int .i64 x123002_53, .int .i64 0, .int .i64 0, .int .i64 0]) ?_ 3 _ rfl; (with_reducible repeat (first | refine blk_drewN ?_ _ | refine blk_drew ?_ | refine blk_alloc ?_ _)); refine blk_put (cs := #[.int .i64 x123000_20, .int .i64 x123001_63, .int .i64 0, .int .i64 0, .int .i64 0, .int .i64 0]) ?_ 2 _ rfl; (with_reducible repeat (first | refine blk_drewN ?_ _ | refine blk_drew ?_ | refine blk_alloc ?_ _)); refine blk_put (cs := #[.int .i64 x123000_20, .int .i64 0, .int .i64 0, .int .i64 0, .int .i64 0, .int .i64 0]) ?_ 1 _ rfl; (with_reducible repeat (first | refine blk_drewN ?_ _ | refine blk_drew ?_ | refine blk_alloc ?_ _)); refine blk_put (cs := #[.int .i64 0, .int .i64 0, .int .i64 0, .int .i64 0, .int .i64 0, .int .i64 0]) ?_ 0 _ rfl; (with_reducible repeat (first | refine blk_drewN ?_ _ | refine blk_drew ?_ | refine blk_alloc ?_ _)); refine blk_far ?_ NB115_122.out _; (with_reducible repeat (first | refine blk_drewN ?_ _ | refine blk_drew ?_ | refine blk_alloc ?_ _)); exact BK115.out) Tryd.underlying31 rfl (by kernel_rfl)) rfl ?_
               exact ⟨by first | rfl | (simp [errW_none, errW_some] <;> rfl) | (simp [*, errW_none, errW_some] <;> rfl), by repeat (first | (with_reducible first | exact HI0.out | apply IsS41.alloc | apply IsS41.drewN | apply IsS41.drew | apply IsS41.set_1 | apply IsS41.set_2 | refine IsS41.far ?_ NB0_115.out _ | refine IsS41.far ?_ NB0_122.out _) | exact HI0.out), by repeat (first | (with_reducible first | exact HB.out | apply below_alloc | apply pw_below_drewN | apply below_drew1 | refine below_set ?_ (IsS41.ge HI0.out) | refine below_set ?_ GE115.out | refine below_set ?_ GE122.out) | exact HB.out), by repeat (first | (with_reducible first | exact HK.out | apply KeepBut.set_ | apply keep_drewN | apply keep_drew | apply keep_alloc | refine keep_far ?_ GW115.out _ | refine keep_far ?_ GW122.out _) | exact HK.out)⟩
              ·rw [if_neg c98] at H
               have c98b0 : (x123000_20 == 4) = false := beq_eq_false_iff_ne.mpr c98
               have c98b1 : (x123000_20 != 4) = true := bne_iff_ne.mpr c98
               by_cases c113 : x123000_20 = 5
               ·rw [if_pos c113] at H
                have c113b0 : (x123000_20 == 5) = true := beq_iff_eq.mpr c113
                have c113b1 : (x123000_20 != 5) = false := bne_eq_false_iff_eq.mpr c113
                clear c113
                replace H := Option.bind_eq_some_iff.mp H
                obtain ⟨⟨t165, t166, t167⟩, A1140, H⟩ := H
                (try dsimp only at H)
                have A114 := Aside0.mk A1140
                clear A1140
                simp only [Option.some.injEq, Prod.mk.injEq] at H
                obtain ⟨rfl, rfl, rfl, rfl, rfl, rfl, rfl, rfl⟩ := H
                go_wp2_with (first | ((with_reducible refine gate_callee (f := 17) rfl ?_); refine goesL_ (some 69) rfl rfl Tryd.func17 (by kernel_rfl) rfl #[.pointer (some ⟨g, 0, none⟩), .int .i64 5] rfl (by simp only [zA_, zB_, zD_] <;> rfl) ?_; (with_reducible refine (spec_l1Cur_pick.calls g s0_0 x1001_63 x1002_63 5 t165 t166 t167 w0 _ ?side1 ?side2 A114.out).mono ?_); (case side1 => repeat (first | (with_reducible first | exact HI0.out | apply IsS41.alloc | apply IsS41.drewN | apply IsS41.drew | apply IsS41.set_1 | apply IsS41.set_2 | refine IsS41.far ?_ NB0_115.out _ | refine IsS41.far ?_ NB0_122.out _) | exact HI0.out)); (case side2 => repeat (first | (with_reducible first | exact HB.out | apply below_alloc | apply pw_below_drewN | apply below_drew1 | refine below_set ?_ (IsS41.ge HI0.out) | refine below_set ?_ GE115.out | refine below_set ?_ GE122.out) | exact HB.out)); rintro e w115 ⟨rfl, hi, hb, hk⟩; refine ⟨_, rfl, ?_⟩; have n0_ := Aside0.mk (KeepBut.blk hk (g' := gb115) (o := .cells #[.int .i64 0, .int .i64 0, .int .i64 0, .int .i64 0, .int .i64 0, .int .i64 0] 31 (0, 0)) (by (with_reducible repeat (first | refine blk_drewN ?_ _ | refine blk_drew ?_ | refine blk_alloc ?_ _)); exact BK115.out) NB115_0.out (by simp)); have n1_ := Aside0.mk (KeepBut.blk hk (g' := gb122) (o := .cells #[.int .i64 x123000_20, .int .i64 x123001_63, .int .i64 x123002_53, .int .i64 x123003_25, .int .i64 0, .int .i64 0] 31 (0, 0)) (by (with_reducible repeat (first | refine blk_drewN ?_ _ | refine blk_drew ?_ | refine blk_alloc ?_ _)); exact BK122.out) NB122_0.out (by simp)); have n2_ := Aside0.mk (KeepBut.trans (by repeat (first | (with_reducible first | exact HK.out | apply KeepBut.set_ | apply keep_drewN | apply keep_drew | apply keep_alloc | refine keep_far ?_ GW115.out _ | refine keep_far ?_ GW122.out _) | exact HK.out)) hk (.inl rfl)); have n3_ := Aside0.mk (hb); have n4_ := Aside0.mk (hi); clear BK115; clear BK122; clear HK; clear HB; clear HI0; have BK115 := n0_; have BK122 := n1_; have HK := n2_; have HB := n3_; have HI0 := n4_; clear n0_ n1_ n2_ n3_ n4_; (try clear hb); (try clear hb2); (try clear hk); (try clear hi); have hnb116 := NB122_115.out; have hnc116 := NB115_122.out; have hnb117 := NB122_0.out; have hnc117 := NB0_122.out; have hcz118_0 : w115.cell? ⟨gb122, 0, none⟩ = some (.int .i64 x123000_20) := (blk_cell BK122.out 0).trans rfl; have hcz118_1 : w115.cell? ⟨gb122, 1, none⟩ = some (.int .i64 x123001_63) := (blk_cell BK122.out 1).trans rfl; have hcz118_2 : w115.cell? ⟨gb122, 2, none⟩ = some (.int .i64 x123002_53) := (blk_cell BK122.out 2).trans rfl; have hcz118_3 : w115.cell? ⟨gb122, 3, none⟩ = some (.int .i64 x123003_25) := (blk_cell BK122.out 3).trans rfl; have hcz118_4 : w115.cell? ⟨gb122, 4, none⟩ = some (.int .i64 0) := (blk_cell BK122.out 4).trans rfl; have hcz118_5 : w115.cell? ⟨gb122, 5, none⟩ = some (.int .i64 0) := (blk_cell BK122.out 5).trans rfl; have hfz118_0 := blk_frozen BK122.out 0; have hfz118_1 := blk_frozen BK122.out 1; have hfz118_2 := blk_frozen BK122.out 2; have hfz118_3 := blk_frozen BK122.out 3; have hfz118_4 := blk_frozen BK122.out 4; have hfz118_5 := blk_frozen BK122.out 5; have hnb119 := NB115_0.out; have hnc119 := NB0_115.out; have hcz120_0 : w115.cell? ⟨gb115, 0, none⟩ = some (.int .i64 0) := (blk_cell BK115.out 0).trans rfl; have hcz120_1 : w115.cell? ⟨gb115, 1, none⟩ = some (.int .i64 0) := (blk_cell BK115.out 1).trans rfl; have hcz120_2 : w115.cell? ⟨gb115, 2, none⟩ = some (.int .i64 0) := (blk_cell BK115.out 2).trans rfl; have hcz120_3 : w115.cell? ⟨gb115, 3, none⟩ = some (.int .i64 0) := (blk_cell BK115.out 3).trans rfl; have hcz120_4 : w115.cell? ⟨gb115, 4, none⟩ = some (.int .i64 0) := (blk_cell BK115.out 4).trans rfl; have hcz120_5 : w115.cell? ⟨gb115, 5, none⟩ = some (.int .i64 0) := (blk_cell BK115.out 5).trans rfl; have hfz120_0 := blk_frozen BK115.out 0; have hfz120_1 := blk_frozen BK115.out 1; have hfz120_2 := blk_frozen BK115.out 2; have hfz120_3 := blk_frozen BK115.out 3; have hfz120_4 := blk_frozen BK115.out 4; have hfz120_5 := blk_frozen BK115.out 5))
                refine bodyPost_ret (results_cell_row rfl _ _ gb115 31 #[.int .i64 x123000_20, .int .i64 x123001_63, .int .i64 x123002_53, .int .i64 x123003_25, .int .i64 t165, .int .i64 0] (0, 0) _ rfl (by (with_reducible repeat (first | refine blk_drewN ?_ _ | refine blk_drew ?_ | refine blk_alloc ?_ _)); refine blk_put (cs := #[.int .i64 x123000_20, .int .i64 x123001_63, .int .i64 x123002_53, .int .i64 x123003_25, .int .i64 t165, .int .i64 0]) ?_ 5 _ rfl; (with_reducible repeat (first | refine blk_drewN ?_ _ | refine blk_drew ?_ | refine blk_alloc ?_ _)); refine blk_put (cs := #[.int .i64 x123000_20, .int .i64 x123001_63, .int .i64 x123002_53, .int .i64 x123003_25, .int .i64 0, .int .i64 0]) ?_ 4 _ rfl; (with_reducible repeat (first | refine blk_drewN ?_ _ | refine blk_drew ?_ | refine blk_alloc ?_ _)); refine blk_put (cs := #[.int .i64 x123000_20, .int .i64 x123001_63, .int .i64 x123002_53, .int .i64 0, .int .i64 0, .int .i64 0]) ?_ 3 _ rfl; (with_reducible repeat (first | refine blk_drewN ?_ _ | refine blk_drew ?_ | refine blk_alloc ?_ _)); refine blk_put (cs := #[.int .i64 x123000_20, .int .i64 x123001_63, .int .i64 0, .int .i64 0, .int .i64 0, .int .i64 0]) ?_ 2 _ rfl; (with_reducible repeat (first | refine blk_drewN ?_ _ | refine blk_drew ?_ | refine blk_alloc ?_ _)); refine blk_put (cs := #[.int .i64 x123000_20, .int .i64 0, .int .i64 0, .int .i64 0, .int .i64 0, .int .i64 0]) ?_ 1 _ rfl; (with_reducible repeat (first | refine blk_drewN ?_ _ | refine blk_drew ?_ | refine blk_alloc ?_ _)); refine blk_put (cs := #[.int .i64 0, .int .i64 0, .int .i64 0, .int .i64 0, .int .i64 0, .int .i64 0]) ?_ 0 _ rfl; (with_reducible repeat (first | refine blk_drewN ?_ _ | refine blk_drew ?_ | refine blk_alloc ?_ _)); refine blk_far ?_ NB115_122.out _; (with_reducible repeat (first | refine blk_drewN ?_ _ | refine blk_drew ?_ | refine blk_alloc ?_ _)); exact BK115.out) Tryd.underlying31 rfl (by kernel_rfl)) rfl ?_
                exact ⟨by first | rfl | (simp [errW_none, errW_some] <;> rfl) | (simp [*, errW_none, errW_some] <;> rfl), by repeat (first | (with_reducible first | exact HI0.out | apply IsS41.alloc | apply IsS41.drewN | apply IsS41.drew | apply IsS41.set_1 | apply IsS41.set_2 | refine IsS41.far ?_ NB0_115.out _ | refine IsS41.far ?_ NB0_122.out _) | exact HI0.out), by repeat (first | (with_reducible first | exact HB.out | apply below_alloc | apply pw_below_drewN | apply below_drew1 | refine below_set ?_ (IsS41.ge HI0.out) | refine below_set ?_ GE115.out | refine below_set ?_ GE122.out) | exact HB.out), by repeat (first | (with_reducible first | exact HK.out | apply KeepBut.set_ | apply keep_drewN | apply keep_drew | apply keep_alloc | refine keep_far ?_ GW115.out _ | refine keep_far ?_ GW122.out _) | exact HK.out)⟩
               ·rw [if_neg c113] at H
                have c113b0 : (x123000_20 == 5) = false := beq_eq_false_iff_ne.mpr c113
                have c113b1 : (x123000_20 != 5) = true := bne_iff_ne.mpr c113
                have HC121 := Aside0.mk H
                clear H
                go_upto_if 71 with (fail)
                go_cut [71] (fun v71 wc => ∃ (kq : Nat) (x71_120 : Bool), v71 = .bool x71_120 ∧ Aside0 (spec_l1Cur_step.j6 kq a1 x123000_20 x71_120 s0_0 x1001_63 x1002_63 x123000_20 x123001_63 x123002_53 x123003_25 0 0 = some (r1, r2, r3, r4, r5, r6, r7, r8)) ∧ Aside0 (kq ≤ kj79) ∧ Aside0 (wc.heap[gb115]? = some (.cells #[.int .i64 0, .int .i64 0, .int .i64 0, .int .i64 0, .int .i64 0, .int .i64 0] 31 (0, 0))) ∧ Aside0 (wc.heap[gb122]? = some (.cells #[.int .i64 x123000_20, .int .i64 x123001_63, .int .i64 x123002_53, .int .i64 x123003_25, .int .i64 0, .int .i64 0] 31 (0, 0))) ∧ Aside0 (IsS41 w0 wc g s0_0 x1001_63 x1002_63) ∧ Aside0 (KeepBut w wc g none) ∧ Aside0 (Below w0.heap.size w0 wc))
                case first =>
                 have H := HC121.out
                 clear HC121
                 by_cases c122 : x123000_20 = 6
                 ·rw [if_pos c122] at H
                  have c122b0 : (x123000_20 == 6) = true := beq_iff_eq.mpr c122
                  have c122b1 : (x123000_20 != 6) = false := bne_eq_false_iff_eq.mpr c122
                  clear c122
                  (first | rw [c122b0] | (simp only [i64_w, i32_w]; rw [c122b0]) | skip)
                  have H' := Aside0.mk H
                  clear H
                  go_wp2
                  go_meet
                  case rel => exact ⟨_, ((x123000_20 == 6)), (by first | rfl | (simp; done) | (simp [*]; done)), H', ⟨by have := HJ3.out; have := HJ20.out; have := HJ25.out; have := HJ53.out; have := HJ63.out; have := HJ79.out; first | omega | exact Nat.le_refl _⟩, ⟨by (with_reducible repeat (first | refine blk_drewN ?_ _ | refine blk_drew ?_ | refine blk_alloc ?_ _)); exact BK115.out⟩, ⟨by (with_reducible repeat (first | refine blk_drewN ?_ _ | refine blk_drew ?_ | refine blk_alloc ?_ _)); exact BK122.out⟩, ⟨by repeat (first | (with_reducible first | exact HI0.out | apply IsS41.alloc | apply IsS41.drewN | apply IsS41.drew | apply IsS41.set_1 | apply IsS41.set_2 | refine IsS41.far ?_ NB0_115.out _ | refine IsS41.far ?_ NB0_122.out _) | exact HI0.out)⟩, ⟨by repeat (first | (with_reducible first | exact HK.out | apply KeepBut.set_ | apply keep_drewN | apply keep_drew | apply keep_alloc | refine keep_far ?_ GW115.out _ | refine keep_far ?_ GW122.out _) | exact HK.out)⟩, ⟨by repeat (first | (with_reducible first | exact HB.out | apply below_alloc | apply pw_below_drewN | apply below_drew1 | refine below_set ?_ (IsS41.ge HI0.out) | refine below_set ?_ GE115.out | refine below_set ?_ GE122.out) | exact HB.out)⟩⟩
                 ·rw [if_neg c122] at H
                  have c122b0 : (x123000_20 == 6) = false := beq_eq_false_iff_ne.mpr c122
                  have c122b1 : (x123000_20 != 6) = true := bne_iff_ne.mpr c122
                  (first | rw [c122b0] | (simp only [i64_w, i32_w]; rw [c122b0]) | skip)
                  have H' := Aside0.mk H
                  clear H
                  go_wp2
                  go_meet
                  case rel => exact ⟨_, ((x123000_20 == 7)), (by first | rfl | (simp; done) | (simp [*]; done)), H', ⟨by have := HJ3.out; have := HJ20.out; have := HJ25.out; have := HJ53.out; have := HJ63.out; have := HJ79.out; first | omega | exact Nat.le_refl _⟩, ⟨by (with_reducible repeat (first | refine blk_drewN ?_ _ | refine blk_drew ?_ | refine blk_alloc ?_ _)); exact BK115.out⟩, ⟨by (with_reducible repeat (first | refine blk_drewN ?_ _ | refine blk_drew ?_ | refine blk_alloc ?_ _)); exact BK122.out⟩, ⟨by repeat (first | (with_reducible first | exact HI0.out | apply IsS41.alloc | apply IsS41.drewN | apply IsS41.drew | apply IsS41.set_1 | apply IsS41.set_2 | refine IsS41.far ?_ NB0_115.out _ | refine IsS41.far ?_ NB0_122.out _) | exact HI0.out)⟩, ⟨by repeat (first | (with_reducible first | exact HK.out | apply KeepBut.set_ | apply keep_drewN | apply keep_drew | apply keep_alloc | refine keep_far ?_ GW115.out _ | refine keep_far ?_ GW122.out _) | exact HK.out)⟩, ⟨by repeat (first | (with_reducible first | exact HB.out | apply below_alloc | apply pw_below_drewN | apply below_drew1 | refine below_set ?_ (IsS41.ge HI0.out) | refine below_set ?_ GE115.out | refine below_set ?_ GE122.out) | exact HB.out)⟩⟩
                case rest =>
                 clear HC121
                 try clear c1
                 try clear c2
                 try clear p2
                 try clear c3
                 try clear c4
                 try clear c5
                 try clear c6
                 try clear p6
                 try clear c7
                 try clear c8
                 try clear c9
                 try clear c10
                 try clear c11
                 try clear c12
                 try clear c14
                 try clear c14b0
                 try clear c15
                 try clear c16
                 try clear c17
                 try clear c18
                 try clear c19
                 try clear c22
                 try clear c23
                 try clear c24
                 try clear c27
                 try clear c28
                 try clear c30
                 try clear c30b0
                 try clear c30b1
                 try clear c31
                 try clear c32
                 try clear c33
                 try clear c34
                 try clear c36
                 try clear c36b0
                 try clear c36b1
                 try clear c39
                 try clear c40
                 try clear c42
                 try clear c42b0
                 try clear c42b1
                 try clear c45
                 try clear c46
                 try clear c48
                 try clear c48b0
                 try clear c48b1
                 try clear c51
                 try clear c52
                 try clear c55
                 try clear c56
                 try clear c58
                 try clear c58b0
                 try clear c58b1
                 try clear c61
                 try clear c62
                 try clear p64
                 try clear c65
                 try clear c66
                 try clear c68
                 try clear c68b0
                 try clear c68b1
                 try clear c71
                 try clear c72
                 try clear c74
                 try clear c74b0
                 try clear c74b1
                 try clear c77
                 try clear c78
                 try clear c81
                 try clear c82
                 try clear c84
                 try clear c84b0
                 try clear c84b1
                 try clear c85
                 try clear c93
                 try clear c94
                 try clear c96
                 try clear c98
                 try clear c98b0
                 try clear c98b1
                 try clear c108
                 try clear c109
                 try clear c111
                 try clear c113
                 try clear c113b0
                 try clear c113b1
                 try clear c116
                 try clear c117
                 try clear c119
                 try clear c122
                 try clear c122b0
                 try clear c122b1
                 try clear hcz110_0
                 try clear hcz110_1
                 try clear hcz110_2
                 try clear hcz110_3
                 try clear hcz110_4
                 try clear hcz110_5
                 try clear hcz112_0
                 try clear hcz112_1
                 try clear hcz112_2
                 try clear hcz112_3
                 try clear hcz112_4
                 try clear hcz112_5
                 try clear hcz118_0
                 try clear hcz118_1
                 try clear hcz118_2
                 try clear hcz118_3
                 try clear hcz118_4
                 try clear hcz118_5
                 try clear hcz120_0
                 try clear hcz120_1
                 try clear hcz120_2
                 try clear hcz120_3
                 try clear hcz120_4
                 try clear hcz120_5
                 try clear hcz13_0
                 try clear hcz13_1
                 try clear hcz13_2
                 try clear hcz13_3
                 try clear hcz13_4
                 try clear hcz13_5
                 try clear hcz17_0
                 try clear hcz17_1
                 try clear hcz17_2
                 try clear hcz17_3
                 try clear hcz17_4
                 try clear hcz17_5
                 try clear hcz20_0
                 try clear hcz20_1
                 try clear hcz20_2
                 try clear hcz20_3
                 try clear hcz20_4
                 try clear hcz20_5
                 try clear hcz25_0
                 try clear hcz25_1
                 try clear hcz25_2
                 try clear hcz25_3
                 try clear hcz25_4
                 try clear hcz25_5
                 try clear hcz29_0
                 try clear hcz29_1
                 try clear hcz29_2
                 try clear hcz29_3
                 try clear hcz29_4
                 try clear hcz29_5
                 try clear hcz35_0
                 try clear hcz35_1
                 try clear hcz35_2
                 try clear hcz35_3
                 try clear hcz35_4
                 try clear hcz35_5
                 try clear hcz41_0
                 try clear hcz41_1
                 try clear hcz41_2
                 try clear hcz41_3
                 try clear hcz41_4
                 try clear hcz41_5
                 try clear hcz47_0
                 try clear hcz47_1
                 try clear hcz47_2
                 try clear hcz47_3
                 try clear hcz47_4
                 try clear hcz47_5
                 try clear hcz53_0
                 try clear hcz53_1
                 try clear hcz53_2
                 try clear hcz53_3
                 try clear hcz53_4
                 try clear hcz53_5
                 try clear hcz57_0
                 try clear hcz57_1
                 try clear hcz57_2
                 try clear hcz57_3
                 try clear hcz57_4
                 try clear hcz57_5
                 try clear hcz63_0
                 try clear hcz63_1
                 try clear hcz63_2
                 try clear hcz63_3
                 try clear hcz63_4
                 try clear hcz63_5
                 try clear hcz67_0
                 try clear hcz67_1
                 try clear hcz67_2
                 try clear hcz67_3
                 try clear hcz67_4
                 try clear hcz67_5
                 try clear hcz73_0
                 try clear hcz73_1
                 try clear hcz73_2
                 try clear hcz73_3
                 try clear hcz73_4
                 try clear hcz73_5
                 try clear hcz79_0
                 try clear hcz79_1
                 try clear hcz79_2
                 try clear hcz79_3
                 try clear hcz79_4
                 try clear hcz79_5
                 try clear hcz83_0
                 try clear hcz83_1
                 try clear hcz83_2
                 try clear hcz83_3
                 try clear hcz83_4
                 try clear hcz83_5
                 try clear hcz95_0
                 try clear hcz95_1
                 try clear hcz95_2
                 try clear hcz95_3
                 try clear hcz95_4
                 try clear hcz95_5
                 try clear hcz97_0
                 try clear hcz97_1
                 try clear hcz97_2
                 try clear hcz97_3
                 try clear hcz97_4
                 try clear hcz97_5
                 try clear hfz110_0
                 try clear hfz110_1
                 try clear hfz110_2
                 try clear hfz110_3
                 try clear hfz110_4
                 try clear hfz110_5
                 try clear hfz112_0
                 try clear hfz112_1
                 try clear hfz112_2
                 try clear hfz112_3
                 try clear hfz112_4
                 try clear hfz112_5
                 try clear hfz118_0
                 try clear hfz118_1
                 try clear hfz118_2
                 try clear hfz118_3
                 try clear hfz118_4
                 try clear hfz118_5
                 try clear hfz120_0
                 try clear hfz120_1
                 try clear hfz120_2
                 try clear hfz120_3
                 try clear hfz120_4
                 try clear hfz120_5
                 try clear hfz13_0
                 try clear hfz13_1
                 try clear hfz13_2
                 try clear hfz13_3
                 try clear hfz13_4
                 try clear hfz13_5
                 try clear hfz17_0
                 try clear hfz17_1
                 try clear hfz17_2
                 try clear hfz17_3
                 try clear hfz17_4
                 try clear hfz17_5
                 try clear hfz20_0
                 try clear hfz20_1
                 try clear hfz20_2
                 try clear hfz20_3
                 try clear hfz20_4
                 try clear hfz20_5
                 try clear hfz25_0
                 try clear hfz25_1
                 try clear hfz25_2
                 try clear hfz25_3
                 try clear hfz25_4
                 try clear hfz25_5
                 try clear hfz29_0
                 try clear hfz29_1
                 try clear hfz29_2
                 try clear hfz29_3
                 try clear hfz29_4
                 try clear hfz29_5
                 try clear hfz35_0
                 try clear hfz35_1
                 try clear hfz35_2
                 try clear hfz35_3
                 try clear hfz35_4
                 try clear hfz35_5
                 try clear hfz41_0
                 try clear hfz41_1
                 try clear hfz41_2
                 try clear hfz41_3
                 try clear hfz41_4
                 try clear hfz41_5
                 try clear hfz47_0
                 try clear hfz47_1
                 try clear hfz47_2
                 try clear hfz47_3
                 try clear hfz47_4
                 try clear hfz47_5
                 try clear hfz53_0
                 try clear hfz53_1
                 try clear hfz53_2
                 try clear hfz53_3
                 try clear hfz53_4
                 try clear hfz53_5
                 try clear hfz57_0
                 try clear hfz57_1
                 try clear hfz57_2
                 try clear hfz57_3
                 try clear hfz57_4
                 try clear hfz57_5
                 try clear hfz63_0
                 try clear hfz63_1
                 try clear hfz63_2
                 try clear hfz63_3
                 try clear hfz63_4
                 try clear hfz63_5
                 try clear hfz67_0
                 try clear hfz67_1
                 try clear hfz67_2
                 try clear hfz67_3
                 try clear hfz67_4
                 try clear hfz67_5
                 try clear hfz73_0
                 try clear hfz73_1
                 try clear hfz73_2
                 try clear hfz73_3
                 try clear hfz73_4
                 try clear hfz73_5
                 try clear hfz79_0
                 try clear hfz79_1
                 try clear hfz79_2
                 try clear hfz79_3
                 try clear hfz79_4
                 try clear hfz79_5
                 try clear hfz83_0
                 try clear hfz83_1
                 try clear hfz83_2
                 try clear hfz83_3
                 try clear hfz83_4
                 try clear hfz83_5
                 try clear hfz95_0
                 try clear hfz95_1
                 try clear hfz95_2
                 try clear hfz95_3
                 try clear hfz95_4
                 try clear hfz95_5
                 try clear hfz97_0
                 try clear hfz97_1
                 try clear hfz97_2
                 try clear hfz97_3
                 try clear hfz97_4
                 try clear hfz97_5
                 try clear p2
                 try clear p6
                 try clear p64
                 obtain ⟨kq, x71_120, rfl, HA, HJ120, BK115, BK122, HI0, HK, HB⟩ := hcut
                 cases kq with
                 | zero => exact absurd HA.out (by simp [spec_l1Cur_step.j6])
                 | succ kj120 =>
                  have H := HA.out
                  clear HA
                  simp only [spec_l1Cur_step.j6] at H
                  by_cases c123 : x71_120 = true
                  ·subst c123
                   have H1 : ((spec_l1Cur_pick.f s0_0 x1001_63 x1002_63 18).bind fun bt168 => (some (x123000_20, x123001_63, x123002_53, x123003_25, bt168.1, 0, bt168.2.1, bt168.2.2))) = some (r1, r2, r3, r4, r5, r6, r7, r8) := by rw [if_pos rfl] at H; exact H
                   clear H
                   have H := H1
                   clear H1
                   replace H := Option.bind_eq_some_iff.mp H
                   obtain ⟨⟨t168, t169, t170⟩, A1240, H⟩ := H
                   (try dsimp only at H)
                   have A124 := Aside0.mk A1240
                   clear A1240
                   simp only [Option.some.injEq, Prod.mk.injEq] at H
                   obtain ⟨rfl, rfl, rfl, rfl, rfl, rfl, rfl, rfl⟩ := H
                   go_wp2_with (first | ((with_reducible refine gate_callee (f := 17) rfl ?_); refine goesL_ (some 75) rfl rfl Tryd.func17 (by kernel_rfl) rfl #[.pointer (some ⟨g, 0, none⟩), .int .i64 18] rfl (by simp only [zA_, zB_, zD_] <;> rfl) ?_; (with_reducible refine (spec_l1Cur_pick.calls g s0_0 x1001_63 x1002_63 18 t168 t169 t170 w0 _ ?side1 ?side2 A124.out).mono ?_); (case side1 => repeat (first | (with_reducible first | exact HI0.out | apply IsS41.alloc | apply IsS41.drewN | apply IsS41.drew | apply IsS41.set_1 | apply IsS41.set_2 | refine IsS41.far ?_ NB0_115.out _ | refine IsS41.far ?_ NB0_122.out _) | exact HI0.out)); (case side2 => repeat (first | (with_reducible first | exact HB.out | apply below_alloc | apply pw_below_drewN | apply below_drew1 | refine below_set ?_ (IsS41.ge HI0.out) | refine below_set ?_ GE115.out | refine below_set ?_ GE122.out) | exact HB.out)); rintro e w125 ⟨rfl, hi, hb, hk⟩; refine ⟨_, rfl, ?_⟩; have n0_ := Aside0.mk (KeepBut.blk hk (g' := gb115) (o := .cells #[.int .i64 0, .int .i64 0, .int .i64 0, .int .i64 0, .int .i64 0, .int .i64 0] 31 (0, 0)) (by (with_reducible repeat (first | refine blk_drewN ?_ _ | refine blk_drew ?_ | refine blk_alloc ?_ _)); exact BK115.out) NB115_0.out (by simp)); have n1_ := Aside0.mk (KeepBut.blk hk (g' := gb122) (o := .cells #[.int .i64 x123000_20, .int .i64 x123001_63, .int .i64 x123002_53, .int .i64 x123003_25, .int .i64 0, .int .i64 0] 31 (0, 0)) (by (with_reducible repeat (first | refine blk_drewN ?_ _ | refine blk_drew ?_ | refine blk_alloc ?_ _)); exact BK122.out) NB122_0.out (by simp)); have n2_ := Aside0.mk (KeepBut.trans (by repeat (first | (with_reducible first | exact HK.out | apply KeepBut.set_ | apply keep_drewN | apply keep_drew | apply keep_alloc | refine keep_far ?_ GW115.out _ | refine keep_far ?_ GW122.out _) | exact HK.out)) hk (.inl rfl)); have n3_ := Aside0.mk (hb); have n4_ := Aside0.mk (hi); clear BK115; clear BK122; clear HK; clear HB; clear HI0; have BK115 := n0_; have BK122 := n1_; have HK := n2_; have HB := n3_; have HI0 := n4_; clear n0_ n1_ n2_ n3_ n4_; (try clear hb); (try clear hb2); (try clear hk); (try clear hi); have hnb126 := NB122_115.out; have hnc126 := NB115_122.out; have hnb127 := NB122_0.out; have hnc127 := NB0_122.out; have hcz128_0 : w125.cell? ⟨gb122, 0, none⟩ = some (.int .i64 x123000_20) := (blk_cell BK122.out 0).trans rfl; have hcz128_1 : w125.cell? ⟨gb122, 1, none⟩ = some (.int .i64 x123001_63) := (blk_cell BK122.out 1).trans rfl; have hcz128_2 : w125.cell? ⟨gb122, 2, none⟩ = some (.int .i64 x123002_53) := (blk_cell BK122.out 2).trans rfl; have hcz128_3 : w125.cell? ⟨gb122, 3, none⟩ = some (.int .i64 x123003_25) := (blk_cell BK122.out 3).trans rfl; have hcz128_4 : w125.cell? ⟨gb122, 4, none⟩ = some (.int .i64 0) := (blk_cell BK122.out 4).trans rfl; have hcz128_5 : w125.cell? ⟨gb122, 5, none⟩ = some (.int .i64 0) := (blk_cell BK122.out 5).trans rfl; have hfz128_0 := blk_frozen BK122.out 0; have hfz128_1 := blk_frozen BK122.out 1; have hfz128_2 := blk_frozen BK122.out 2; have hfz128_3 := blk_frozen BK122.out 3; have hfz128_4 := blk_frozen BK122.out 4; have hfz128_5 := blk_frozen BK122.out 5; have hnb129 := NB115_0.out; have hnc129 := NB0_115.out; have hcz130_0 : w125.cell? ⟨gb115, 0, none⟩ = some (.int .i64 0) := (blk_cell BK115.out 0).trans rfl; have hcz130_1 : w125.cell? ⟨gb115, 1, none⟩ = some (.int .i64 0) := (blk_cell BK115.out 1).trans rfl; have hcz130_2 : w125.cell? ⟨gb115, 2, none⟩ = some (.int .i64 0) := (blk_cell BK115.out 2).trans rfl; have hcz130_3 : w125.cell? ⟨gb115, 3, none⟩ = some (.int .i64 0) := (blk_cell BK115.out 3).trans rfl; have hcz130_4 : w125.cell? ⟨gb115, 4, none⟩ = some (.int .i64 0) := (blk_cell BK115.out 4).trans rfl; have hcz130_5 : w125.cell? ⟨gb115, 5, none⟩ = some (.int .i64 0) := (blk_cell BK115.out 5).trans rfl; have hfz130_0 := blk_frozen BK115.out 0; have hfz130_1 := blk_frozen BK115.out 1; have hfz130_2 := blk_frozen BK115.out 2; have hfz130_3 := blk_frozen BK115.out 3; have hfz130_4 := blk_frozen BK115.out 4; have hfz130_5 := blk_frozen BK115.out 5))
                   refine bodyPost_ret (results_cell_row rfl _ _ gb115 31 #[.int .i64 x123000_20, .int .i64 x123001_63, .int .i64 x123002_53, .int .i64 x123003_25, .int .i64 t168, .int .i64 0] (0, 0) _ rfl (by (with_reducible repeat (first | refine blk_drewN ?_ _ | refine blk_drew ?_ | refine blk_alloc ?_ _)); refine blk_put (cs := #[.int .i64 x123000_20, .int .i64 x123001_63, .int .i64 x123002_53, .int .i64 x123003_25, .int .i64 t168, .int .i64 0]) ?_ 5 _ rfl; (with_reducible repeat (first | refine blk_drewN ?_ _ | refine blk_drew ?_ | refine blk_alloc ?_ _)); refine blk_put (cs := #[.int .i64 x123000_20, .int .i64 x123001_63, .int .i64 x123002_53, .int .i64 x123003_25, .int .i64 0, .int .i64 0]) ?_ 4 _ rfl; (with_reducible repeat (first | refine blk_drewN ?_ _ | refine blk_drew ?_ | refine blk_alloc ?_ _)); refine blk_put (cs := #[.int .i64 x123000_20, .int .i64 x123001_63, .int .i64 x123002_53, .int .i64 0, .int .i64 0, .int .i64 0]) ?_ 3 _ rfl; (with_reducible repeat (first | refine blk_drewN ?_ _ | refine blk_drew ?_ | refine blk_alloc ?_ _)); refine blk_put (cs := #[.int .i64 x123000_20, .int .i64 x123001_63, .int .i64 0, .int .i64 0, .int .i64 0, .int .i64 0]) ?_ 2 _ rfl; (with_reducible repeat (first | refine blk_drewN ?_ _ | refine blk_drew ?_ | refine blk_alloc ?_ _)); refine blk_put (cs := #[.int .i64 x123000_20, .int .i64 0, .int .i64 0, .int .i64 0, .int .i64 0, .int .i64 0]) ?_ 1 _ rfl; (with_reducible repeat (first | refine blk_drewN ?_ _ | refine blk_drew ?_ | refine blk_alloc ?_ _)); refine blk_put (cs := #[.int .i64 0, .int .i64 0, .int .i64 0, .int .i64 0, .int .i64 0, .int .i64 0]) ?_ 0 _ rfl; (with_reducible repeat (first | refine blk_drewN ?_ _ | refine blk_drew ?_ | refine blk_alloc ?_ _)); refine blk_far ?_ NB115_122.out _; (with_reducible repeat (first | refine blk_drewN ?_ _ | refine blk_drew ?_ | refine blk_alloc ?_ _)); exact BK115.out) Tryd.underlying31 rfl (by kernel_rfl)) rfl ?_
                   exact ⟨by first | rfl | (simp [errW_none, errW_some] <;> rfl) | (simp [*, errW_none, errW_some] <;> rfl), by repeat (first | (with_reducible first | exact HI0.out | apply IsS41.alloc | apply IsS41.drewN | apply IsS41.drew | apply IsS41.set_1 | apply IsS41.set_2 | refine IsS41.far ?_ NB0_115.out _ | refine IsS41.far ?_ NB0_122.out _) | exact HI0.out), by repeat (first | (with_reducible first | exact HB.out | apply below_alloc | apply pw_below_drewN | apply below_drew1 | refine below_set ?_ (IsS41.ge HI0.out) | refine below_set ?_ GE115.out | refine below_set ?_ GE122.out) | exact HB.out), by repeat (first | (with_reducible first | exact HK.out | apply KeepBut.set_ | apply keep_drewN | apply keep_drew | apply keep_alloc | refine keep_far ?_ GW115.out _ | refine keep_far ?_ GW122.out _) | exact HK.out)⟩
                  ·replace c123 := Bool.eq_false_iff.mpr c123
                   subst c123
                   have H1 : (if x123000_20 = 8 then (spec_l1Cur_step.j7 kj120 a1 (x123000_20 == 8) s0_0 x1001_63 x1002_63 x123000_20 x123001_63 x123002_53 x123003_25 0 0) else (if x123000_20 = 9 then (spec_l1Cur_step.j7 kj120 a1 (x123000_20 == 9) s0_0 x1001_63 x1002_63 x123000_20 x123001_63 x123002_53 x123003_25 0 0) else (spec_l1Cur_step.j7 kj120 a1 (x123000_20 == 10) s0_0 x1001_63 x1002_63 x123000_20 x123001_63 x123002_53 x123003_25 0 0))) = some (r1, r2, r3, r4, r5, r6, r7, r8) := by rw [if_neg (show ¬ (false = true) by decide)] at H; exact H
                   clear H
                   have H := H1
                   clear H1
                   have HC131 := Aside0.mk H
                   clear H
                   go_upto_if 77 with (fail)
                   go_cut [77] (fun v77 wc => ∃ (kq : Nat) (x77_130 : Bool), v77 = .bool x77_130 ∧ Aside0 (spec_l1Cur_step.j7 kq a1 x77_130 s0_0 x1001_63 x1002_63 x123000_20 x123001_63 x123002_53 x123003_25 0 0 = some (r1, r2, r3, r4, r5, r6, r7, r8)) ∧ Aside0 (kq ≤ kj120) ∧ Aside0 (wc.heap[gb115]? = some (.cells #[.int .i64 0, .int .i64 0, .int .i64 0, .int .i64 0, .int .i64 0, .int .i64 0] 31 (0, 0))) ∧ Aside0 (wc.heap[gb122]? = some (.cells #[.int .i64 x123000_20, .int .i64 x123001_63, .int .i64 x123002_53, .int .i64 x123003_25, .int .i64 0, .int .i64 0] 31 (0, 0))) ∧ Aside0 (IsS41 w0 wc g s0_0 x1001_63 x1002_63) ∧ Aside0 (KeepBut w wc g none) ∧ Aside0 (Below w0.heap.size w0 wc))
                   case first =>
                    have H := HC131.out
                    clear HC131
                    by_cases c132 : x123000_20 = 8
                    ·rw [if_pos c132] at H
                     have c132b0 : (x123000_20 == 8) = true := beq_iff_eq.mpr c132
                     have c132b1 : (x123000_20 != 8) = false := bne_eq_false_iff_eq.mpr c132
                     clear c132
                     (first | rw [c132b0] | (simp only [i64_w, i32_w]; rw [c132b0]) | skip)
                     have H' := Aside0.mk H
                     clear H
                     go_wp2
                     go_meet
                     case rel => exact ⟨_, ((x123000_20 == 8)), (by first | rfl | (simp; done) | (simp [*]; done)), H', ⟨by have := HJ3.out; have := HJ20.out; have := HJ25.out; have := HJ53.out; have := HJ63.out; have := HJ79.out; have := HJ120.out; first | omega | exact Nat.le_refl _⟩, ⟨by (with_reducible repeat (first | refine blk_drewN ?_ _ | refine blk_drew ?_ | refine blk_alloc ?_ _)); exact BK115.out⟩, ⟨by (with_reducible repeat (first | refine blk_drewN ?_ _ | refine blk_drew ?_ | refine blk_alloc ?_ _)); exact BK122.out⟩, ⟨by repeat (first | (with_reducible first | exact HI0.out | apply IsS41.alloc | apply IsS41.drewN | apply IsS41.drew | apply IsS41.set_1 | apply IsS41.set_2 | refine IsS41.far ?_ NB0_115.out _ | refine IsS41.far ?_ NB0_122.out _) | exact HI0.out)⟩, ⟨by repeat (first | (with_reducible first | exact HK.out | apply KeepBut.set_ | apply keep_drewN | apply keep_drew | apply keep_alloc | refine keep_far ?_ GW115.out _ | refine keep_far ?_ GW122.out _) | exact HK.out)⟩, ⟨by repeat (first | (with_reducible first | exact HB.out | apply below_alloc | apply pw_below_drewN | apply below_drew1 | refine below_set ?_ (IsS41.ge HI0.out) | refine below_set ?_ GE115.out | refine below_set ?_ GE122.out) | exact HB.out)⟩⟩
                    ·rw [if_neg c132] at H
                     have c132b0 : (x123000_20 == 8) = false := beq_eq_false_iff_ne.mpr c132
                     have c132b1 : (x123000_20 != 8) = true := bne_iff_ne.mpr c132
                     (first | rw [c132b0] | (simp only [i64_w, i32_w]; rw [c132b0]) | skip)
                     by_cases c133 : x123000_20 = 9
                     ·rw [if_pos c133] at H
                      have c133b0 : (x123000_20 == 9) = true := beq_iff_eq.mpr c133
                      have c133b1 : (x123000_20 != 9) = false := bne_eq_false_iff_eq.mpr c133
                      clear c133
                      have H' := Aside0.mk H
                      clear H
                      go_wp2
                      go_meet
                      case rel => exact ⟨_, ((x123000_20 == 9)), (by first | rfl | (simp; done) | (simp [*]; done)), H', ⟨by have := HJ3.out; have := HJ20.out; have := HJ25.out; have := HJ53.out; have := HJ63.out; have := HJ79.out; have := HJ120.out; first | omega | exact Nat.le_refl _⟩, ⟨by (with_reducible repeat (first | refine blk_drewN ?_ _ | refine blk_drew ?_ | refine blk_alloc ?_ _)); exact BK115.out⟩, ⟨by (with_reducible repeat (first | refine blk_drewN ?_ _ | refine blk_drew ?_ | refine blk_alloc ?_ _)); exact BK122.out⟩, ⟨by repeat (first | (with_reducible first | exact HI0.out | apply IsS41.alloc | apply IsS41.drewN | apply IsS41.drew | apply IsS41.set_1 | apply IsS41.set_2 | refine IsS41.far ?_ NB0_115.out _ | refine IsS41.far ?_ NB0_122.out _) | exact HI0.out)⟩, ⟨by repeat (first | (with_reducible first | exact HK.out | apply KeepBut.set_ | apply keep_drewN | apply keep_drew | apply keep_alloc | refine keep_far ?_ GW115.out _ | refine keep_far ?_ GW122.out _) | exact HK.out)⟩, ⟨by repeat (first | (with_reducible first | exact HB.out | apply below_alloc | apply pw_below_drewN | apply below_drew1 | refine below_set ?_ (IsS41.ge HI0.out) | refine below_set ?_ GE115.out | refine below_set ?_ GE122.out) | exact HB.out)⟩⟩
                     ·rw [if_neg c133] at H
                      have c133b0 : (x123000_20 == 9) = false := beq_eq_false_iff_ne.mpr c133
                      have c133b1 : (x123000_20 != 9) = true := bne_iff_ne.mpr c133
                      have H' := Aside0.mk H
                      clear H
                      go_wp2
                      go_meet
                      case rel => exact ⟨_, ((x123000_20 == 10)), (by first | rfl | (simp; done) | (simp [*]; done)), H', ⟨by have := HJ3.out; have := HJ20.out; have := HJ25.out; have := HJ53.out; have := HJ63.out; have := HJ79.out; have := HJ120.out; first | omega | exact Nat.le_refl _⟩, ⟨by (with_reducible repeat (first | refine blk_drewN ?_ _ | refine blk_drew ?_ | refine blk_alloc ?_ _)); exact BK115.out⟩, ⟨by (with_reducible repeat (first | refine blk_drewN ?_ _ | refine blk_drew ?_ | refine blk_alloc ?_ _)); exact BK122.out⟩, ⟨by repeat (first | (with_reducible first | exact HI0.out | apply IsS41.alloc | apply IsS41.drewN | apply IsS41.drew | apply IsS41.set_1 | apply IsS41.set_2 | refine IsS41.far ?_ NB0_115.out _ | refine IsS41.far ?_ NB0_122.out _) | exact HI0.out)⟩, ⟨by repeat (first | (with_reducible first | exact HK.out | apply KeepBut.set_ | apply keep_drewN | apply keep_drew | apply keep_alloc | refine keep_far ?_ GW115.out _ | refine keep_far ?_ GW122.out _) | exact HK.out)⟩, ⟨by repeat (first | (with_reducible first | exact HB.out | apply below_alloc | apply pw_below_drewN | apply below_drew1 | refine below_set ?_ (IsS41.ge HI0.out) | refine below_set ?_ GE115.out | refine below_set ?_ GE122.out) | exact HB.out)⟩⟩
                   case rest =>
                    clear HC131
                    try clear c1
                    try clear c2
                    try clear p2
                    try clear c3
                    try clear c4
                    try clear c5
                    try clear c6
                    try clear p6
                    try clear c7
                    try clear c8
                    try clear c9
                    try clear c10
                    try clear c11
                    try clear c12
                    try clear c13
                    try clear c14
                    try clear c14b0
                    try clear c15
                    try clear c16
                    try clear c17
                    try clear c18
                    try clear c19
                    try clear c22
                    try clear c23
                    try clear c24
                    try clear c27
                    try clear c28
                    try clear c30
                    try clear c30b0
                    try clear c30b1
                    try clear c31
                    try clear c32
                    try clear c33
                    try clear c34
                    try clear c36
                    try clear c36b0
                    try clear c36b1
                    try clear c39
                    try clear c40
                    try clear c42
                    try clear c42b0
                    try clear c42b1
                    try clear c45
                    try clear c46
                    try clear c48
                    try clear c48b0
                    try clear c48b1
                    try clear c51
                    try clear c52
                    try clear c55
                    try clear c56
                    try clear c58
                    try clear c58b0
                    try clear c58b1
                    try clear c61
                    try clear c62
                    try clear p64
                    try clear c65
                    try clear c66
                    try clear c68
                    try clear c68b0
                    try clear c68b1
                    try clear c71
                    try clear c72
                    try clear c74
                    try clear c74b0
                    try clear c74b1
                    try clear c77
                    try clear c78
                    try clear c81
                    try clear c82
                    try clear c84
                    try clear c84b0
                    try clear c84b1
                    try clear c85
                    try clear c93
                    try clear c94
                    try clear c96
                    try clear c98
                    try clear c98b0
                    try clear c98b1
                    try clear c108
                    try clear c109
                    try clear c111
                    try clear c113
                    try clear c113b0
                    try clear c113b1
                    try clear c116
                    try clear c117
                    try clear c119
                    try clear c122
                    try clear c122b0
                    try clear c122b1
                    try clear c123
                    try clear c126
                    try clear c127
                    try clear c129
                    try clear c132
                    try clear c132b0
                    try clear c132b1
                    try clear c133
                    try clear c133b0
                    try clear c133b1
                    try clear hcz110_0
                    try clear hcz110_1
                    try clear hcz110_2
                    try clear hcz110_3
                    try clear hcz110_4
                    try clear hcz110_5
                    try clear hcz112_0
                    try clear hcz112_1
                    try clear hcz112_2
                    try clear hcz112_3
                    try clear hcz112_4
                    try clear hcz112_5
                    try clear hcz118_0
                    try clear hcz118_1
                    try clear hcz118_2
                    try clear hcz118_3
                    try clear hcz118_4
                    try clear hcz118_5
                    try clear hcz120_0
                    try clear hcz120_1
                    try clear hcz120_2
                    try clear hcz120_3
                    try clear hcz120_4
                    try clear hcz120_5
                    try clear hcz128_0
                    try clear hcz128_1
                    try clear hcz128_2
                    try clear hcz128_3
                    try clear hcz128_4
                    try clear hcz128_5
                    try clear hcz130_0
                    try clear hcz130_1
                    try clear hcz130_2
                    try clear hcz130_3
                    try clear hcz130_4
                    try clear hcz130_5
                    try clear hcz13_0
                    try clear hcz13_1
                    try clear hcz13_2
                    try clear hcz13_3
                    try clear hcz13_4
                    try clear hcz13_5
                    try clear hcz17_0
                    try clear hcz17_1
                    try clear hcz17_2
                    try clear hcz17_3
                    try clear hcz17_4
                    try clear hcz17_5
                    try clear hcz20_0
                    try clear hcz20_1
                    try clear hcz20_2
                    try clear hcz20_3
                    try clear hcz20_4
                    try clear hcz20_5
                    try clear hcz25_0
                    try clear hcz25_1
                    try clear hcz25_2
                    try clear hcz25_3
                    try clear hcz25_4
                    try clear hcz25_5
                    try clear hcz29_0
                    try clear hcz29_1
                    try clear hcz29_2
                    try clear hcz29_3
                    try clear hcz29_4
                    try clear hcz29_5
                    try clear hcz35_0
                    try clear hcz35_1
                    try clear hcz35_2
                    try clear hcz35_3
                    try clear hcz35_4
                    try clear hcz35_5
                    try clear hcz41_0
                    try clear hcz41_1
                    try clear hcz41_2
                    try clear hcz41_3
                    try clear hcz41_4
                    try clear hcz41_5
                    try clear hcz47_0
                    try clear hcz47_1
                    try clear hcz47_2
                    try clear hcz47_3
                    try clear hcz47_4
                    try clear hcz47_5
                    try clear hcz53_0
                    try clear hcz53_1
                    try clear hcz53_2
                    try clear hcz53_3
                    try clear hcz53_4
                    try clear hcz53_5
                    try clear hcz57_0
                    try clear hcz57_1
                    try clear hcz57_2
                    try clear hcz57_3
                    try clear hcz57_4
                    try clear hcz57_5
                    try clear hcz63_0
                    try clear hcz63_1
                    try clear hcz63_2
                    try clear hcz63_3
                    try clear hcz63_4
                    try clear hcz63_5
                    try clear hcz67_0
                    try clear hcz67_1
                    try clear hcz67_2
                    try clear hcz67_3
                    try clear hcz67_4
                    try clear hcz67_5
                    try clear hcz73_0
                    try clear hcz73_1
                    try clear hcz73_2
                    try clear hcz73_3
                    try clear hcz73_4
                    try clear hcz73_5
                    try clear hcz79_0
                    try clear hcz79_1
                    try clear hcz79_2
                    try clear hcz79_3
                    try clear hcz79_4
                    try clear hcz79_5
                    try clear hcz83_0
                    try clear hcz83_1
                    try clear hcz83_2
                    try clear hcz83_3
                    try clear hcz83_4
                    try clear hcz83_5
                    try clear hcz95_0
                    try clear hcz95_1
                    try clear hcz95_2
                    try clear hcz95_3
                    try clear hcz95_4
                    try clear hcz95_5
                    try clear hcz97_0
                    try clear hcz97_1
                    try clear hcz97_2
                    try clear hcz97_3
                    try clear hcz97_4
                    try clear hcz97_5
                    try clear hfz110_0
                    try clear hfz110_1
                    try clear hfz110_2
                    try clear hfz110_3
                    try clear hfz110_4
                    try clear hfz110_5
                    try clear hfz112_0
                    try clear hfz112_1
                    try clear hfz112_2
                    try clear hfz112_3
                    try clear hfz112_4
                    try clear hfz112_5
                    try clear hfz118_0
                    try clear hfz118_1
                    try clear hfz118_2
                    try clear hfz118_3
                    try clear hfz118_4
                    try clear hfz118_5
                    try clear hfz120_0
                    try clear hfz120_1
                    try clear hfz120_2
                    try clear hfz120_3
                    try clear hfz120_4
                    try clear hfz120_5
                    try clear hfz128_0
                    try clear hfz128_1
                    try clear hfz128_2
                    try clear hfz128_3
                    try clear hfz128_4
                    try clear hfz128_5
                    try clear hfz130_0
                    try clear hfz130_1
                    try clear hfz130_2
                    try clear hfz130_3
                    try clear hfz130_4
                    try clear hfz130_5
                    try clear hfz13_0
                    try clear hfz13_1
                    try clear hfz13_2
                    try clear hfz13_3
                    try clear hfz13_4
                    try clear hfz13_5
                    try clear hfz17_0
                    try clear hfz17_1
                    try clear hfz17_2
                    try clear hfz17_3
                    try clear hfz17_4
                    try clear hfz17_5
                    try clear hfz20_0
                    try clear hfz20_1
                    try clear hfz20_2
                    try clear hfz20_3
                    try clear hfz20_4
                    try clear hfz20_5
                    try clear hfz25_0
                    try clear hfz25_1
                    try clear hfz25_2
                    try clear hfz25_3
                    try clear hfz25_4
                    try clear hfz25_5
                    try clear hfz29_0
                    try clear hfz29_1
                    try clear hfz29_2
                    try clear hfz29_3
                    try clear hfz29_4
                    try clear hfz29_5
                    try clear hfz35_0
                    try clear hfz35_1
                    try clear hfz35_2
                    try clear hfz35_3
                    try clear hfz35_4
                    try clear hfz35_5
                    try clear hfz41_0
                    try clear hfz41_1
                    try clear hfz41_2
                    try clear hfz41_3
                    try clear hfz41_4
                    try clear hfz41_5
                    try clear hfz47_0
                    try clear hfz47_1
                    try clear hfz47_2
                    try clear hfz47_3
                    try clear hfz47_4
                    try clear hfz47_5
                    try clear hfz53_0
                    try clear hfz53_1
                    try clear hfz53_2
                    try clear hfz53_3
                    try clear hfz53_4
                    try clear hfz53_5
                    try clear hfz57_0
                    try clear hfz57_1
                    try clear hfz57_2
                    try clear hfz57_3
                    try clear hfz57_4
                    try clear hfz57_5
                    try clear hfz63_0
                    try clear hfz63_1
                    try clear hfz63_2
                    try clear hfz63_3
                    try clear hfz63_4
                    try clear hfz63_5
                    try clear hfz67_0
                    try clear hfz67_1
                    try clear hfz67_2
                    try clear hfz67_3
                    try clear hfz67_4
                    try clear hfz67_5
                    try clear hfz73_0
                    try clear hfz73_1
                    try clear hfz73_2
                    try clear hfz73_3
                    try clear hfz73_4
                    try clear hfz73_5
                    try clear hfz79_0
                    try clear hfz79_1
                    try clear hfz79_2
                    try clear hfz79_3
                    try clear hfz79_4
                    try clear hfz79_5
                    try clear hfz83_0
                    try clear hfz83_1
                    try clear hfz83_2
                    try clear hfz83_3
                    try clear hfz83_4
                    try clear hfz83_5
                    try clear hfz95_0
                    try clear hfz95_1
                    try clear hfz95_2
                    try clear hfz95_3
                    try clear hfz95_4
                    try clear hfz95_5
                    try clear hfz97_0
                    try clear hfz97_1
                    try clear hfz97_2
                    try clear hfz97_3
                    try clear hfz97_4
                    try clear hfz97_5
                    try clear p2
                    try clear p6
                    try clear p64
                    obtain ⟨kq, x77_130, rfl, HA, HJ130, BK115, BK122, HI0, HK, HB⟩ := hcut
                    cases kq with
                    | zero => exact absurd HA.out (by simp [spec_l1Cur_step.j7])
                    | succ kj130 =>
                     have H := HA.out
                     clear HA
                     simp only [spec_l1Cur_step.j7] at H
                     by_cases c134 : x77_130 = true
                     ·subst c134
                      have H1 : ((spec_l1Least.f 4 (wrap64 (a1 - 1))).bind fun t171 => ((spec_l1Cur_pick.f s0_0 x1001_63 x1002_63 t171).bind fun bt172 => (some (x123000_20, x123001_63, x123002_53, x123003_25, 0, wrap64 (1 + bt172.1), bt172.2.1, bt172.2.2)))) = some (r1, r2, r3, r4, r5, r6, r7, r8) := by rw [if_pos rfl] at H; exact H
                      clear H
                      have H := H1
                      clear H1
                      replace H := Option.bind_eq_some_iff.mp H
                      obtain ⟨t171, A1350, H⟩ := H
                      (try dsimp only at H)
                      have A135 := Aside0.mk A1350
                      clear A1350
                      replace H := Option.bind_eq_some_iff.mp H
                      obtain ⟨⟨t172, t173, t174⟩, A1360, H⟩ := H
                      (try dsimp only at H)
                      have A136 := Aside0.mk A1360
                      clear A1360
                      simp only [Option.some.injEq, Prod.mk.injEq] at H
                      obtain ⟨rfl, rfl, rfl, rfl, rfl, rfl, rfl, rfl⟩ := H
                      go_wp2_with (first | ((with_reducible refine gate_callee (f := 42) rfl ?_); refine goesL_ (some 84) rfl rfl Tryd.func42 (by kernel_rfl) rfl #[.int .i64 4, .int .i64 (wrap64 (a1 - 1))] rfl (by simp only [zA_, zB_, zD_] <;> rfl) ?_; (with_reducible refine (spec_l1Least.calls 4 (wrap64 (a1 - 1)) t171 _ A135.out).mono ?_); rintro e w' ⟨rfl, ⟨nd, rfl⟩⟩; refine ⟨_, rfl, ?_⟩; (try (rw [drewN_self wc]; generalize hq_ : World.drewN wc _ = wc; have n0_ : Aside0 (wc.heap[gb115]? = some (.cells #[.int .i64 0, .int .i64 0, .int .i64 0, .int .i64 0, .int .i64 0, .int .i64 0] 31 (0, 0))) := ⟨by rw [← hq_]; exact (by (with_reducible repeat (first | refine blk_drewN ?_ _ | refine blk_drew ?_ | refine blk_alloc ?_ _)); exact BK115.out)⟩; have n1_ : Aside0 (wc.heap[gb122]? = some (.cells #[.int .i64 x123000_20, .int .i64 x123001_63, .int .i64 x123002_53, .int .i64 x123003_25, .int .i64 0, .int .i64 0] 31 (0, 0))) := ⟨by rw [← hq_]; exact (by (with_reducible repeat (first | refine blk_drewN ?_ _ | refine blk_drew ?_ | refine blk_alloc ?_ _)); exact BK122.out)⟩; have n2_ : Aside0 (IsS41 w0 wc g s0_0 x1001_63 x1002_63) := ⟨by rw [← hq_]; exact (by repeat (first | (with_reducible first | exact HI0.out | apply IsS41.alloc | apply IsS41.drewN | apply IsS41.drew | apply IsS41.set_1 | apply IsS41.set_2 | refine IsS41.far ?_ NB0_115.out _ | refine IsS41.far ?_ NB0_122.out _) | exact HI0.out))⟩; have n3_ : Aside0 (KeepBut w wc g none) := ⟨by rw [← hq_]; exact (by repeat (first | (with_reducible first | exact HK.out | apply KeepBut.set_ | apply keep_drewN | apply keep_drew | apply keep_alloc | refine keep_far ?_ GW115.out _ | refine keep_far ?_ GW122.out _) | exact HK.out))⟩; have n4_ : Aside0 (Below w0.heap.size w0 wc) := ⟨by rw [← hq_]; exact (by repeat (first | (with_reducible first | exact HB.out | apply below_alloc | apply pw_below_drewN | apply below_drew1 | refine below_set ?_ (IsS41.ge HI0.out) | refine below_set ?_ GE115.out | refine below_set ?_ GE122.out) | exact HB.out))⟩; clear BK115 BK122 HI0 HK HB hq_; have BK115 := n0_; have BK122 := n1_; have HI0 := n2_; have HK := n3_; have HB := n4_; clear n0_ n1_ n2_ n3_ n4_))) | ((with_reducible refine gate_callee (f := 17) rfl ?_); refine goesL_ (some 85) rfl rfl Tryd.func17 (by kernel_rfl) rfl #[.pointer (some ⟨g, 0, none⟩), .int .i64 t171] rfl (by simp only [zA_, zB_, zD_] <;> rfl) ?_; (with_reducible refine (spec_l1Cur_pick.calls g s0_0 x1001_63 x1002_63 t171 t172 t173 t174 w0 _ ?side1 ?side2 A136.out).mono ?_); (case side1 => repeat (first | (with_reducible first | exact HI0.out | apply IsS41.alloc | apply IsS41.drewN | apply IsS41.drew | apply IsS41.set_1 | apply IsS41.set_2 | refine IsS41.far ?_ NB0_115.out _ | refine IsS41.far ?_ NB0_122.out _) | exact HI0.out)); (case side2 => repeat (first | (with_reducible first | exact HB.out | apply below_alloc | apply pw_below_drewN | apply below_drew1 | refine below_set ?_ (IsS41.ge HI0.out) | refine below_set ?_ GE115.out | refine below_set ?_ GE122.out) | exact HB.out)); rintro e w137 ⟨rfl, hi, hb, hk⟩; refine ⟨_, rfl, ?_⟩; have n0_ := Aside0.mk (KeepBut.blk hk (g' := gb115) (o := .cells #[.int .i64 0, .int .i64 0, .int .i64 0, .int .i64 0, .int .i64 0, .int .i64 0] 31 (0, 0)) (by (with_reducible repeat (first | refine blk_drewN ?_ _ | refine blk_drew ?_ | refine blk_alloc ?_ _)); exact BK115.out) NB115_0.out (by simp)); have n1_ := Aside0.mk (KeepBut.blk hk (g' := gb122) (o := .cells #[.int .i64 x123000_20, .int .i64 x123001_63, .int .i64 x123002_53, .int .i64 x123003_25, .int .i64 0, .int .i64 0] 31 (0, 0)) (by (with_reducible repeat (first | refine blk_drewN ?_ _ | refine blk_drew ?_ | refine blk_alloc ?_ _)); exact BK122.out) NB122_0.out (by simp)); have n2_ := Aside0.mk (KeepBut.trans (by repeat (first | (with_reducible first | exact HK.out | apply KeepBut.set_ | apply keep_drewN | apply keep_drew | apply keep_alloc | refine keep_far ?_ GW115.out _ | refine keep_far ?_ GW122.out _) | exact HK.out)) hk (.inl rfl)); have n3_ := Aside0.mk (hb); have n4_ := Aside0.mk (hi); clear BK115; clear BK122; clear HK; clear HB; clear HI0; have BK115 := n0_; have BK122 := n1_; have HK := n2_; have HB := n3_; have HI0 := n4_; clear n0_ n1_ n2_ n3_ n4_; (try clear hb); (try clear hb2); (try clear hk); (try clear hi); have hnb138 := NB122_115.out; have hnc138 := NB115_122.out; have hnb139 := NB122_0.out; have hnc139 := NB0_122.out; have hcz140_0 : w137.cell? ⟨gb122, 0, none⟩ = some (.int .i64 x123000_20) := (blk_cell BK122.out 0).trans rfl; have hcz140_1 : w137.cell? ⟨gb122, 1, none⟩ = some (.int .i64 x123001_63) := (blk_cell BK122.out 1).trans rfl; have hcz140_2 : w137.cell? ⟨gb122, 2, none⟩ = some (.int .i64 x123002_53) := (blk_cell BK122.out 2).trans rfl; have hcz140_3 : w137.cell? ⟨gb122, 3, none⟩ = some (.int .i64 x123003_25) := (blk_cell BK122.out 3).trans rfl; have hcz140_4 : w137.cell? ⟨gb122, 4, none⟩ = some (.int .i64 0) := (blk_cell BK122.out 4).trans rfl; have hcz140_5 : w137.cell? ⟨gb122, 5, none⟩ = some (.int .i64 0) := (blk_cell BK122.out 5).trans rfl; have hfz140_0 := blk_frozen BK122.out 0; have hfz140_1 := blk_frozen BK122.out 1; have hfz140_2 := blk_frozen BK122.out 2; have hfz140_3 := blk_frozen BK122.out 3; have hfz140_4 := blk_frozen BK122.out 4; have hfz140_5 := blk_frozen BK122.out 5; have hnb141 := NB115_0.out; have hnc141 := NB0_115.out; have hcz142_0 : w137.cell? ⟨gb115, 0, none⟩ = some (.int .i64 0) := (blk_cell BK115.out 0).trans rfl; have hcz142_1 : w137.cell? ⟨gb115, 1, none⟩ = some (.int .i64 0) := (blk_cell BK115.out 1).trans rfl; have hcz142_2 : w137.cell? ⟨gb115, 2, none⟩ = some (.int .i64 0) := (blk_cell BK115.out 2).trans rfl; have hcz142_3 : w137.cell? ⟨gb115, 3, none⟩ = some (.int .i64 0) := (blk_cell BK115.out 3).trans rfl; have hcz142_4 : w137.cell? ⟨gb115, 4, none⟩ = some (.int .i64 0) := (blk_cell BK115.out 4).trans rfl; have hcz142_5 : w137.cell? ⟨gb115, 5, none⟩ = some (.int .i64 0) := (blk_cell BK115.out 5).trans rfl; have hfz142_0 := blk_frozen BK115.out 0; have hfz142_1 := blk_frozen BK115.out 1; have hfz142_2 := blk_frozen BK115.out 2; have hfz142_3 := blk_frozen BK115.out 3; have hfz142_4 := blk_frozen BK115.out 4; have hfz142_5 := blk_frozen BK115.out 5))
                      refine bodyPost_ret (results_cell_row rfl _ _ gb115 31 #[.int .i64 x123000_20, .int .i64 x123001_63, .int .i64 x123002_53, .int .i64 x123003_25, .int .i64 0, .int .i64 (wrap64 (1 + t172))] (0, 0) _ rfl (by (with_reducible repeat (first | refine blk_drewN ?_ _ | refine blk_drew ?_ | refine blk_alloc ?_ _)); refine blk_put (cs := #[.int .i64 x123000_20, .int .i64 x123001_63, .int .i64 x123002_53, .int .i64 x123003_25, .int .i64 0, .int .i64 0]) ?_ 5 _ rfl; (with_reducible repeat (first | refine blk_drewN ?_ _ | refine blk_drew ?_ | refine blk_alloc ?_ _)); refine blk_put (cs := #[.int .i64 x123000_20, .int .i64 x123001_63, .int .i64 x123002_53, .int .i64 x123003_25, .int .i64 0, .int .i64 0]) ?_ 4 _ rfl; (with_reducible repeat (first | refine blk_drewN ?_ _ | refine blk_drew ?_ | refine blk_alloc ?_ _)); refine blk_put (cs := #[.int .i64 x123000_20, .int .i64 x123001_63, .int .i64 x123002_53, .int .i64 0, .int .i64 0, .int .i64 0]) ?_ 3 _ rfl; (with_reducible repeat (first | refine blk_drewN ?_ _ | refine blk_drew ?_ | refine blk_alloc ?_ _)); refine blk_put (cs := #[.int .i64 x123000_20, .int .i64 x123001_63, .int .i64 0, .int .i64 0, .int .i64 0, .int .i64 0]) ?_ 2 _ rfl; (with_reducible repeat (first | refine blk_drewN ?_ _ | refine blk_drew ?_ | refine blk_alloc ?_ _)); refine blk_put (cs := #[.int .i64 x123000_20, .int .i64 0, .int .i64 0, .int .i64 0, .int .i64 0, .int .i64 0]) ?_ 1 _ rfl; (with_reducible repeat (first | refine blk_drewN ?_ _ | refine blk_drew ?_ | refine blk_alloc ?_ _)); refine blk_put (cs := #[.int .i64 0, .int .i64 0, .int .i64 0, .int .i64 0, .int .i64 0, .int .i64 0]) ?_ 0 _ rfl; (with_reducible repeat (first | refine blk_drewN ?_ _ | refine blk_drew ?_ | refine blk_alloc ?_ _)); refine blk_far ?_ NB115_122.out _; (with_reducible repeat (first | refine blk_drewN ?_ _ | refine blk_drew ?_ | refine blk_alloc ?_ _)); exact BK115.out) Tryd.underlying31 rfl (by kernel_rfl)) rfl ?_
                      exact ⟨by first | rfl | (simp [errW_none, errW_some] <;> rfl) | (simp [*, errW_none, errW_some] <;> rfl), by repeat (first | (with_reducible first | exact HI0.out | apply IsS41.alloc | apply IsS41.drewN | apply IsS41.drew | apply IsS41.set_1 | apply IsS41.set_2 | refine IsS41.far ?_ NB0_115.out _ | refine IsS41.far ?_ NB0_122.out _) | exact HI0.out), by repeat (first | (with_reducible first | exact HB.out | apply below_alloc | apply pw_below_drewN | apply below_drew1 | refine below_set ?_ (IsS41.ge HI0.out) | refine below_set ?_ GE115.out | refine below_set ?_ GE122.out) | exact HB.out), by repeat (first | (with_reducible first | exact HK.out | apply KeepBut.set_ | apply keep_drewN | apply keep_drew | apply keep_alloc | refine keep_far ?_ GW115.out _ | refine keep_far ?_ GW122.out _) | exact HK.out)⟩
                     ·replace c134 := Bool.eq_false_iff.mpr c134
                      subst c134
                      have H1 : (some (x123000_20, x123001_63, x123002_53, x123003_25, 0, 0, x1001_63, x1002_63)) = some (r1, r2, r3, r4, r5, r6, r7, r8) := by rw [if_neg (show ¬ (false = true) by decide)] at H; exact H
                      clear H
                      have H := H1
                      clear H1
                      simp only [Option.some.injEq, Prod.mk.injEq] at H
                      obtain ⟨rfl, rfl, rfl, rfl, rfl, rfl, rfl, rfl⟩ := H
                      have hnb143 := NB122_115.out
                      have hnc143 := NB115_122.out
                      have hnb144 := NB122_0.out
                      have hnc144 := NB0_122.out
                      have hcz145_0 : wc.cell? ⟨gb122, 0, none⟩ = some (.int .i64 x123000_20) := (blk_cell BK122.out 0).trans rfl
                      have hcz145_1 : wc.cell? ⟨gb122, 1, none⟩ = some (.int .i64 x123001_63) := (blk_cell BK122.out 1).trans rfl
                      have hcz145_2 : wc.cell? ⟨gb122, 2, none⟩ = some (.int .i64 x123002_53) := (blk_cell BK122.out 2).trans rfl
                      have hcz145_3 : wc.cell? ⟨gb122, 3, none⟩ = some (.int .i64 x123003_25) := (blk_cell BK122.out 3).trans rfl
                      have hcz145_4 : wc.cell? ⟨gb122, 4, none⟩ = some (.int .i64 0) := (blk_cell BK122.out 4).trans rfl
                      have hcz145_5 : wc.cell? ⟨gb122, 5, none⟩ = some (.int .i64 0) := (blk_cell BK122.out 5).trans rfl
                      have hfz145_0 := blk_frozen BK122.out 0
                      have hfz145_1 := blk_frozen BK122.out 1
                      have hfz145_2 := blk_frozen BK122.out 2
                      have hfz145_3 := blk_frozen BK122.out 3
                      have hfz145_4 := blk_frozen BK122.out 4
                      have hfz145_5 := blk_frozen BK122.out 5
                      have hnb146 := NB115_0.out
                      have hnc146 := NB0_115.out
                      have hcz147_0 : wc.cell? ⟨gb115, 0, none⟩ = some (.int .i64 0) := (blk_cell BK115.out 0).trans rfl
                      have hcz147_1 : wc.cell? ⟨gb115, 1, none⟩ = some (.int .i64 0) := (blk_cell BK115.out 1).trans rfl
                      have hcz147_2 : wc.cell? ⟨gb115, 2, none⟩ = some (.int .i64 0) := (blk_cell BK115.out 2).trans rfl
                      have hcz147_3 : wc.cell? ⟨gb115, 3, none⟩ = some (.int .i64 0) := (blk_cell BK115.out 3).trans rfl
                      have hcz147_4 : wc.cell? ⟨gb115, 4, none⟩ = some (.int .i64 0) := (blk_cell BK115.out 4).trans rfl
                      have hcz147_5 : wc.cell? ⟨gb115, 5, none⟩ = some (.int .i64 0) := (blk_cell BK115.out 5).trans rfl
                      have hfz147_0 := blk_frozen BK115.out 0
                      have hfz147_1 := blk_frozen BK115.out 1
                      have hfz147_2 := blk_frozen BK115.out 2
                      have hfz147_3 := blk_frozen BK115.out 3
                      have hfz147_4 := blk_frozen BK115.out 4
                      have hfz147_5 := blk_frozen BK115.out 5
                      go_wp2
                      refine bodyPost_ret (results_cell_row rfl _ _ gb115 31 #[.int .i64 x123000_20, .int .i64 x123001_63, .int .i64 x123002_53, .int .i64 x123003_25, .int .i64 0, .int .i64 0] (0, 0) _ rfl (by (with_reducible repeat (first | refine blk_drewN ?_ _ | refine blk_drew ?_ | refine blk_alloc ?_ _)); refine blk_put (cs := #[.int .i64 x123000_20, .int .i64 x123001_63, .int .i64 x123002_53, .int .i64 x123003_25, .int .i64 0, .int .i64 0]) ?_ 5 _ rfl; (with_reducible repeat (first | refine blk_drewN ?_ _ | refine blk_drew ?_ | refine blk_alloc ?_ _)); refine blk_put (cs := #[.int .i64 x123000_20, .int .i64 x123001_63, .int .i64 x123002_53, .int .i64 x123003_25, .int .i64 0, .int .i64 0]) ?_ 4 _ rfl; (with_reducible repeat (first | refine blk_drewN ?_ _ | refine blk_drew ?_ | refine blk_alloc ?_ _)); refine blk_put (cs := #[.int .i64 x123000_20, .int .i64 x123001_63, .int .i64 x123002_53, .int .i64 0, .int .i64 0, .int .i64 0]) ?_ 3 _ rfl; (with_reducible repeat (first | refine blk_drewN ?_ _ | refine blk_drew ?_ | refine blk_alloc ?_ _)); refine blk_put (cs := #[.int .i64 x123000_20, .int .i64 x123001_63, .int .i64 0, .int .i64 0, .int .i64 0, .int .i64 0]) ?_ 2 _ rfl; (with_reducible repeat (first | refine blk_drewN ?_ _ | refine blk_drew ?_ | refine blk_alloc ?_ _)); refine blk_put (cs := #[.int .i64 x123000_20, .int .i64 0, .int .i64 0, .int .i64 0, .int .i64 0, .int .i64 0]) ?_ 1 _ rfl; (with_reducible repeat (first | refine blk_drewN ?_ _ | refine blk_drew ?_ | refine blk_alloc ?_ _)); refine blk_put (cs := #[.int .i64 0, .int .i64 0, .int .i64 0, .int .i64 0, .int .i64 0, .int .i64 0]) ?_ 0 _ rfl; (with_reducible repeat (first | refine blk_drewN ?_ _ | refine blk_drew ?_ | refine blk_alloc ?_ _)); exact BK115.out) Tryd.underlying31 rfl (by kernel_rfl)) rfl ?_
                      exact ⟨by first | rfl | (simp [errW_none, errW_some] <;> rfl) | (simp [*, errW_none, errW_some] <;> rfl), by repeat (first | (with_reducible first | exact HI0.out | apply IsS41.alloc | apply IsS41.drewN | apply IsS41.drew | apply IsS41.set_1 | apply IsS41.set_2 | refine IsS41.far ?_ NB0_115.out _ | refine IsS41.far ?_ NB0_122.out _) | exact HI0.out), by repeat (first | (with_reducible first | exact HB.out | apply below_alloc | apply pw_below_drewN | apply below_drew1 | refine below_set ?_ (IsS41.ge HI0.out) | refine below_set ?_ GE115.out | refine below_set ?_ GE122.out) | exact HB.out), by repeat (first | (with_reducible first | exact HK.out | apply KeepBut.set_ | apply keep_drewN | apply keep_drew | apply keep_alloc | refine keep_far ?_ GW115.out _ | refine keep_far ?_ GW122.out _) | exact HK.out)⟩
end Go.Proofs.YtpkbjgmeejlchaaDoor.PFnNexts
-- squeezed
