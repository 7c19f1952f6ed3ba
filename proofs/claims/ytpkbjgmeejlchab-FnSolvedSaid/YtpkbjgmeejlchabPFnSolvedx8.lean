-- Made by a program of this session (wip/tools), which leans on the kit's print: checked by Lean alone.
import Derived.Test.YtpkbjgmeejlchabPFnSolvedx0
import Derived.Test.YtpkbjgmeejlchabPFnSolvedx5
import Derived.Test.YtpkbjgmeejlchabPFnSolvedx7
namespace Go.Proofs.Ytpkbjgmeejlchab.PFnSolved
open Go.RowKit Go.Proofs.YtpkbjgmeejlchabW.PrintWords Go.Proofs.YtpkbjgmeejlchabW.PrintLast Go.Proofs.YtpkbjgmeejlchabW.PrintMore
attribute [local go_sem] max2_int min2_int max_two min_two max_three min_three max_four min_four   -- for this text's walks alone
set_option linter.unusedVariables false
set_option linter.unusedSimpArgs false

/-! ### spec_l4Unit: function 109 -/
def spec_l4Unit.l0 : Nat → List Int → Int → Int → List Int → Int → Int → Option (Int × Bool)
 | 0, _, _, _, _, _, _ => none
 | k + 1, x1, x6, x7, x10, x11, x12 => if x12 < x11 then (if 0 ≤ x12 then (if x12 < (x10.length : Int) then ((spec_l1Has.f k x1 (rd x10 x12)).bind fun t283 => (if t283 = true then (some (0, false)) else ((spec_l1Has.f k x1 (wrap64 (-(rd x10 x12)))).bind fun t284 => (if t284 = true then (spec_l4Unit.l0 k x1 x6 x7 x10 x11 (wrap64 (x12 + 1))) else (spec_l4Unit.l0 k x1 (rd x10 x12) (wrap64 (x7 + 1)) x10 x11 (wrap64 (x12 + 1))))))) else (none)) else (none)) else (if x7 = 0 then (some (0, true)) else (if x7 = 1 then (some (x6, false)) else (some (0, false))))
def spec_l4Unit.f (k : Nat) (l0 : List Int) (l1 : List Int) : Option (Int × Bool) := spec_l4Unit.l0 k l1 0 0 l0 (l0.length : Int) 0
theorem spec_l4Unit.mono_l : ∀ k, (∀ y0 y1 y2 y3 y4 y5, LeO (spec_l4Unit.l0 k y0 y1 y2 y3 y4 y5) (spec_l4Unit.l0 (k + 1) y0 y1 y2 y3 y4 y5))
 | 0 => fun _ _ _ _ _ _ r h => by simp [spec_l4Unit.l0] at h
 | k + 1 => by
  have ih0 := spec_l4Unit.mono_l k
  ·intro y0 y1 y2 y3 y4 y5
   unfold spec_l4Unit.l0
   repeat' first
   | (with_reducible exact ih0 _ _ _ _ _ _)
   | (with_reducible exact spec_l1Has.mono _ _ _)
   | (with_reducible exact LeO.refl _)
   | (with_reducible exact LeO.none _)
   | (with_reducible refine LeO.ite ?_ ?_)
   | (with_reducible refine LeO.bind ?_ (fun _ => ?_))
   | exact ih0 _ _ _ _ _ _
   | exact spec_l1Has.mono _ _ _
   | exact LeO.none _
   | refine LeO.ite ?_ ?_
   | refine LeO.bind ?_ (fun _ => ?_)
theorem spec_l4Unit.mono : ∀ a0 a1 k, LeO (spec_l4Unit.f k a0 a1) (spec_l4Unit.f (k + 1) a0 a1) := by
 intro a0 a1 k
 have ih0 := spec_l4Unit.mono_l k
 unfold spec_l4Unit.f
 repeat' first
   | (with_reducible exact ih0 _ _ _ _ _ _)
   | (with_reducible exact spec_l1Has.mono _ _ _)
   | (with_reducible exact LeO.refl _)
   | (with_reducible exact LeO.none _)
   | (with_reducible refine LeO.ite ?_ ?_)
   | (with_reducible refine LeO.bind ?_ (fun _ => ?_))
   | exact ih0 _ _ _ _ _ _
   | exact spec_l1Has.mono _ _ _
   | exact LeO.none _
   | refine LeO.ite ?_ ?_
   | refine LeO.bind ?_ (fun _ => ?_)
set_option maxHeartbeats 8000000 in
set_option maxRecDepth 100000 in
theorem spec_l4Unit.calls (k : Nat) (A0 : Option Addr) (c0 : Nat) (l0 : List Int) (A1 : Option Addr) (c1 : Nat) (l1 : List Int) (r1 : Int) (r2 : Bool) (w : World) (hr0 : Kd.C (Kd.int .i64) w A0 l0.length l0) (hc0 : l0.length ≤ c0) (hr1 : Kd.C (Kd.int .i64) w A1 l1.length l1) (hc1 : l1.length ≤ c1) (h : spec_l4Unit.f k l0 l1 = some (r1, r2)) :
  Calls Try.prog 109 #[.slice A0 l0.length c0, .slice A1 l1.length c1] w fun e w' => e = .returned (.tuple #[.int .i64 r1, .bool r2]) ∧ Drawn0 w w' := by
 have HR0 := Aside0.mk hr0
 have HC0 := Aside0.mk hc0
 clear hr0 hc0
 have HR1 := Aside0.mk hr1
 have HC1 := Aside0.mk hc1
 clear hr1 hc1
 have H : (spec_l4Unit.l0 k l1 0 0 l0 (l0.length : Int) 0) = some (r1, r2) := h
 clear h
 have H' := Aside0.mk H
 clear H
 go_enter Try.func109, Try.ntmps109
 go_wp2
 go_loopg [6, 7, 12] k (fun kq v6 v7 v12 w' => ∃ (x6_1 : Int) (x7_1 : Int) (x12_1 : Int), v6 = .int .i64 x6_1 ∧ v7 = .int .i64 x7_1 ∧ v12 = .int .i64 x12_1 ∧ Aside0 (spec_l4Unit.l0 kq l1 x6_1 x7_1 l0 (l0.length : Int) x12_1 = some (r1, r2)) ∧ Aside0 (kq ≤ k) ∧ Drawn0 w w')
 case atStart => exact ⟨(0), (0), (0), (by first | rfl | (simp; done) | (simp [*]; done)), (by first | rfl | (simp; done) | (simp [*]; done)), (by first | rfl | (simp; done) | (simp [*]; done)), H', ⟨Nat.le_refl _⟩, by repeat (first | exact Drawn0.refl _ | apply Drawn0.step)⟩
 case round =>
  clear H'
  try clear c1
  try clear p2
  obtain ⟨x6_1, x7_1, x12_1, rfl, rfl, rfl, HA, HK1, ⟨m1, rfl⟩⟩ := hrel
  cases gk with
  | zero => exact absurd HA.out (by simp [spec_l4Unit.l0])
  | succ k1 =>
   have H := HA.out
   clear HA
   simp only [spec_l4Unit.l0] at H
   by_cases c3 : x12_1 < (l0.length : Int)
   ·rw [if_pos c3] at H
    have c3b0 : decide (x12_1 < (l0.length : Int)) = true := decide_eq_true c3
    clear c3
    by_cases c4 : 0 ≤ x12_1
    ·rw [if_pos c4] at H
     have c4b0 : decide (0 ≤ x12_1) = true := decide_eq_true c4
     clear c4
     by_cases c5 : x12_1 < (l0.length : Int)
     ·rw [if_pos c5] at H
      have c5b0 : decide (x12_1 < (l0.length : Int)) = true := decide_eq_true c5
      clear c5
      replace H := Option.bind_eq_some_iff.mp H
      obtain ⟨t283, A60, H⟩ := H
      (try dsimp only at H)
      have A6 := Aside0.mk A60
      clear A60
      by_cases c7 : t283 = true
      ·subst c7
       have H1 : (some (0, false)) = some (r1, r2) := by rw [if_pos rfl] at H; exact H
       clear H
       have H := H1
       clear H1
       simp only [Option.some.injEq, Prod.mk.injEq] at H
       obtain ⟨rfl, rfl⟩ := H
       have p282 : 0 ≤ (x12_1 : Int) := of_decide_eq_true (by first | (with_reducible assumption) | assumption)
       have q282 : x12_1 < (l0.length : Int) := of_decide_eq_true (by first | (with_reducible assumption) | assumption)
       obtain ⟨ad282, e282, hx282_0⟩ := Kd.at_int HR0.out x12_1 p282 q282
       cases e282
       replace p282 := eq_true p282
       replace q282 := eq_true q282
       go_wp2_with (first | ((with_reducible refine gate_callee (f := 69) rfl ?_); refine goesL_ (some 18) rfl rfl Try.func69 (by kernel_rfl) rfl #[.slice A1 l1.length c1, .int .i64 (rd l0 x12_1)] rfl (by (try simp only [List.map_toArray, List.map_cons, List.map_nil]); first | done | rfl | (simp only [List.length_drop, List.length_take]; rfl)) ?_; (with_reducible refine (spec_l1Has.calls k1 _ _ l1 (rd l0 x12_1) true _ ?side1 ?side2 A6.out).mono ?_); (case side1 => exact zC_ HR1.out); (case side2 => exact HC1.out); rintro e w' ⟨rfl, ⟨nd, rfl⟩⟩; refine ⟨_, rfl, ?_⟩))
       go_ret2
       exact ⟨by first | rfl | (simp; done) | (simp [*]; done), by repeat (first | exact Drawn0.refl _ | apply Drawn0.step)⟩
      ·replace c7 := Bool.eq_false_iff.mpr c7
       subst c7
       have H1 : ((spec_l1Has.f k1 l1 (wrap64 (-(rd l0 x12_1)))).bind fun t284 => (if t284 = true then (spec_l4Unit.l0 k1 l1 x6_1 x7_1 l0 (l0.length : Int) (wrap64 (x12_1 + 1))) else (spec_l4Unit.l0 k1 l1 (rd l0 x12_1) (wrap64 (x7_1 + 1)) l0 (l0.length : Int) (wrap64 (x12_1 + 1))))) = some (r1, r2) := by rw [if_neg (show ¬ (false = true) by decide)] at H; exact H
       clear H
       have H := H1
       clear H1
       replace H := Option.bind_eq_some_iff.mp H
       obtain ⟨t284, A80, H⟩ := H
       (try dsimp only at H)
       have A8 := Aside0.mk A80
       clear A80
       by_cases c9 : t284 = true
       ·subst c9
        have H1 : (spec_l4Unit.l0 k1 l1 x6_1 x7_1 l0 (l0.length : Int) (wrap64 (x12_1 + 1))) = some (r1, r2) := by rw [if_pos rfl] at H; exact H
        clear H
        have H := H1
        clear H1
        have H' := Aside0.mk H
        clear H
        have p282 : 0 ≤ (x12_1 : Int) := of_decide_eq_true (by first | (with_reducible assumption) | assumption)
        have q282 : x12_1 < (l0.length : Int) := of_decide_eq_true (by first | (with_reducible assumption) | assumption)
        obtain ⟨ad282, e282, hx282_0⟩ := Kd.at_int HR0.out x12_1 p282 q282
        cases e282
        replace p282 := eq_true p282
        replace q282 := eq_true q282
        go_wp2_with (first | ((with_reducible refine gate_callee (f := 69) rfl ?_); refine goesL_ (some 18) rfl rfl Try.func69 (by kernel_rfl) rfl #[.slice A1 l1.length c1, .int .i64 (rd l0 x12_1)] rfl (by (try simp only [List.map_toArray, List.map_cons, List.map_nil]); first | done | rfl | (simp only [List.length_drop, List.length_take]; rfl)) ?_; (with_reducible refine (spec_l1Has.calls k1 _ _ l1 (rd l0 x12_1) false _ ?side1 ?side2 A6.out).mono ?_); (case side1 => exact zC_ HR1.out); (case side2 => exact HC1.out); rintro e w' ⟨rfl, ⟨nd, rfl⟩⟩; refine ⟨_, rfl, ?_⟩) | ((with_reducible refine gate_callee (f := 69) rfl ?_); refine goesL_ (some 22) rfl rfl Try.func69 (by kernel_rfl) rfl #[.slice A1 l1.length c1, .int .i64 (wrap64 (-(rd l0 x12_1)))] rfl (by (try simp only [List.map_toArray, List.map_cons, List.map_nil]); first | done | rfl | (simp only [List.length_drop, List.length_take]; rfl)) ?_; (with_reducible refine (spec_l1Has.calls k1 _ _ l1 (wrap64 (-(rd l0 x12_1))) true _ ?side1 ?side2 A8.out).mono ?_); (case side1 => exact zC_ HR1.out); (case side2 => exact HC1.out); rintro e w' ⟨rfl, ⟨nd, rfl⟩⟩; refine ⟨_, rfl, ?_⟩))
        go_roundg k1
        case measure => have := HK1.out; omega
        case rel => exact ⟨(x6_1), (x7_1), (wrap64 (x12_1 + 1)), (by first | rfl | (simp; done) | (simp [*]; done)), (by first | rfl | (simp; done) | (simp [*]; done)), (by first | rfl | (simp; done) | (simp [*]; done)), H', ⟨by have := HK1.out; omega⟩, by repeat (first | exact Drawn0.refl _ | apply Drawn0.step)⟩
       ·replace c9 := Bool.eq_false_iff.mpr c9
        subst c9
        have H1 : (spec_l4Unit.l0 k1 l1 (rd l0 x12_1) (wrap64 (x7_1 + 1)) l0 (l0.length : Int) (wrap64 (x12_1 + 1))) = some (r1, r2) := by rw [if_neg (show ¬ (false = true) by decide)] at H; exact H
        clear H
        have H := H1
        clear H1
        have H' := Aside0.mk H
        clear H
        have p282 : 0 ≤ (x12_1 : Int) := of_decide_eq_true (by first | (with_reducible assumption) | assumption)
        have q282 : x12_1 < (l0.length : Int) := of_decide_eq_true (by first | (with_reducible assumption) | assumption)
        obtain ⟨ad282, e282, hx282_0⟩ := Kd.at_int HR0.out x12_1 p282 q282
        cases e282
        replace p282 := eq_true p282
        replace q282 := eq_true q282
        go_wp2_with (first | ((with_reducible refine gate_callee (f := 69) rfl ?_); refine goesL_ (some 18) rfl rfl Try.func69 (by kernel_rfl) rfl #[.slice A1 l1.length c1, .int .i64 (rd l0 x12_1)] rfl (by (try simp only [List.map_toArray, List.map_cons, List.map_nil]); first | done | rfl | (simp only [List.length_drop, List.length_take]; rfl)) ?_; (with_reducible refine (spec_l1Has.calls k1 _ _ l1 (rd l0 x12_1) false _ ?side1 ?side2 A6.out).mono ?_); (case side1 => exact zC_ HR1.out); (case side2 => exact HC1.out); rintro e w' ⟨rfl, ⟨nd, rfl⟩⟩; refine ⟨_, rfl, ?_⟩) | ((with_reducible refine gate_callee (f := 69) rfl ?_); refine goesL_ (some 22) rfl rfl Try.func69 (by kernel_rfl) rfl #[.slice A1 l1.length c1, .int .i64 (wrap64 (-(rd l0 x12_1)))] rfl (by (try simp only [List.map_toArray, List.map_cons, List.map_nil]); first | done | rfl | (simp only [List.length_drop, List.length_take]; rfl)) ?_; (with_reducible refine (spec_l1Has.calls k1 _ _ l1 (wrap64 (-(rd l0 x12_1))) false _ ?side1 ?side2 A8.out).mono ?_); (case side1 => exact zC_ HR1.out); (case side2 => exact HC1.out); rintro e w' ⟨rfl, ⟨nd, rfl⟩⟩; refine ⟨_, rfl, ?_⟩))
        go_roundg k1
        case measure => have := HK1.out; omega
        case rel => exact ⟨(rd l0 x12_1), (wrap64 (x7_1 + 1)), (wrap64 (x12_1 + 1)), (by first | rfl | (simp; done) | (simp [*]; done)), (by first | rfl | (simp; done) | (simp [*]; done)), (by first | rfl | (simp; done) | (simp [*]; done)), H', ⟨by have := HK1.out; omega⟩, by repeat (first | exact Drawn0.refl _ | apply Drawn0.step)⟩
     ·rw [if_neg c5] at H
      exact absurd H (by simp)
    ·rw [if_neg c4] at H
     exact absurd H (by simp)
   ·rw [if_neg c3] at H
    have c3b0 : decide (x12_1 < (l0.length : Int)) = false := decide_eq_false c3
    clear c3
    by_cases c10 : x7_1 = 0
    ·rw [if_pos c10] at H
     have c10b0 : (x7_1 == 0) = true := beq_iff_eq.mpr c10
     have c10b1 : (x7_1 != 0) = false := bne_eq_false_iff_eq.mpr c10
     clear c10
     simp only [Option.some.injEq, Prod.mk.injEq] at H
     obtain ⟨rfl, rfl⟩ := H
     go_wp2
     go_ret2
     exact ⟨by first | rfl | (simp; done) | (simp [*]; done), by repeat (first | exact Drawn0.refl _ | apply Drawn0.step)⟩
    ·rw [if_neg c10] at H
     have c10b0 : (x7_1 == 0) = false := beq_eq_false_iff_ne.mpr c10
     have c10b1 : (x7_1 != 0) = true := bne_iff_ne.mpr c10
     by_cases c11 : x7_1 = 1
     ·rw [if_pos c11] at H
      have c11b0 : (x7_1 == 1) = true := beq_iff_eq.mpr c11
      have c11b1 : (x7_1 != 1) = false := bne_eq_false_iff_eq.mpr c11
      clear c11
      simp only [Option.some.injEq, Prod.mk.injEq] at H
      obtain ⟨rfl, rfl⟩ := H
      go_wp2
      go_ret2
      exact ⟨by first | rfl | (simp; done) | (simp [*]; done), by repeat (first | exact Drawn0.refl _ | apply Drawn0.step)⟩
     ·rw [if_neg c11] at H
      have c11b0 : (x7_1 == 1) = false := beq_eq_false_iff_ne.mpr c11
      have c11b1 : (x7_1 != 1) = true := bne_iff_ne.mpr c11
      simp only [Option.some.injEq, Prod.mk.injEq] at H
      obtain ⟨rfl, rfl⟩ := H
      go_wp2
      go_ret2
      exact ⟨by first | rfl | (simp; done) | (simp [*]; done), by repeat (first | exact Drawn0.refl _ | apply Drawn0.step)⟩

/-! ### spec_l4Propagate: function 78 -/
mutual
def spec_l4Propagate.l0 : Nat → List (List Int) → List Int → Bool → Option (List Int × Bool)
 | 0, _, _, _ => none
 | k + 1, x0, x6, x7 => if x7 = true then (spec_l4Propagate.l1 k x0 x6 false x0 (x0.length : Int) 0) else (some (x6, false))
def spec_l4Propagate.l1 : Nat → List (List Int) → List Int → Bool → List (List Int) → Int → Int → Option (List Int × Bool)
 | 0, _, _, _, _, _, _ => none
 | k + 1, x0, x6, x7, x16, x17, x18 => if x18 < x17 then (if 0 ≤ x18 then (if x18 < (x16.length : Int) then ((spec_l4Unit.f k (rd_L1 x16 x18) x6).bind fun bt292 => (if bt292.2 = true then (some (x6, true)) else (if bt292.1 = 0 then (spec_l4Propagate.l1 k x0 x6 x7 x16 x17 (wrap64 (x18 + 1))) else (if x6.length < 17592186044416 then (spec_l4Propagate.l0 k x0 (x6 ++ [bt292.1]) true) else (none))))) else (none)) else (none)) else (spec_l4Propagate.l0 k x0 x6 x7)
end
def spec_l4Propagate.f (k : Nat) (l0 : List (List Int)) (l1 : List Int) : Option (List Int × Bool) := (some (([] : List Int) : List Int)).bind fun y285 => (if y285.length + l1.length < 17592186044416 then (spec_l4Propagate.l0 k l0 (y285 ++ l1) true) else (none))
theorem spec_l4Propagate.mono_l : ∀ k, (∀ y0 y1 y2, LeO (spec_l4Propagate.l0 k y0 y1 y2) (spec_l4Propagate.l0 (k + 1) y0 y1 y2)) ∧ (∀ y0 y1 y2 y3 y4 y5, LeO (spec_l4Propagate.l1 k y0 y1 y2 y3 y4 y5) (spec_l4Propagate.l1 (k + 1) y0 y1 y2 y3 y4 y5))
 | 0 => ⟨fun _ _ _ r h => by simp [spec_l4Propagate.l0] at h, fun _ _ _ _ _ _ r h => by simp [spec_l4Propagate.l1] at h⟩
 | k + 1 => by
  obtain ⟨ih0, ih1⟩ := spec_l4Propagate.mono_l k
  refine ⟨?_, ?_⟩
  ·intro y0 y1 y2
   unfold spec_l4Propagate.l0
   repeat' first
   | (with_reducible exact ih0 _ _ _)
   | (with_reducible exact ih1 _ _ _ _ _ _)
   | (with_reducible exact spec_l4Unit.mono _ _ _)
   | (with_reducible exact LeO.refl _)
   | (with_reducible exact LeO.none _)
   | (with_reducible refine LeO.ite ?_ ?_)
   | (with_reducible refine LeO.bind ?_ (fun _ => ?_))
   | exact ih0 _ _ _
   | exact ih1 _ _ _ _ _ _
   | exact spec_l4Unit.mono _ _ _
   | exact LeO.none _
   | refine LeO.ite ?_ ?_
   | refine LeO.bind ?_ (fun _ => ?_)
  ·intro y0 y1 y2 y3 y4 y5
   unfold spec_l4Propagate.l1
   repeat' first
   | (with_reducible exact ih0 _ _ _)
   | (with_reducible exact ih1 _ _ _ _ _ _)
   | (with_reducible exact spec_l4Unit.mono _ _ _)
   | (with_reducible exact LeO.refl _)
   | (with_reducible exact LeO.none _)
   | (with_reducible refine LeO.ite ?_ ?_)
   | (with_reducible refine LeO.bind ?_ (fun _ => ?_))
   | exact ih0 _ _ _
   | exact ih1 _ _ _ _ _ _
   | exact spec_l4Unit.mono _ _ _
   | exact LeO.none _
   | refine LeO.ite ?_ ?_
   | refine LeO.bind ?_ (fun _ => ?_)
theorem spec_l4Propagate.mono : ∀ a0 a1 k, LeO (spec_l4Propagate.f k a0 a1) (spec_l4Propagate.f (k + 1) a0 a1) := by
 intro a0 a1 k
 obtain ⟨ih0, ih1⟩ := spec_l4Propagate.mono_l k
 unfold spec_l4Propagate.f
 repeat' first
   | (with_reducible exact ih0 _ _ _)
   | (with_reducible exact ih1 _ _ _ _ _ _)
   | (with_reducible exact spec_l4Unit.mono _ _ _)
   | (with_reducible exact LeO.refl _)
   | (with_reducible exact LeO.none _)
   | (with_reducible refine LeO.ite ?_ ?_)
   | (with_reducible refine LeO.bind ?_ (fun _ => ?_))
   | exact ih0 _ _ _
   | exact ih1 _ _ _ _ _ _
   | exact spec_l4Unit.mono _ _ _
   | exact LeO.none _
   | refine LeO.ite ?_ ?_
   | refine LeO.bind ?_ (fun _ => ?_)
set_option maxHeartbeats 8000000 in
set_option maxRecDepth 100000 in
theorem spec_l4Propagate.calls (k : Nat) (A0 : Option Addr) (c0 : Nat) (l0 : List (List Int)) (A1 : Option Addr) (c1 : Nat) (l1 : List Int) (r1 : List Int) (r2 : Bool) (w : World) (hr0 : Kd.C (Kd.slice 3 (Kd.int .i64)) w A0 l0.length l0) (hc0 : l0.length ≤ c0) (hr1 : Kd.C (Kd.int .i64) w A1 l1.length l1) (hc1 : l1.length ≤ c1) (h : spec_l4Propagate.f k l0 l1 = some (r1, r2)) :
  Calls Try.prog 78 #[.slice A0 l0.length c0, .slice A1 l1.length c1] w fun e w' => ∃ v0_ : Value, e = .returned (.tuple #[v0_, .bool r2]) ∧ Kd.R (Kd.int .i64) 3 w' w.heap.size (fun _ => True) v0_ r1 ∧ Below w.heap.size w w' := by
 have HR0 := Aside0.mk hr0
 have HC0 := Aside0.mk hc0
 clear hr0 hc0
 have HR1 := Aside0.mk hr1
 have HC1 := Aside0.mk hc1
 clear hr1 hc1
 have HB := Aside0.mk (Below.refl w.heap.size w)
 have H : ((some (([] : List Int) : List Int)).bind fun y285 => (if y285.length + l1.length < 17592186044416 then (spec_l4Propagate.l0 k l0 (y285 ++ l1) true) else (none))) = some (r1, r2) := h
 clear h
 obtain ⟨y285, hy285⟩ : ∃ y_ : List Int, y_ = (([] : List Int)) := ⟨_, rfl⟩
 replace H : (if y285.length + l1.length < 17592186044416 then (spec_l4Propagate.l0 k l0 (y285 ++ l1) true) else (none)) = some (r1, r2) := by first | (rw [hy285]; with_reducible exact H) | (have H2_ := (Option.bind_some _ _).symm.trans H; rw [hy285]; with_reducible exact H2_) | (have H2_ := (Option.bind_some _ _).symm.trans H; with_reducible exact H2_) | with_reducible exact H | (rw [hy285]; exact H) | exact H
 have Ny285 := Aside0.mk hy285
 clear hy285
 by_cases c3 : y285.length + l1.length < 17592186044416
 ·rw [if_pos c3] at H
  have LMc3 := Aside0.mk c3
  clear c3
  obtain ⟨y288, hy288⟩ : ∃ y_ : List Int, y_ = (y285 ++ l1) := ⟨_, rfl⟩
  replace H : (spec_l4Propagate.l0 k l0 y288 true) = some (r1, r2) := by first | (rw [hy288]; with_reducible exact H) | (have H2_ := (Option.bind_some _ _).symm.trans H; rw [hy288]; with_reducible exact H2_) | (have H2_ := (Option.bind_some _ _).symm.trans H; with_reducible exact H2_) | with_reducible exact H | (rw [hy288]; exact H) | exact H
  have Ny288 := Aside0.mk hy288
  clear hy288
  have H' := Aside0.mk H
  clear H
  go_enter Try.func78, Try.ntmps78
  go_wp2_with (first | ((with_reducible refine gate_dst (N := 12) rfl ?_); refine Kd.R_lit (Kd.int .i64) _ 3 ?hg (N := 12) ?hd (xs := ([] : List Int)) (inner := []) (ok := fun _ => True) (okp := fun _ => True) ?hr ?hp (fun _ hk => hk) trivial (Below.refl _ _) (Nat.le_refl _) (by simp) ?_; (case hd => rfl); (case hg => rfl); (case hr => first | (go_simp; done) | (go_simp; rfl)); (case hp => exact (Reps.none _ _)); intro v286 w4 ho5 hb hg_ hnew_; clear hg_ hnew_; (first | rw [← Ny285.out] at ho5 | (simp only [Int.reduceToNat] at ho5; rw [← Ny285.out] at ho5)); have n0_ := Aside0.mk (Kd.R_lower ho5 (below_size (zb_ HB.out))); have n1_ := Aside0.mk (below_step (zb_ HB.out) hb); clear HB; have HO287 := n0_; have HB := n1_; clear n0_ n1_; clear hb ho5) | ((with_reducible refine gate_builtin (b := .append) (xs := #[.tmp 12, .tmp 13]) rfl ?_); at_builtin; refine Kd.R_append_rows (Kd.int .i64) (w0 := w) w.heap.size rfl (.tmp 12) (.tmp 13) 24 3 (.int .i64 0) 8 rfl Try.underlying24 info3 rfl (by decide) (by omega) v286 y285 l1 _ _ _ (fun _ => True) (fun _ => False) rfl rfl ?aO ?aR (fun _ _ h => h) (fun _ h => h.elim) ?aF ?aB ?aS ?aL ?_; (case aR => exact zC_ (Kd.C_below HR1.out HB.out)); (case aB => exact (zb_ HB.out)); (case aF => exact (fun _ _ => trivial)); (case aO => exact (zR_ HO287.out)); (case aS => exact (below_size (zb_ HB.out))); (case aL => have := LMc3.out; omega); intro v289 w6 ho hb hg hat; rw [← Ny288.out] at ho; have n0_ := Aside0.mk (hb); have n1_ := Aside0.mk (ho); clear HB; clear HO287; have HB := n0_; have HO290 := n1_; clear n0_ n1_; clear ho hb hg hat))
  go_loopg [6, 7] k (fun kq v6 v7 w' => ∃ (x6_1 : List Int) (x7_1 : Bool), v7 = .bool x7_1 ∧ Aside0 (spec_l4Propagate.l0 kq l0 x6_1 x7_1 = some (r1, r2)) ∧ Aside0 (kq ≤ k) ∧ Aside0 (Kd.R (Kd.int .i64) 3 w' w.heap.size (fun _ => True) v6 x6_1) ∧ Aside0 (Below w.heap.size w w'))
  case atStart => exact ⟨(y288), (true), (by first | rfl | (simp; done) | (simp [*]; done)), H', ⟨Nat.le_refl _⟩, ⟨zR_ HO290.out⟩, ⟨zb_ HB.out⟩⟩
  case round =>
   clear H'
   try clear c1
   try clear p2
   try clear c3
   obtain ⟨x6_1, x7_1, rfl, HA, HK1, HO_6, HB⟩ := hrel
   cases gk with
   | zero => exact absurd HA.out (by simp [spec_l4Propagate.l0])
   | succ k1 =>
    have H := HA.out
    clear HA
    simp only [spec_l4Propagate.l0] at H
    by_cases c7 : x7_1 = true
    ·subst c7
     have H1 : (spec_l4Propagate.l1 k1 l0 x6_1 false l0 (l0.length : Int) 0) = some (r1, r2) := by rw [if_pos rfl] at H; exact H
     clear H
     have H := H1
     clear H1
     have H' := Aside0.mk H
     clear H
     go_wp2
     go_loopg [6, 7, 18] k1 (fun kq v6 v7 v18 w' => ∃ (x6_2 : List Int) (x7_2 : Bool) (x18_2 : Int), v7 = .bool x7_2 ∧ v18 = .int .i64 x18_2 ∧ Aside0 (spec_l4Propagate.l1 kq l0 x6_2 x7_2 l0 (l0.length : Int) x18_2 = some (r1, r2)) ∧ Aside0 (kq ≤ k1) ∧ Aside0 (Kd.R (Kd.int .i64) 3 w' w.heap.size (fun _ => True) v6 x6_2) ∧ Aside0 (Below w.heap.size w w'))
     case atStart => exact ⟨(x6_1), (false), (0), (by first | rfl | (simp; done) | (simp [*]; done)), (by first | rfl | (simp; done) | (simp [*]; done)), H', ⟨Nat.le_refl _⟩, ⟨zR_ HO_6.out⟩, ⟨zb_ HB.out⟩⟩
     case round =>
      clear H'
      try clear c1
      try clear p2
      try clear c3
      try clear c7
      try clear p2
      obtain ⟨x6_2, x7_2, x18_2, rfl, rfl, HA, HK2, HO_6, HB⟩ := hrel
      cases gk with
      | zero => exact absurd HA.out (by simp [spec_l4Propagate.l1])
      | succ k2 =>
       have H := HA.out
       clear HA
       simp only [spec_l4Propagate.l1] at H
       by_cases c8 : x18_2 < (l0.length : Int)
       ·rw [if_pos c8] at H
        have c8b0 : decide (x18_2 < (l0.length : Int)) = true := decide_eq_true c8
        clear c8
        by_cases c9 : 0 ≤ x18_2
        ·rw [if_pos c9] at H
         have c9b0 : decide (0 ≤ x18_2) = true := decide_eq_true c9
         clear c9
         by_cases c10 : x18_2 < (l0.length : Int)
         ·rw [if_pos c10] at H
          have c10b0 : decide (x18_2 < (l0.length : Int)) = true := decide_eq_true c10
          clear c10
          replace H := Option.bind_eq_some_iff.mp H
          obtain ⟨⟨t292, t293⟩, A110, H⟩ := H
          (try dsimp only at H)
          have A11 := Aside0.mk A110
          clear A110
          by_cases c12 : t293 = true
          ·subst c12
           have H1 : (some (x6_2, true)) = some (r1, r2) := by rw [if_pos rfl] at H; exact H
           clear H
           have H := H1
           clear H1
           simp only [Option.some.injEq, Prod.mk.injEq] at H
           obtain ⟨rfl, rfl⟩ := H
           have p291 : 0 ≤ (x18_2 : Int) := of_decide_eq_true (by first | (with_reducible assumption) | assumption)
           have q291 : x18_2 < (l0.length : Int) := of_decide_eq_true (by first | (with_reducible assumption) | assumption)
           obtain ⟨ad291, A291_0, c291_0, e291, hx291_0, hl291_0, hi291_0⟩ := at_L1 HR0.out x18_2 p291 q291
           cases e291
           replace hx291_0 := (HB.out.cell (World.block_lt_of_cell? w _ hx291_0)).trans hx291_0
           have HR291_0 := Aside0.mk hi291_0
           have HC291_0 := Aside0.mk hl291_0
           clear hi291_0 hl291_0
           replace p291 := eq_true p291
           replace q291 := eq_true q291
           obtain ⟨Ao13, co13, eo13⟩ := Kd.R_slice HO_6.out
           subst eo13
           go_wp2_with (first | ((with_reducible refine gate_callee (f := 109) rfl ?_); refine goesL_ (some 25) rfl rfl Try.func109 (by kernel_rfl) rfl #[.slice A291_0 (rd_L1 l0 x18_2).length c291_0, .slice Ao13 x6_2.length co13] rfl (by (try simp only [List.map_toArray, List.map_cons, List.map_nil]); first | done | rfl | (simp only [List.length_drop, List.length_take]; rfl)) ?_; (with_reducible refine (spec_l4Unit.calls k2 _ _ (rd_L1 l0 x18_2) _ _ x6_2 t292 true _ ?side1 ?side2 ?side3 ?side4 A11.out).mono ?_); (case side1 => exact zC_ (Kd.C_below HR291_0.out HB.out)); (case side2 => exact HC291_0.out); (case side3 => exact zC_ (Kd.R_reads' HO_6.out).2.2); (case side4 => exact (Kd.R_reads' HO_6.out).2.1); rintro e w' ⟨rfl, ⟨nd, rfl⟩⟩; refine ⟨_, rfl, ?_⟩))
           go_ret2
           exact ⟨_, by first | rfl | (simp [errW_none, errW_some] <;> rfl) | (simp [*, errW_none, errW_some] <;> rfl), zR_ HO_6.out, zb_ HB.out⟩
          ·replace c12 := Bool.eq_false_iff.mpr c12
           subst c12
           have H1 : (if t292 = 0 then (spec_l4Propagate.l1 k2 l0 x6_2 x7_2 l0 (l0.length : Int) (wrap64 (x18_2 + 1))) else (if x6_2.length < 17592186044416 then (spec_l4Propagate.l0 k2 l0 (x6_2 ++ [t292]) true) else (none))) = some (r1, r2) := by rw [if_neg (show ¬ (false = true) by decide)] at H; exact H
           clear H
           have H := H1
           clear H1
           by_cases c14 : t292 = 0
           ·rw [if_pos c14] at H
            have c14b0 : (t292 == 0) = true := beq_iff_eq.mpr c14
            have c14b1 : (t292 != 0) = false := bne_eq_false_iff_eq.mpr c14
            clear c14
            have H' := Aside0.mk H
            clear H
            have p291 : 0 ≤ (x18_2 : Int) := of_decide_eq_true (by first | (with_reducible assumption) | assumption)
            have q291 : x18_2 < (l0.length : Int) := of_decide_eq_true (by first | (with_reducible assumption) | assumption)
            obtain ⟨ad291, A291_0, c291_0, e291, hx291_0, hl291_0, hi291_0⟩ := at_L1 HR0.out x18_2 p291 q291
            cases e291
            replace hx291_0 := (HB.out.cell (World.block_lt_of_cell? w _ hx291_0)).trans hx291_0
            have HR291_0 := Aside0.mk hi291_0
            have HC291_0 := Aside0.mk hl291_0
            clear hi291_0 hl291_0
            replace p291 := eq_true p291
            replace q291 := eq_true q291
            obtain ⟨Ao15, co15, eo15⟩ := Kd.R_slice HO_6.out
            subst eo15
            go_wp2_with (first | ((with_reducible refine gate_callee (f := 109) rfl ?_); refine goesL_ (some 25) rfl rfl Try.func109 (by kernel_rfl) rfl #[.slice A291_0 (rd_L1 l0 x18_2).length c291_0, .slice Ao15 x6_2.length co15] rfl (by (try simp only [List.map_toArray, List.map_cons, List.map_nil]); first | done | rfl | (simp only [List.length_drop, List.length_take]; rfl)) ?_; (with_reducible refine (spec_l4Unit.calls k2 _ _ (rd_L1 l0 x18_2) _ _ x6_2 t292 false _ ?side1 ?side2 ?side3 ?side4 A11.out).mono ?_); (case side1 => exact zC_ (Kd.C_below HR291_0.out HB.out)); (case side2 => exact HC291_0.out); (case side3 => exact zC_ (Kd.R_reads' HO_6.out).2.2); (case side4 => exact (Kd.R_reads' HO_6.out).2.1); rintro e w' ⟨rfl, ⟨nd, rfl⟩⟩; refine ⟨_, rfl, ?_⟩))
            go_roundg k2
            case measure => have := HK1.out; have := HK2.out; omega
            case rel => exact ⟨(x6_2), (x7_2), (wrap64 (x18_2 + 1)), (by first | rfl | (simp; done) | (simp [*]; done)), (by first | rfl | (simp; done) | (simp [*]; done)), H', ⟨by have := HK1.out; have := HK2.out; omega⟩, ⟨zR_ HO_6.out⟩, ⟨zb_ HB.out⟩⟩
           ·rw [if_neg c14] at H
            have c14b0 : (t292 == 0) = false := beq_eq_false_iff_ne.mpr c14
            have c14b1 : (t292 != 0) = true := bne_iff_ne.mpr c14
            by_cases c16 : x6_2.length < 17592186044416
            ·rw [if_pos c16] at H
             have LMc16 := Aside0.mk c16
             clear c16
             obtain ⟨y294, hy294⟩ : ∃ y_ : List Int, y_ = (x6_2 ++ [t292]) := ⟨_, rfl⟩
             replace H : (spec_l4Propagate.l0 k2 l0 y294 true) = some (r1, r2) := by first | (rw [hy294]; with_reducible exact H) | (have H2_ := (Option.bind_some _ _).symm.trans H; rw [hy294]; with_reducible exact H2_) | (have H2_ := (Option.bind_some _ _).symm.trans H; with_reducible exact H2_) | with_reducible exact H | (rw [hy294]; exact H) | exact H
             have Ny294 := Aside0.mk hy294
             clear hy294
             have H' := Aside0.mk H
             clear H
             have p291 : 0 ≤ (x18_2 : Int) := of_decide_eq_true (by first | (with_reducible assumption) | assumption)
             have q291 : x18_2 < (l0.length : Int) := of_decide_eq_true (by first | (with_reducible assumption) | assumption)
             obtain ⟨ad291, A291_0, c291_0, e291, hx291_0, hl291_0, hi291_0⟩ := at_L1 HR0.out x18_2 p291 q291
             cases e291
             replace hx291_0 := (HB.out.cell (World.block_lt_of_cell? w _ hx291_0)).trans hx291_0
             have HR291_0 := Aside0.mk hi291_0
             have HC291_0 := Aside0.mk hl291_0
             clear hi291_0 hl291_0
             replace p291 := eq_true p291
             replace q291 := eq_true q291
             obtain ⟨Ao17, co17, eo17⟩ := Kd.R_slice HO_6.out
             subst eo17
             go_wp2_with (first | ((with_reducible refine gate_callee (f := 109) rfl ?_); refine goesL_ (some 25) rfl rfl Try.func109 (by kernel_rfl) rfl #[.slice A291_0 (rd_L1 l0 x18_2).length c291_0, .slice Ao17 x6_2.length co17] rfl (by (try simp only [List.map_toArray, List.map_cons, List.map_nil]); first | done | rfl | (simp only [List.length_drop, List.length_take]; rfl)) ?_; (with_reducible refine (spec_l4Unit.calls k2 _ _ (rd_L1 l0 x18_2) _ _ x6_2 t292 false _ ?side1 ?side2 ?side3 ?side4 A11.out).mono ?_); (case side1 => exact zC_ (Kd.C_below HR291_0.out HB.out)); (case side2 => exact HC291_0.out); (case side3 => exact zC_ (Kd.R_reads' HO_6.out).2.2); (case side4 => exact (Kd.R_reads' HO_6.out).2.1); rintro e w' ⟨rfl, ⟨nd, rfl⟩⟩; refine ⟨_, rfl, ?_⟩) | ((with_reducible refine gate_builtin (b := .append) (xs := #[.tmp 32, .tmp 34]) rfl ?_); at_builtin; refine Kd.R_append (Kd.int .i64) (w0 := w) w.heap.size rfl (.tmp 32) (.tmp 34) 24 3 (.int .i64 0) 8 rfl Try.underlying24 info3 rfl (by decide) (by omega) (.slice Ao17 x6_2.length co17) x6_2 t292 [.int .i64 t292] (fun _ => True) (fun _ => False) rfl rfl ?aP (fun _ hk => hk.elim) ?aF ?aO ?aB ?aS ?aL ?_; (case aP => exact rfl); (case aB => exact (zb_ HB.out)); (case aF => exact (fun _ _ => trivial)); (case aO => exact (zR_ HO_6.out)); (case aS => exact (below_size (zb_ HB.out))); (case aL => have := LMc16.out; omega); intro v295 w18 ho hb hg hat; rw [← Ny294.out] at ho; have n0_ := Aside0.mk (hb); have n1_ := Aside0.mk (ho); clear HB; clear HO_6; have HB := n0_; have HO296 := n1_; clear n0_ n1_; clear ho hb hg hat))
             go_roundg k2
             case measure => have := HK1.out; have := HK2.out; omega
             case rel => exact ⟨(y294), (true), (by first | rfl | (simp; done) | (simp [*]; done)), H', ⟨by have := HK1.out; have := HK2.out; omega⟩, ⟨zR_ HO296.out⟩, ⟨zb_ HB.out⟩⟩
            ·rw [if_neg c16] at H
             exact absurd H (by simp)
         ·rw [if_neg c10] at H
          exact absurd H (by simp)
        ·rw [if_neg c9] at H
         exact absurd H (by simp)
       ·rw [if_neg c8] at H
        have c8b0 : decide (x18_2 < (l0.length : Int)) = false := decide_eq_false c8
        clear c8
        have H' := Aside0.mk H
        clear H
        go_wp2
        go_roundg k2
        case measure => have := HK1.out; have := HK2.out; omega
        case rel => exact ⟨(x6_2), (x7_2), (by first | rfl | (simp; done) | (simp [*]; done)), H', ⟨by have := HK1.out; have := HK2.out; omega⟩, ⟨zR_ HO_6.out⟩, ⟨zb_ HB.out⟩⟩
    ·replace c7 := Bool.eq_false_iff.mpr c7
     subst c7
     have H1 : (some (x6_1, false)) = some (r1, r2) := by rw [if_neg (show ¬ (false = true) by decide)] at H; exact H
     clear H
     have H := H1
     clear H1
     simp only [Option.some.injEq, Prod.mk.injEq] at H
     obtain ⟨rfl, rfl⟩ := H
     go_wp2
     go_ret2
     exact ⟨_, by first | rfl | (simp [errW_none, errW_some] <;> rfl) | (simp [*, errW_none, errW_some] <;> rfl), zR_ HO_6.out, zb_ HB.out⟩
 ·rw [if_neg c3] at H
  exact absurd H (by simp)

/-! ### spec_l5Solve: function 97 -/
def spec_l5Solve.l1 : Nat → List Int → List Bool → Int → Option (List Bool)
 | 0, _, _, _ => none
 | k + 1, y, m, x => if x < (y.length : Int) then (if 0 ≤ x then (if 0 < rd y x then (if rd y x ≤ (m.length : Int) then spec_l5Solve.l1 k y (m.set ((rd y x).toNat - 1) true) (wrap64 (x + 1)) else none) else spec_l5Solve.l1 k y m (wrap64 (x + 1))) else none) else some m
def spec_l5Solve.l0 : Nat → Int → List (List Int) → List (List Int) → List Int → Option (Bool × List Bool × List (List Int) × Bool)
 | 0, _, _, _, _ => none
 | k + 1, v, a, L, D => (spec_l4Propagate.f k a D).bind fun p => (spec_l5First.f k v p.1).bind fun u => if p.2 = true then (if L.length = 300 then some (false, [], [], false) else ((spec_l5Negate.f k D).bind fun c => if L.length < 4398046511104 ∧ a.length < 4398046511104 then (if D.length = 0 then ((spec_l5Copy.f k (L ++ [c])).bind fun z => some (false, [], z, true)) else spec_l5Solve.l0 k v (a ++ [c]) (L ++ [c]) (D.take (D.length - 1))) else none)) else (if 0 < u then (if D.length < 4398046511104 then spec_l5Solve.l0 k v a L (D ++ [u]) else none) else (if 0 ≤ v ∧ v ≤ 4398046511104 then ((spec_l5Solve.l1 k p.1 (List.replicate v.toNat false) 0).bind fun m => (spec_l5Copy.f k L).bind fun z => some (true, m, z, true)) else none))
def spec_l5Solve.f (k : Nat) (a0 : Int) (l1 : List (List Int)) : Option (Bool × List Bool × List (List Int) × Bool) := (spec_l5Copy.f k l1).bind fun a => spec_l5Solve.l0 k a0 a [] []
theorem spec_l5Solve.mono_l1 : ∀ k, (∀ y0 y1 y2, LeO (spec_l5Solve.l1 k y0 y1 y2) (spec_l5Solve.l1 (k + 1) y0 y1 y2))
 | 0 => fun _ _ _ r h => by simp [spec_l5Solve.l1] at h
 | k + 1 => by
  have ih0 := spec_l5Solve.mono_l1 k
  ·intro y0 y1 y2
   unfold spec_l5Solve.l1
   repeat' first
   | (with_reducible exact ih0 _ _ _)
   | (with_reducible exact LeO.refl _)
   | (with_reducible exact LeO.none _)
   | (with_reducible refine LeO.ite ?_ ?_)
   | (with_reducible refine LeO.bind ?_ (fun _ => ?_))
theorem spec_l5Solve.mono_l : ∀ k, (∀ y0 y1 y2 y3, LeO (spec_l5Solve.l0 k y0 y1 y2 y3) (spec_l5Solve.l0 (k + 1) y0 y1 y2 y3))
 | 0 => fun _ _ _ _ r h => by simp [spec_l5Solve.l0] at h
 | k + 1 => by
  have ih0 := spec_l5Solve.mono_l k
  ·intro y0 y1 y2 y3
   unfold spec_l5Solve.l0
   repeat' first
   | (with_reducible exact ih0 _ _ _ _)
   | (with_reducible exact spec_l5Solve.mono_l1 _ _ _ _)
   | (with_reducible exact spec_l4Propagate.mono _ _ _)
   | (with_reducible exact spec_l5First.mono _ _ _)
   | (with_reducible exact spec_l5Negate.mono _ _)
   | (with_reducible exact spec_l5Copy.mono _ _)
   | (with_reducible exact LeO.refl _)
   | (with_reducible exact LeO.none _)
   | (with_reducible refine LeO.ite ?_ ?_)
   | (with_reducible refine LeO.bind ?_ (fun _ => ?_))
theorem spec_l5Solve.mono : ∀ a0 a1 k, LeO (spec_l5Solve.f k a0 a1) (spec_l5Solve.f (k + 1) a0 a1) := by
 intro a0 a1 k
 exact LeO.bind (spec_l5Copy.mono _ _) (fun _ => spec_l5Solve.mono_l k _ _ _ _)
set_option maxHeartbeats 2000000 in
set_option maxRecDepth 100000 in
theorem spec_l5Solve.calls (k : Nat) (a0 : Int) (A1 : Option Addr) (c1 : Nat) (l1 : List (List Int)) (r1 : Bool) (r2 : List Bool) (r3 : List (List Int)) (r4 : Bool) (w : World) (hr1 : Kd.C (Kd.slice 3 (Kd.int .i64)) w A1 l1.length l1) (hc1 : l1.length ≤ c1) (h : spec_l5Solve.f k a0 l1 = some (r1, r2, r3, r4)) :
  Calls Try.prog 97 #[.int .i64 a0, .slice A1 l1.length c1] w fun e w' => ∃ v1_ v2_ : Value, e = .returned (.tuple #[.bool r1, v1_, v2_, .bool r4]) ∧ Kd.R Kd.bool 4 w' w.heap.size (fun _ => True) v1_ r2 ∧ Kd.S (Kd.slice 3 (Kd.int .i64)) 24 w' w.heap.size (fun _ => True) v2_ r3 ∧ Below w.heap.size w w' := by
 have HR1 := Aside0.mk hr1
 have HC1 := Aside0.mk hc1
 clear hr1 hc1
 have HB := Aside0.mk (Below.refl w.heap.size w)
 unfold spec_l5Solve.f at h
 replace h := Option.bind_eq_some_iff.mp h
 obtain ⟨b0, A0', h⟩ := h
 have G0 := Aside0.mk A0'
 have H' := Aside0.mk h
 clear h A0'
 go_enter Try.func97, Try.ntmps97
 go_wp2_with (go_at_call 72; (with_reducible refine (spec_l5Copy.calls k _ _ l1 b0 _ ?side1 ?side2 G0.out).mono ?_); (case side1 => exact zC_ HR1.out); (case side2 => exact HC1.out); rintro e w4 ⟨v4, rfl, ho, hb⟩; have n1_ := Aside0.mk (Kd.R_apart_nil (Kd.R_lower (Kd.S_R ho) (below_size (zb_ HB.out)))); have n0_ := Aside0.mk (below_step (zb_ HB.out) hb); clear HB; have HB := n0_; have HO4 := n1_; clear n0_ n1_ ho hb)
 go_loopg [8, 9, 10] k (fun kq v8 v9 v10 w' => ∃ (a : List (List Int)) (L : List (List Int)) (D : List Int), Aside0 (spec_l5Solve.l0 kq a0 a L D = some (r1, r2, r3, r4)) ∧ Aside0 (kq ≤ k) ∧ Aside0 (Kd.R (Kd.slice 3 (Kd.int .i64)) 24 w' w.heap.size (fun k_ => True ∧ some k_ ≠ v9.ownBlock) v8 a) ∧ Aside0 (Kd.R (Kd.slice 3 (Kd.int .i64)) 24 w' w.heap.size (fun k_ => True ∧ some k_ ≠ v8.ownBlock) v9 L) ∧ Aside0 (Kd.R (Kd.int .i64) 3 w' w.heap.size (fun _ => True) v10 D) ∧ Aside0 (Below w.heap.size w w'))
 case atStart => exact ⟨b0, [], [], H', ⟨Nat.le_refl _⟩, ⟨zR_ HO4.out⟩, ⟨Kd.R_nil _ _ _ _ _⟩, ⟨Kd.R_nil _ _ _ _ _⟩, ⟨zb_ HB.out⟩⟩
 case round =>
  clear H' HB HO4
  obtain ⟨a, L, D, HA, HK, HOA, HOL, HOD, HB⟩ := hrel
  obtain ⟨Ad, cd, ed⟩ := Kd.R_slice HOD.out
  subst ed
  obtain ⟨Al, cl, el⟩ := Kd.R_slice HOL.out
  subst el
  obtain ⟨Aa, ca, ea⟩ := Kd.R_slice HOA.out
  subst ea
  cases gk with
  | zero => exact absurd HA.out (by simp [spec_l5Solve.l0])
  | succ k1 =>
   have h := HA.out
   clear HA
   simp only [spec_l5Solve.l0] at h
   replace h := Option.bind_eq_some_iff.mp h
   obtain ⟨⟨p1, p2⟩, A1', h⟩ := h
   have G1 := Aside0.mk A1'
   replace h := Option.bind_eq_some_iff.mp h
   obtain ⟨u, A2', h⟩ := h
   have G2 := Aside0.mk A2'
   clear A1' A2'
   cases p2 with
   | true =>
    replace h : (if L.length = 300 then some (false, [], [], false) else ((spec_l5Negate.f k1 D).bind fun c => if L.length < 4398046511104 ∧ a.length < 4398046511104 then (if D.length = 0 then ((spec_l5Copy.f k1 (L ++ [c])).bind fun z => some (false, [], z, true)) else spec_l5Solve.l0 k1 a0 (a ++ [c]) (L ++ [c]) (D.take (D.length - 1))) else none)) = some (r1, r2, r3, r4) := h
    by_cases c3 : L.length = 300
    ·rw [if_pos c3] at h
     obtain ⟨rfl, rfl, rfl, rfl⟩ : false = r1 ∧ [] = r2 ∧ [] = r3 ∧ false = r4 := by simpa using h
     have d1 : ((L.length : Int) == 300) = true := by rw [c3]; rfl
     have HC3 := Aside0.mk c3
     clear h c3
     go_wp2_with (first | (go_at_call 78; (with_reducible refine (spec_l4Propagate.calls k1 _ _ a _ _ D p1 _ _ ?side1 ?side2 ?side3 ?side4 G1.out).mono ?_); (case side1 => exact zC_ (Kd.R_reads' HOA.out).2.2); (case side2 => exact (Kd.R_reads' HOA.out).2.1); (case side3 => exact zC_ (Kd.R_reads' HOD.out).2.2); (case side4 => exact (Kd.R_reads' HOD.out).2.1); rintro e w6 ⟨v6, rfl, ho, hb⟩; have HOP := Aside0.mk (Kd.R_lower ho (below_size (zb_ HB.out))); obtain ⟨Ap, cp, ep⟩ := Kd.R_slice HOP.out; subst ep; have mHOD_ := Aside0.mk (Kd.R_below (zR_ HOD.out : Kd.R (Kd.int .i64) 3 _ w.heap.size (fun _ => True) (.slice Ad D.length cd) D) hb); have mHOL_ := Aside0.mk (Kd.R_below (zR_ HOL.out : Kd.R (Kd.slice 3 (Kd.int .i64)) 24 _ w.heap.size (fun k_ => True ∧ some k_ ≠ (.slice Aa a.length ca : Value).ownBlock) (.slice Al L.length cl) L) hb); have mHOA_ := Aside0.mk (Kd.R_below (zR_ HOA.out : Kd.R (Kd.slice 3 (Kd.int .i64)) 24 _ w.heap.size (fun k_ => True ∧ some k_ ≠ (.slice Al L.length cl : Value).ownBlock) (.slice Aa a.length ca) a) hb); have mHB_ := Aside0.mk (below_step (zb_ HB.out) hb); clear HOD HOL HOA HB; have HOD := mHOD_; have HOL := mHOL_; have HOA := mHOA_; have HB := mHB_; clear mHOD_ mHOL_ mHOA_ mHB_; clear ho hb) | (go_at_call 64; (with_reducible refine (spec_l5First.calls k1 a0 _ _ p1 u _ ?side1 ?side2 G2.out).mono ?_); (case side1 => exact zC_ (Kd.R_reads' HOP.out).2.2); (case side2 => exact (Kd.R_reads' HOP.out).2.1); rintro e w7 ⟨rfl, hd⟩; have hb := Drawn0.below hd; have mHOP_ := Aside0.mk (Kd.R_below (zR_ HOP.out : Kd.R (Kd.int .i64) 3 _ w.heap.size (fun _ => True) (.slice Ap p1.length cp) p1) hb); have mHOD_ := Aside0.mk (Kd.R_below (zR_ HOD.out : Kd.R (Kd.int .i64) 3 _ w.heap.size (fun _ => True) (.slice Ad D.length cd) D) hb); have mHOL_ := Aside0.mk (Kd.R_below (zR_ HOL.out : Kd.R (Kd.slice 3 (Kd.int .i64)) 24 _ w.heap.size (fun k_ => True ∧ some k_ ≠ (.slice Aa a.length ca : Value).ownBlock) (.slice Al L.length cl) L) hb); have mHOA_ := Aside0.mk (Kd.R_below (zR_ HOA.out : Kd.R (Kd.slice 3 (Kd.int .i64)) 24 _ w.heap.size (fun k_ => True ∧ some k_ ≠ (.slice Al L.length cl : Value).ownBlock) (.slice Aa a.length ca) a) hb); have mHB_ := Aside0.mk (below_step (zb_ HB.out) hb); clear HOP HOD HOL HOA HB; have HOP := mHOP_; have HOD := mHOD_; have HOL := mHOL_; have HOA := mHOA_; have HB := mHB_; clear mHOP_ mHOD_ mHOL_ mHOA_ mHB_; have HS7 := Aside0.mk (Below.refl w7.heap.size w7); clear hb hd))
     (try simp only [Exit.inBlock, Exit.then])
     refine bodyPost_ret (results_tmp4_ rfl _ _ _) rfl ?_
     exact ⟨_, _, by first | rfl | simp, Kd.R_nil _ _ _ _ _, Kd.S_nil _ _ _ _ _, zb_ HB.out⟩
    ·rw [if_neg c3] at h
     have d1 : ((L.length : Int) == 300) = false := beq_eq_false_iff_ne.2 (by omega)
     clear c3
     replace h := Option.bind_eq_some_iff.mp h
     obtain ⟨c, A3', h⟩ := h
     have G3 := Aside0.mk A3'
     clear A3'
     by_cases c4 : L.length < 4398046511104 ∧ a.length < 4398046511104
     ·rw [if_pos c4] at h
      have LMA := Aside0.mk c4
      obtain ⟨y8, hy8⟩ : ∃ y_, y_ = L ++ [c] := ⟨_, rfl⟩
      obtain ⟨y9, hy9⟩ : ∃ y_, y_ = a ++ [c] := ⟨_, rfl⟩
      rw [← hy8, ← hy9] at h
      have NY8 := Aside0.mk hy8
      have NY9 := Aside0.mk hy9
      clear c4 hy8 hy9
      by_cases c5 : D.length = 0
      ·rw [if_pos c5] at h
       replace h := Option.bind_eq_some_iff.mp h
       obtain ⟨z, A4', h⟩ := h
       have G4 := Aside0.mk A4'
       obtain ⟨rfl, rfl, rfl, rfl⟩ : false = r1 ∧ [] = r2 ∧ z = r3 ∧ true = r4 := by simpa using h
       have HD0 := Aside0.mk (show D = [] from List.eq_nil_of_length_eq_zero c5)
       have d3 : ((D.length : Int) == 0) = true := by simp [c5]
       have d4 : (D.length == 0) = true := by simp [c5]
       have d5 := eq_true (show D = [] from HD0.out)
       clear h c5 A4'
       go_wp2_with (first | (go_at_call 78; (with_reducible refine (spec_l4Propagate.calls k1 _ _ a _ _ D p1 _ _ ?side1 ?side2 ?side3 ?side4 G1.out).mono ?_); (case side1 => exact zC_ (Kd.R_reads' HOA.out).2.2); (case side2 => exact (Kd.R_reads' HOA.out).2.1); (case side3 => exact zC_ (Kd.R_reads' HOD.out).2.2); (case side4 => exact (Kd.R_reads' HOD.out).2.1); rintro e w6 ⟨v6, rfl, ho, hb⟩; have HOP := Aside0.mk (Kd.R_lower ho (below_size (zb_ HB.out))); obtain ⟨Ap, cp, ep⟩ := Kd.R_slice HOP.out; subst ep; have mHOD_ := Aside0.mk (Kd.R_below (zR_ HOD.out : Kd.R (Kd.int .i64) 3 _ w.heap.size (fun _ => True) (.slice Ad D.length cd) D) hb); have mHOL_ := Aside0.mk (Kd.R_below (zR_ HOL.out : Kd.R (Kd.slice 3 (Kd.int .i64)) 24 _ w.heap.size (fun k_ => True ∧ some k_ ≠ (.slice Aa a.length ca : Value).ownBlock) (.slice Al L.length cl) L) hb); have mHOA_ := Aside0.mk (Kd.R_below (zR_ HOA.out : Kd.R (Kd.slice 3 (Kd.int .i64)) 24 _ w.heap.size (fun k_ => True ∧ some k_ ≠ (.slice Al L.length cl : Value).ownBlock) (.slice Aa a.length ca) a) hb); have mHB_ := Aside0.mk (below_step (zb_ HB.out) hb); clear HOD HOL HOA HB; have HOD := mHOD_; have HOL := mHOL_; have HOA := mHOA_; have HB := mHB_; clear mHOD_ mHOL_ mHOA_ mHB_; clear ho hb) | (go_at_call 64; (with_reducible refine (spec_l5First.calls k1 a0 _ _ p1 u _ ?side1 ?side2 G2.out).mono ?_); (case side1 => exact zC_ (Kd.R_reads' HOP.out).2.2); (case side2 => exact (Kd.R_reads' HOP.out).2.1); rintro e w7 ⟨rfl, hd⟩; have hb := Drawn0.below hd; have mHOP_ := Aside0.mk (Kd.R_below (zR_ HOP.out : Kd.R (Kd.int .i64) 3 _ w.heap.size (fun _ => True) (.slice Ap p1.length cp) p1) hb); have mHOD_ := Aside0.mk (Kd.R_below (zR_ HOD.out : Kd.R (Kd.int .i64) 3 _ w.heap.size (fun _ => True) (.slice Ad D.length cd) D) hb); have mHOL_ := Aside0.mk (Kd.R_below (zR_ HOL.out : Kd.R (Kd.slice 3 (Kd.int .i64)) 24 _ w.heap.size (fun k_ => True ∧ some k_ ≠ (.slice Aa a.length ca : Value).ownBlock) (.slice Al L.length cl) L) hb); have mHOA_ := Aside0.mk (Kd.R_below (zR_ HOA.out : Kd.R (Kd.slice 3 (Kd.int .i64)) 24 _ w.heap.size (fun k_ => True ∧ some k_ ≠ (.slice Al L.length cl : Value).ownBlock) (.slice Aa a.length ca) a) hb); have mHB_ := Aside0.mk (below_step (zb_ HB.out) hb); clear HOP HOD HOL HOA HB; have HOP := mHOP_; have HOD := mHOD_; have HOL := mHOL_; have HOA := mHOA_; have HB := mHB_; clear mHOP_ mHOD_ mHOL_ mHOA_ mHB_; have HS7 := Aside0.mk (Below.refl w7.heap.size w7); clear hb hd) | (go_at_call 61; (with_reducible refine (spec_l5Negate.calls k1 _ _ D c _ ?side1 ?side2 G3.out).mono ?_); (case side1 => exact zC_ (Kd.R_reads' HOD.out).2.2); (case side2 => exact (Kd.R_reads' HOD.out).2.1); rintro e w8 ⟨v8, rfl, ho, hb⟩; have HO7 := Aside0.mk (Kd.R_lower ho (below_size (zb_ HB.out))); obtain ⟨A7, c7, e7⟩ := Kd.R_slice HO7.out; subst e7; have mHOD_ := Aside0.mk (Kd.R_below (zR_ HOD.out : Kd.R (Kd.int .i64) 3 _ w.heap.size (fun _ => True) (.slice Ad D.length cd) D) hb); have mHOL_ := Aside0.mk (Kd.R_below (zR_ HOL.out : Kd.R (Kd.slice 3 (Kd.int .i64)) 24 _ w.heap.size (fun k_ => True ∧ some k_ ≠ (.slice Aa a.length ca : Value).ownBlock) (.slice Al L.length cl) L) hb); have mHOA_ := Aside0.mk (Kd.R_below (zR_ HOA.out : Kd.R (Kd.slice 3 (Kd.int .i64)) 24 _ w.heap.size (fun k_ => True ∧ some k_ ≠ (.slice Al L.length cl : Value).ownBlock) (.slice Aa a.length ca) a) hb); have mHB_ := Aside0.mk (below_step (zb_ HB.out) hb); clear HOD HOL HOA HB; have HOD := mHOD_; have HOL := mHOL_; have HOA := mHOA_; have HB := mHB_; clear mHOD_ mHOL_ mHOA_ mHB_; clear ho hb) | ((with_reducible refine gate_builtin (b := .append) (xs := #[.tmp 58, .tmp 60]) rfl ?_); at_builtin; refine Kd.R_append (Kd.slice 3 (Kd.int .i64)) (w0 := w) w.heap.size rfl (.tmp 58) (.tmp 60) 23 24 (.slice none 0 0) 24 rfl Try.underlying23 info24 rfl (by decide) (by omega) (.slice Al L.length cl) L c [.slice A7 c.length c7] (fun k_ => True ∧ some k_ ≠ (.slice Aa a.length ca : Value).ownBlock) (fun k_ => some k_ = (.slice A7 c.length c7 : Value).ownBlock) rfl rfl ?aP ?aK ?aF ?aO ?aB ?aS ?aL ?_; (case aP => exact Kd.M_row (Kd.R_tight rfl (zR_ HO7.out : Kd.R (Kd.int .i64) 3 _ w.heap.size (fun _ => True) (.slice A7 c.length c7) c))); (case aK => exact fun k_ hk_ => ⟨⟨trivial, typed_ne_ (Kd.R_typed HO7.out) (Kd.R_typed HOA.out) (by decide) k_ hk_⟩, typed_ne_ (Kd.R_typed HO7.out) (Kd.R_typed HOL.out) (by decide) k_ hk_⟩); (case aF => exact fun k_ hk_ => ⟨trivial, fun e_ => Nat.lt_irrefl _ (Nat.lt_of_lt_of_le (Kd.R_lt HOA.out k_ e_.symm) hk_)⟩); (case aO => exact (zR_ HOL.out)); (case aB => exact (zb_ HB.out)); (case aS => exact (below_size (zb_ HB.out))); (case aL => have := LMA.out; omega); intro v8 w8 ho hb hg hat; rw [← NY8.out] at ho; have n1_ := Aside0.mk (Kd.R_over' (zR_ HOD.out : Kd.R (Kd.int .i64) 3 _ w.heap.size (fun _ => True) (.slice Ad D.length cd) D) (Kd.R_typed (zR_ HOL.out : Kd.R (Kd.slice 3 (Kd.int .i64)) 24 _ w.heap.size (fun k_ => True ∧ some k_ ≠ (.slice Aa a.length ca : Value).ownBlock) (.slice Al L.length cl) L)) (by decide) hg); have n2_ := Aside0.mk ho; have n3_ := Aside0.mk hb; have n4_ := Aside0.mk (Kd.R_after (zR_ HOA.out : Kd.R (Kd.slice 3 (Kd.int .i64)) 24 _ w.heap.size (fun k_ => True ∧ some k_ ≠ (.slice Al L.length cl : Value).ownBlock) (.slice Aa a.length ca) a) hg hat); have n5_ := Aside0.mk (Kd.R_over' (zR_ HO7.out : Kd.R (Kd.int .i64) 3 _ w.heap.size (fun _ => True) (.slice A7 c.length c7) c) (Kd.R_typed (zR_ HOL.out : Kd.R (Kd.slice 3 (Kd.int .i64)) 24 _ w.heap.size (fun k_ => True ∧ some k_ ≠ (.slice Aa a.length ca : Value).ownBlock) (.slice Al L.length cl) L)) (by decide) hg); clear HB HOD HOL HOA HO7; have HOD := n1_; have HB := n3_; have HO7 := n5_; obtain ⟨A8, c8, e8⟩ := Kd.R_slice n2_.out; subst e8; have HOL8 := n2_; have HOA := n4_; clear n1_ n2_ n3_ n4_ n5_ ho hb hg hat) | ((with_reducible refine gate_builtin (b := .append) (xs := #[.tmp 62, .tmp 64]) rfl ?_); at_builtin; refine Kd.R_append (Kd.slice 3 (Kd.int .i64)) (w0 := w) w.heap.size rfl (.tmp 62) (.tmp 64) 23 24 (.slice none 0 0) 24 rfl Try.underlying23 info24 rfl (by decide) (by omega) (.slice Aa a.length ca) a c [.slice A7 c.length c7] (fun k_ => True ∧ some k_ ≠ (.slice A8 y8.length c8 : Value).ownBlock) (fun k_ => some k_ = (.slice A7 c.length c7 : Value).ownBlock) rfl rfl ?aP ?aK ?aF ?aO ?aB ?aS ?aL ?_; (case aP => exact Kd.M_row (Kd.R_tight rfl (zR_ HO7.out : Kd.R (Kd.int .i64) 3 _ w.heap.size (fun _ => True) (.slice A7 c.length c7) c))); (case aK => exact fun k_ hk_ => ⟨⟨trivial, typed_ne_ (Kd.R_typed HO7.out) (Kd.R_typed HOL8.out) (by decide) k_ hk_⟩, typed_ne_ (Kd.R_typed HO7.out) (Kd.R_typed HOA.out) (by decide) k_ hk_⟩); (case aF => exact fun k_ hk_ => ⟨trivial, fun e_ => Nat.lt_irrefl _ (Nat.lt_of_lt_of_le (Kd.R_lt HOL8.out k_ e_.symm) hk_)⟩); (case aO => exact (zR_ HOA.out)); (case aB => exact (zb_ HB.out)); (case aS => exact (below_size (zb_ HB.out))); (case aL => have := LMA.out; omega); intro v8 w8 ho hb hg hat; rw [← NY9.out] at ho; have n1_ := Aside0.mk (Kd.R_over' (zR_ HOD.out : Kd.R (Kd.int .i64) 3 _ w.heap.size (fun _ => True) (.slice Ad D.length cd) D) (Kd.R_typed (zR_ HOA.out : Kd.R (Kd.slice 3 (Kd.int .i64)) 24 _ w.heap.size (fun k_ => True ∧ some k_ ≠ (.slice A8 y8.length c8 : Value).ownBlock) (.slice Aa a.length ca) a)) (by decide) hg); have n2_ := Aside0.mk ho; have n3_ := Aside0.mk hb; have n4_ := Aside0.mk (Kd.R_after (zR_ HOL8.out : Kd.R (Kd.slice 3 (Kd.int .i64)) 24 _ w.heap.size (fun k_ => True ∧ some k_ ≠ (.slice Aa a.length ca : Value).ownBlock) (.slice A8 y8.length c8) y8) hg hat); have n5_ := Aside0.mk (Kd.R_over' (zR_ HO7.out : Kd.R (Kd.int .i64) 3 _ w.heap.size (fun _ => True) (.slice A7 c.length c7) c) (Kd.R_typed (zR_ HOA.out : Kd.R (Kd.slice 3 (Kd.int .i64)) 24 _ w.heap.size (fun k_ => True ∧ some k_ ≠ (.slice A8 y8.length c8 : Value).ownBlock) (.slice Aa a.length ca) a)) (by decide) hg); clear HB HOD HOA HOL8 HO7; have HOD := n1_; have HB := n3_; have HO7 := n5_; obtain ⟨A9, c9, e8⟩ := Kd.R_slice n2_.out; subst e8; have HOA9 := n2_; have HOL8 := n4_; clear n1_ n2_ n3_ n4_ n5_ ho hb hg hat) | (go_at_call 72; (with_reducible refine (spec_l5Copy.calls k1 _ _ y8 z _ ?side1 ?side2 G4.out).mono ?_); (case side1 => exact zC_ (Kd.R_reads' HOL8.out).2.2); (case side2 => exact (Kd.R_reads' HOL8.out).2.1); rintro e w10 ⟨v10, rfl, ho, hb⟩; have HOZ := Aside0.mk (Kd.S_lower ho (below_size (zb_ HB.out))); have n0_ := Aside0.mk (below_step (zb_ HB.out) hb); clear HB; have HB := n0_; clear n0_ ho hb))
       (try simp only [Exit.inBlock, Exit.then])
       refine bodyPost_ret (results_tmp4_ rfl _ _ _) rfl ?_
       exact ⟨_, _, by first | rfl | simp, Kd.R_nil _ _ _ _ _, zS_ HOZ.out, zb_ HB.out⟩
      ·rw [if_neg c5] at h
       have H' := Aside0.mk h
       have HDL := Aside0.mk (show D.length - 1 ≤ D.length by omega)
       have d3 : ((D.length : Int) == 0) = false := beq_eq_false_iff_ne.2 (by omega)
       have d4 : (D.length == 0) = false := beq_eq_false_iff_ne.2 (by omega)
       have d5 := eq_false (show ¬ D.length = 0 from c5)
       have d6 : 1 ≤ (D.length : Int) := by omega
       have d7 : (D.length : Int) ≤ 9223372036854775807 := by have := (Kd.R_reads' HOD.out).2.2.2.1; omega
       have d8 := eq_true (show (0 : Int) ≤ (D.length : Int) - 1 by omega)
       have d9 := eq_true (show (D.length : Int) - 1 ≤ (cd : Int) by have := (Kd.R_reads' HOD.out).2.1; omega)
       have d10 := eq_true (show (D.length : Int) ≤ (cd : Int) + 1 by have := (Kd.R_reads' HOD.out).2.1; omega)
       have d11 := eq_true (show D.length - 1 ≤ cd by have := (Kd.R_reads' HOD.out).2.1; omega)
       have d12 := eq_false (show ¬ D = [] by intro e; apply c5; rw [e]; rfl)
       clear h c5
       go_wp2_with (first | (go_at_call 78; (with_reducible refine (spec_l4Propagate.calls k1 _ _ a _ _ D p1 _ _ ?side1 ?side2 ?side3 ?side4 G1.out).mono ?_); (case side1 => exact zC_ (Kd.R_reads' HOA.out).2.2); (case side2 => exact (Kd.R_reads' HOA.out).2.1); (case side3 => exact zC_ (Kd.R_reads' HOD.out).2.2); (case side4 => exact (Kd.R_reads' HOD.out).2.1); rintro e w6 ⟨v6, rfl, ho, hb⟩; have HOP := Aside0.mk (Kd.R_lower ho (below_size (zb_ HB.out))); obtain ⟨Ap, cp, ep⟩ := Kd.R_slice HOP.out; subst ep; have mHOD_ := Aside0.mk (Kd.R_below (zR_ HOD.out : Kd.R (Kd.int .i64) 3 _ w.heap.size (fun _ => True) (.slice Ad D.length cd) D) hb); have mHOL_ := Aside0.mk (Kd.R_below (zR_ HOL.out : Kd.R (Kd.slice 3 (Kd.int .i64)) 24 _ w.heap.size (fun k_ => True ∧ some k_ ≠ (.slice Aa a.length ca : Value).ownBlock) (.slice Al L.length cl) L) hb); have mHOA_ := Aside0.mk (Kd.R_below (zR_ HOA.out : Kd.R (Kd.slice 3 (Kd.int .i64)) 24 _ w.heap.size (fun k_ => True ∧ some k_ ≠ (.slice Al L.length cl : Value).ownBlock) (.slice Aa a.length ca) a) hb); have mHB_ := Aside0.mk (below_step (zb_ HB.out) hb); clear HOD HOL HOA HB; have HOD := mHOD_; have HOL := mHOL_; have HOA := mHOA_; have HB := mHB_; clear mHOD_ mHOL_ mHOA_ mHB_; clear ho hb) | (go_at_call 64; (with_reducible refine (spec_l5First.calls k1 a0 _ _ p1 u _ ?side1 ?side2 G2.out).mono ?_); (case side1 => exact zC_ (Kd.R_reads' HOP.out).2.2); (case side2 => exact (Kd.R_reads' HOP.out).2.1); rintro e w7 ⟨rfl, hd⟩; have hb := Drawn0.below hd; have mHOP_ := Aside0.mk (Kd.R_below (zR_ HOP.out : Kd.R (Kd.int .i64) 3 _ w.heap.size (fun _ => True) (.slice Ap p1.length cp) p1) hb); have mHOD_ := Aside0.mk (Kd.R_below (zR_ HOD.out : Kd.R (Kd.int .i64) 3 _ w.heap.size (fun _ => True) (.slice Ad D.length cd) D) hb); have mHOL_ := Aside0.mk (Kd.R_below (zR_ HOL.out : Kd.R (Kd.slice 3 (Kd.int .i64)) 24 _ w.heap.size (fun k_ => True ∧ some k_ ≠ (.slice Aa a.length ca : Value).ownBlock) (.slice Al L.length cl) L) hb); have mHOA_ := Aside0.mk (Kd.R_below (zR_ HOA.out : Kd.R (Kd.slice 3 (Kd.int .i64)) 24 _ w.heap.size (fun k_ => True ∧ some k_ ≠ (.slice Al L.length cl : Value).ownBlock) (.slice Aa a.length ca) a) hb); have mHB_ := Aside0.mk (below_step (zb_ HB.out) hb); clear HOP HOD HOL HOA HB; have HOP := mHOP_; have HOD := mHOD_; have HOL := mHOL_; have HOA := mHOA_; have HB := mHB_; clear mHOP_ mHOD_ mHOL_ mHOA_ mHB_; have HS7 := Aside0.mk (Below.refl w7.heap.size w7); clear hb hd) | (go_at_call 61; (with_reducible refine (spec_l5Negate.calls k1 _ _ D c _ ?side1 ?side2 G3.out).mono ?_); (case side1 => exact zC_ (Kd.R_reads' HOD.out).2.2); (case side2 => exact (Kd.R_reads' HOD.out).2.1); rintro e w8 ⟨v8, rfl, ho, hb⟩; have HO7 := Aside0.mk (Kd.R_lower ho (below_size (zb_ HB.out))); obtain ⟨A7, c7, e7⟩ := Kd.R_slice HO7.out; subst e7; have mHOD_ := Aside0.mk (Kd.R_below (zR_ HOD.out : Kd.R (Kd.int .i64) 3 _ w.heap.size (fun _ => True) (.slice Ad D.length cd) D) hb); have mHOL_ := Aside0.mk (Kd.R_below (zR_ HOL.out : Kd.R (Kd.slice 3 (Kd.int .i64)) 24 _ w.heap.size (fun k_ => True ∧ some k_ ≠ (.slice Aa a.length ca : Value).ownBlock) (.slice Al L.length cl) L) hb); have mHOA_ := Aside0.mk (Kd.R_below (zR_ HOA.out : Kd.R (Kd.slice 3 (Kd.int .i64)) 24 _ w.heap.size (fun k_ => True ∧ some k_ ≠ (.slice Al L.length cl : Value).ownBlock) (.slice Aa a.length ca) a) hb); have mHB_ := Aside0.mk (below_step (zb_ HB.out) hb); clear HOD HOL HOA HB; have HOD := mHOD_; have HOL := mHOL_; have HOA := mHOA_; have HB := mHB_; clear mHOD_ mHOL_ mHOA_ mHB_; clear ho hb) | ((with_reducible refine gate_builtin (b := .append) (xs := #[.tmp 58, .tmp 60]) rfl ?_); at_builtin; refine Kd.R_append (Kd.slice 3 (Kd.int .i64)) (w0 := w) w.heap.size rfl (.tmp 58) (.tmp 60) 23 24 (.slice none 0 0) 24 rfl Try.underlying23 info24 rfl (by decide) (by omega) (.slice Al L.length cl) L c [.slice A7 c.length c7] (fun k_ => True ∧ some k_ ≠ (.slice Aa a.length ca : Value).ownBlock) (fun k_ => some k_ = (.slice A7 c.length c7 : Value).ownBlock) rfl rfl ?aP ?aK ?aF ?aO ?aB ?aS ?aL ?_; (case aP => exact Kd.M_row (Kd.R_tight rfl (zR_ HO7.out : Kd.R (Kd.int .i64) 3 _ w.heap.size (fun _ => True) (.slice A7 c.length c7) c))); (case aK => exact fun k_ hk_ => ⟨⟨trivial, typed_ne_ (Kd.R_typed HO7.out) (Kd.R_typed HOA.out) (by decide) k_ hk_⟩, typed_ne_ (Kd.R_typed HO7.out) (Kd.R_typed HOL.out) (by decide) k_ hk_⟩); (case aF => exact fun k_ hk_ => ⟨trivial, fun e_ => Nat.lt_irrefl _ (Nat.lt_of_lt_of_le (Kd.R_lt HOA.out k_ e_.symm) hk_)⟩); (case aO => exact (zR_ HOL.out)); (case aB => exact (zb_ HB.out)); (case aS => exact (below_size (zb_ HB.out))); (case aL => have := LMA.out; omega); intro v8 w8 ho hb hg hat; rw [← NY8.out] at ho; have n1_ := Aside0.mk (Kd.R_over' (zR_ HOD.out : Kd.R (Kd.int .i64) 3 _ w.heap.size (fun _ => True) (.slice Ad D.length cd) D) (Kd.R_typed (zR_ HOL.out : Kd.R (Kd.slice 3 (Kd.int .i64)) 24 _ w.heap.size (fun k_ => True ∧ some k_ ≠ (.slice Aa a.length ca : Value).ownBlock) (.slice Al L.length cl) L)) (by decide) hg); have n2_ := Aside0.mk ho; have n3_ := Aside0.mk hb; have n4_ := Aside0.mk (Kd.R_after (zR_ HOA.out : Kd.R (Kd.slice 3 (Kd.int .i64)) 24 _ w.heap.size (fun k_ => True ∧ some k_ ≠ (.slice Al L.length cl : Value).ownBlock) (.slice Aa a.length ca) a) hg hat); have n5_ := Aside0.mk (Kd.R_over' (zR_ HO7.out : Kd.R (Kd.int .i64) 3 _ w.heap.size (fun _ => True) (.slice A7 c.length c7) c) (Kd.R_typed (zR_ HOL.out : Kd.R (Kd.slice 3 (Kd.int .i64)) 24 _ w.heap.size (fun k_ => True ∧ some k_ ≠ (.slice Aa a.length ca : Value).ownBlock) (.slice Al L.length cl) L)) (by decide) hg); clear HB HOD HOL HOA HO7; have HOD := n1_; have HB := n3_; have HO7 := n5_; obtain ⟨A8, c8, e8⟩ := Kd.R_slice n2_.out; subst e8; have HOL8 := n2_; have HOA := n4_; clear n1_ n2_ n3_ n4_ n5_ ho hb hg hat) | ((with_reducible refine gate_builtin (b := .append) (xs := #[.tmp 62, .tmp 64]) rfl ?_); at_builtin; refine Kd.R_append (Kd.slice 3 (Kd.int .i64)) (w0 := w) w.heap.size rfl (.tmp 62) (.tmp 64) 23 24 (.slice none 0 0) 24 rfl Try.underlying23 info24 rfl (by decide) (by omega) (.slice Aa a.length ca) a c [.slice A7 c.length c7] (fun k_ => True ∧ some k_ ≠ (.slice A8 y8.length c8 : Value).ownBlock) (fun k_ => some k_ = (.slice A7 c.length c7 : Value).ownBlock) rfl rfl ?aP ?aK ?aF ?aO ?aB ?aS ?aL ?_; (case aP => exact Kd.M_row (Kd.R_tight rfl (zR_ HO7.out : Kd.R (Kd.int .i64) 3 _ w.heap.size (fun _ => True) (.slice A7 c.length c7) c))); (case aK => exact fun k_ hk_ => ⟨⟨trivial, typed_ne_ (Kd.R_typed HO7.out) (Kd.R_typed HOL8.out) (by decide) k_ hk_⟩, typed_ne_ (Kd.R_typed HO7.out) (Kd.R_typed HOA.out) (by decide) k_ hk_⟩); (case aF => exact fun k_ hk_ => ⟨trivial, fun e_ => Nat.lt_irrefl _ (Nat.lt_of_lt_of_le (Kd.R_lt HOL8.out k_ e_.symm) hk_)⟩); (case aO => exact (zR_ HOA.out)); (case aB => exact (zb_ HB.out)); (case aS => exact (below_size (zb_ HB.out))); (case aL => have := LMA.out; omega); intro v8 w8 ho hb hg hat; rw [← NY9.out] at ho; have n1_ := Aside0.mk (Kd.R_over' (zR_ HOD.out : Kd.R (Kd.int .i64) 3 _ w.heap.size (fun _ => True) (.slice Ad D.length cd) D) (Kd.R_typed (zR_ HOA.out : Kd.R (Kd.slice 3 (Kd.int .i64)) 24 _ w.heap.size (fun k_ => True ∧ some k_ ≠ (.slice A8 y8.length c8 : Value).ownBlock) (.slice Aa a.length ca) a)) (by decide) hg); have n2_ := Aside0.mk ho; have n3_ := Aside0.mk hb; have n4_ := Aside0.mk (Kd.R_after (zR_ HOL8.out : Kd.R (Kd.slice 3 (Kd.int .i64)) 24 _ w.heap.size (fun k_ => True ∧ some k_ ≠ (.slice Aa a.length ca : Value).ownBlock) (.slice A8 y8.length c8) y8) hg hat); have n5_ := Aside0.mk (Kd.R_over' (zR_ HO7.out : Kd.R (Kd.int .i64) 3 _ w.heap.size (fun _ => True) (.slice A7 c.length c7) c) (Kd.R_typed (zR_ HOA.out : Kd.R (Kd.slice 3 (Kd.int .i64)) 24 _ w.heap.size (fun k_ => True ∧ some k_ ≠ (.slice A8 y8.length c8 : Value).ownBlock) (.slice Aa a.length ca) a)) (by decide) hg); clear HB HOD HOA HOL8 HO7; have HOD := n1_; have HB := n3_; have HO7 := n5_; obtain ⟨A9, c9, e8⟩ := Kd.R_slice n2_.out; subst e8; have HOA9 := n2_; have HOL8 := n4_; clear n1_ n2_ n3_ n4_ n5_ ho hb hg hat))
       go_roundg k1
       case measure => have := HK.out; omega
       case rel => exact ⟨y9, y8, D.take (D.length - 1), H', ⟨by have := HK.out; omega⟩, ⟨zR_ HOA9.out⟩, ⟨zR_ HOL8.out⟩, ⟨by (with_reducible repeat (first | apply Kd.R_alloc | apply Kd.R_drewN | apply Kd.R_drew)); exact Kd.R_take HOD.out HDL.out⟩, ⟨zb_ HB.out⟩⟩
     ·rw [if_neg c4] at h
      exact absurd h (by simp)
   | false =>
    replace h : (if 0 < u then (if D.length < 4398046511104 then spec_l5Solve.l0 k1 a0 a L (D ++ [u]) else none) else (if 0 ≤ a0 ∧ a0 ≤ 4398046511104 then ((spec_l5Solve.l1 k1 p1 (List.replicate a0.toNat false) 0).bind fun m => (spec_l5Copy.f k1 L).bind fun z => some (true, m, z, true)) else none)) = some (r1, r2, r3, r4) := h
    by_cases c5 : 0 < u
    ·rw [if_pos c5] at h
     have d1 : decide (0 < u) = true := decide_eq_true c5
     by_cases c6 : D.length < 4398046511104
     ·rw [if_pos c6] at h
      have LMD := Aside0.mk c6
      obtain ⟨e0, he0⟩ : ∃ y_ : List Int, y_ = [] := ⟨_, rfl⟩
      obtain ⟨e1, he1⟩ : ∃ y_ : List Int, y_ = e0 ++ D := ⟨_, rfl⟩
      obtain ⟨e2, he2⟩ : ∃ y_ : List Int, y_ = e1 ++ [u] := ⟨_, rfl⟩
      have N0L := Aside0.mk (show e0.length = 0 by rw [he0]; rfl)
      have N1L := Aside0.mk (show e1.length = D.length by rw [he1, he0]; rfl)
      have H' := Aside0.mk (show spec_l5Solve.l0 k1 a0 a L e2 = some (r1, r2, r3, r4) by rw [he2, he1, he0]; exact h)
      have N0 := Aside0.mk he0
      have N1 := Aside0.mk he1
      have N2 := Aside0.mk he2
      clear h c5 c6 he0 he1 he2
      go_wp2_with (first | (go_at_call 78; (with_reducible refine (spec_l4Propagate.calls k1 _ _ a _ _ D p1 _ _ ?side1 ?side2 ?side3 ?side4 G1.out).mono ?_); (case side1 => exact zC_ (Kd.R_reads' HOA.out).2.2); (case side2 => exact (Kd.R_reads' HOA.out).2.1); (case side3 => exact zC_ (Kd.R_reads' HOD.out).2.2); (case side4 => exact (Kd.R_reads' HOD.out).2.1); rintro e w6 ⟨v6, rfl, ho, hb⟩; have HOP := Aside0.mk (Kd.R_lower ho (below_size (zb_ HB.out))); obtain ⟨Ap, cp, ep⟩ := Kd.R_slice HOP.out; subst ep; have mHOD_ := Aside0.mk (Kd.R_below (zR_ HOD.out : Kd.R (Kd.int .i64) 3 _ w.heap.size (fun _ => True) (.slice Ad D.length cd) D) hb); have mHOL_ := Aside0.mk (Kd.R_below (zR_ HOL.out : Kd.R (Kd.slice 3 (Kd.int .i64)) 24 _ w.heap.size (fun k_ => True ∧ some k_ ≠ (.slice Aa a.length ca : Value).ownBlock) (.slice Al L.length cl) L) hb); have mHOA_ := Aside0.mk (Kd.R_below (zR_ HOA.out : Kd.R (Kd.slice 3 (Kd.int .i64)) 24 _ w.heap.size (fun k_ => True ∧ some k_ ≠ (.slice Al L.length cl : Value).ownBlock) (.slice Aa a.length ca) a) hb); have mHB_ := Aside0.mk (below_step (zb_ HB.out) hb); clear HOD HOL HOA HB; have HOD := mHOD_; have HOL := mHOL_; have HOA := mHOA_; have HB := mHB_; clear mHOD_ mHOL_ mHOA_ mHB_; clear ho hb) | (go_at_call 64; (with_reducible refine (spec_l5First.calls k1 a0 _ _ p1 u _ ?side1 ?side2 G2.out).mono ?_); (case side1 => exact zC_ (Kd.R_reads' HOP.out).2.2); (case side2 => exact (Kd.R_reads' HOP.out).2.1); rintro e w7 ⟨rfl, hd⟩; have hb := Drawn0.below hd; have mHOP_ := Aside0.mk (Kd.R_below (zR_ HOP.out : Kd.R (Kd.int .i64) 3 _ w.heap.size (fun _ => True) (.slice Ap p1.length cp) p1) hb); have mHOD_ := Aside0.mk (Kd.R_below (zR_ HOD.out : Kd.R (Kd.int .i64) 3 _ w.heap.size (fun _ => True) (.slice Ad D.length cd) D) hb); have mHOL_ := Aside0.mk (Kd.R_below (zR_ HOL.out : Kd.R (Kd.slice 3 (Kd.int .i64)) 24 _ w.heap.size (fun k_ => True ∧ some k_ ≠ (.slice Aa a.length ca : Value).ownBlock) (.slice Al L.length cl) L) hb); have mHOA_ := Aside0.mk (Kd.R_below (zR_ HOA.out : Kd.R (Kd.slice 3 (Kd.int .i64)) 24 _ w.heap.size (fun k_ => True ∧ some k_ ≠ (.slice Al L.length cl : Value).ownBlock) (.slice Aa a.length ca) a) hb); have mHB_ := Aside0.mk (below_step (zb_ HB.out) hb); clear HOP HOD HOL HOA HB; have HOP := mHOP_; have HOD := mHOD_; have HOL := mHOL_; have HOA := mHOA_; have HB := mHB_; clear mHOP_ mHOD_ mHOL_ mHOA_ mHB_; have HS7 := Aside0.mk (Below.refl w7.heap.size w7); have HOA7 := HOA; have HOL7 := HOL; have HB7 := HB; clear hb hd) | ((with_reducible refine gate_dst (N := 79) rfl ?_); refine Kd.R_lit (Kd.int .i64) _ 3 ?hg (N := 79) ?hd (xs := ([] : List Int)) (inner := []) (ok := fun _ => True) (okp := fun _ => True) ?hr ?hp (fun _ hk => hk) trivial (Below.refl _ _) (Nat.le_refl _) (by simp) ?_; (case hd => rfl); (case hg => rfl); (case hr => first | (go_simp; done) | (go_simp; rfl)); (case hp => exact (Reps.none _ _)); intro v140 w4 ho hb hg_ hnew_; clear hg_ hnew_; rw [← N0.out] at ho; have n1_ := Aside0.mk (Kd.R_lower ho (below_size (by repeat (first | (with_reducible first | exact HS7.out | apply below_alloc | apply pw_below_drewN | apply below_drew1) | exact HS7.out)))); have n2_ := Aside0.mk (below_step (by repeat (first | (with_reducible first | exact HS7.out | apply below_alloc | apply pw_below_drewN | apply below_drew1) | exact HS7.out)) hb); have n3_ := Aside0.mk (Kd.R_below (zR_ HOD.out : Kd.R (Kd.int .i64) 3 _ w.heap.size (fun _ => True) (.slice Ad D.length cd) D) hb); clear HS7 HOD; have HOE := n1_; have HS7 := n2_; have HOD := n3_; clear n1_ n2_ n3_ ho hb) | ((with_reducible refine gate_builtin (b := .append) (xs := #[.tmp 79, .tmp 80]) rfl ?_); at_builtin; refine Kd.R_append_rows (Kd.int .i64) (w0 := w7) w7.heap.size rfl (.tmp 79) (.tmp 80) 24 3 (.int .i64 0) 8 rfl Try.underlying24 info3 rfl (by decide) (by omega) v140 e0 D _ _ _ (fun _ => True) (fun _ => False) rfl rfl ?aO ?aR (fun _ _ h => h) (fun _ h => h.elim) ?aF ?aB ?aS ?aL ?_; (case aR => exact zC_ (Kd.R_reads' HOD.out).2.2); (case aB => exact (by repeat (first | (with_reducible first | exact HS7.out | apply below_alloc | apply pw_below_drewN | apply below_drew1) | exact HS7.out))); (case aF => exact (fun _ _ => trivial)); (case aO => exact (zR_ HOE.out)); (case aS => exact (below_size (by repeat (first | (with_reducible first | exact HS7.out | apply below_alloc | apply pw_below_drewN | apply below_drew1) | exact HS7.out)))); (case aL => have h1 := LMD.out; have h2 := N0L.out; omega); intro v143 w6 ho hb hg hat; rw [← N1.out] at ho; have n1_ := Aside0.mk hb; have n2_ := Aside0.mk ho; clear HS7 HOE; have HS7 := n1_; have HOE := n2_; clear n1_ n2_ ho hb hg hat) | ((with_reducible refine gate_builtin (b := .append) (xs := #[.tmp 81, .tmp 83]) rfl ?_); at_builtin; refine Kd.R_append (Kd.int .i64) (w0 := w7) w7.heap.size rfl (.tmp 81) (.tmp 83) 24 3 (.int .i64 0) 8 rfl Try.underlying24 info3 rfl (by decide) (by omega) v143 e1 u [.int .i64 u] (fun _ => True) (fun _ => False) rfl rfl ?aP (fun _ hk => hk.elim) ?aF ?aO ?aB ?aS ?aL ?_; (case aP => exact rfl); (case aB => exact (by repeat (first | (with_reducible first | exact HS7.out | apply below_alloc | apply pw_below_drewN | apply below_drew1) | exact HS7.out))); (case aF => exact (fun _ _ => trivial)); (case aO => exact (zR_ HOE.out)); (case aS => exact (below_size (by repeat (first | (with_reducible first | exact HS7.out | apply below_alloc | apply pw_below_drewN | apply below_drew1) | exact HS7.out)))); (case aL => have h1 := LMD.out; have h2 := N1L.out; omega); intro v9 w9 ho hb hg hat; rw [← N2.out] at ho; have n1_ := Aside0.mk (Kd.R_below HOA7.out hb); have n2_ := Aside0.mk (Kd.R_below HOL7.out hb); have n3_ := Aside0.mk (below_step HB7.out hb); have n4_ := Aside0.mk (Kd.R_lower ho (below_size HB7.out)); clear HB HOD HOL HOA HOE HS7; have HOA := n1_; have HOL := n2_; have HB := n3_; have HOD := n4_; clear n1_ n2_ n3_ n4_ ho hb hg hat))
      go_roundg k1
      case measure => have := HK.out; omega
      case rel => exact ⟨a, L, e2, H', ⟨by have := HK.out; omega⟩, ⟨zR_ HOA.out⟩, ⟨zR_ HOL.out⟩, ⟨zR_ HOD.out⟩, ⟨zb_ HB.out⟩⟩
     ·rw [if_neg c6] at h
      exact absurd h (by simp)
    ·rw [if_neg c5] at h
     have d1 : decide (0 < u) = false := decide_eq_false c5
     clear c5
     by_cases c6 : 0 ≤ a0 ∧ a0 ≤ 4398046511104
     ·rw [if_pos c6] at h
      replace h := Option.bind_eq_some_iff.mp h
      obtain ⟨mm, A4', h⟩ := h
      replace h := Option.bind_eq_some_iff.mp h
      obtain ⟨z, A5', h⟩ := h
      have G5 := Aside0.mk A5'
      obtain ⟨rfl, rfl, rfl, rfl⟩ : true = r1 ∧ mm = r2 ∧ z = r3 ∧ true = r4 := by simpa using h
      obtain ⟨m0, hm0⟩ : ∃ m_ : List Bool, m_ = List.replicate a0.toNat false := ⟨_, rfl⟩
      rw [← hm0] at A4'
      have NM := Aside0.mk hm0
      have H' := Aside0.mk A4'
      have c3b0 := eq_true c6.1
      have c3b1 : decide (0 ≤ a0) = true := decide_eq_true c6.1
      have c4b1 : decide (a0.toNat ≤ 281474976710656) = true := decide_eq_true (by omega)
      clear h A4' A5' hm0 c6
      go_wp2_with (first | (go_at_call 78; (with_reducible refine (spec_l4Propagate.calls k1 _ _ a _ _ D p1 _ _ ?side1 ?side2 ?side3 ?side4 G1.out).mono ?_); (case side1 => exact zC_ (Kd.R_reads' HOA.out).2.2); (case side2 => exact (Kd.R_reads' HOA.out).2.1); (case side3 => exact zC_ (Kd.R_reads' HOD.out).2.2); (case side4 => exact (Kd.R_reads' HOD.out).2.1); rintro e w6 ⟨v6, rfl, ho, hb⟩; have HOP := Aside0.mk (Kd.R_lower ho (below_size (zb_ HB.out))); obtain ⟨Ap, cp, ep⟩ := Kd.R_slice HOP.out; subst ep; have mHOD_ := Aside0.mk (Kd.R_below (zR_ HOD.out : Kd.R (Kd.int .i64) 3 _ w.heap.size (fun _ => True) (.slice Ad D.length cd) D) hb); have mHOL_ := Aside0.mk (Kd.R_below (zR_ HOL.out : Kd.R (Kd.slice 3 (Kd.int .i64)) 24 _ w.heap.size (fun k_ => True ∧ some k_ ≠ (.slice Aa a.length ca : Value).ownBlock) (.slice Al L.length cl) L) hb); have mHOA_ := Aside0.mk (Kd.R_below (zR_ HOA.out : Kd.R (Kd.slice 3 (Kd.int .i64)) 24 _ w.heap.size (fun k_ => True ∧ some k_ ≠ (.slice Al L.length cl : Value).ownBlock) (.slice Aa a.length ca) a) hb); have mHB_ := Aside0.mk (below_step (zb_ HB.out) hb); clear HOD HOL HOA HB; have HOD := mHOD_; have HOL := mHOL_; have HOA := mHOA_; have HB := mHB_; clear mHOD_ mHOL_ mHOA_ mHB_; clear ho hb) | (go_at_call 64; (with_reducible refine (spec_l5First.calls k1 a0 _ _ p1 u _ ?side1 ?side2 G2.out).mono ?_); (case side1 => exact zC_ (Kd.R_reads' HOP.out).2.2); (case side2 => exact (Kd.R_reads' HOP.out).2.1); rintro e w7 ⟨rfl, hd⟩; have hb := Drawn0.below hd; have mHOP_ := Aside0.mk (Kd.R_below (zR_ HOP.out : Kd.R (Kd.int .i64) 3 _ w.heap.size (fun _ => True) (.slice Ap p1.length cp) p1) hb); have mHOD_ := Aside0.mk (Kd.R_below (zR_ HOD.out : Kd.R (Kd.int .i64) 3 _ w.heap.size (fun _ => True) (.slice Ad D.length cd) D) hb); have mHOL_ := Aside0.mk (Kd.R_below (zR_ HOL.out : Kd.R (Kd.slice 3 (Kd.int .i64)) 24 _ w.heap.size (fun k_ => True ∧ some k_ ≠ (.slice Aa a.length ca : Value).ownBlock) (.slice Al L.length cl) L) hb); have mHOA_ := Aside0.mk (Kd.R_below (zR_ HOA.out : Kd.R (Kd.slice 3 (Kd.int .i64)) 24 _ w.heap.size (fun k_ => True ∧ some k_ ≠ (.slice Al L.length cl : Value).ownBlock) (.slice Aa a.length ca) a) hb); have mHB_ := Aside0.mk (below_step (zb_ HB.out) hb); clear HOP HOD HOL HOA HB; have HOP := mHOP_; have HOD := mHOD_; have HOL := mHOL_; have HOA := mHOA_; have HB := mHB_; clear mHOP_ mHOD_ mHOL_ mHOA_ mHB_; have HS7 := Aside0.mk (Below.refl w7.heap.size w7); clear hb hd) | ((with_reducible refine gate_dst (N := 30) rfl ?_); refine Kd.R_make Kd.bool _ 4 rfl (N := 30) rfl 40 _ _ rfl a0 rfl rfl Try.underlying40 (.bool false) 1 info4 rfl (by decide) (by omega) false (ok := fun _ => True) (okp := fun _ => True) rfl (fun _ hk => hk) trivial (of_decide_eq_true (by first | (with_reducible assumption) | assumption)) (Nat.le_trans (Nat.mul_le_mul_right _ (of_decide_eq_true (by first | (with_reducible assumption) | assumption) : a0.toNat ≤ 281474976710656)) (by omega)) (Below.refl _ _) (Nat.le_refl _) ?_; intro v10 w10 ho hb hg_ hnew_; clear hg_ hnew_; (first | rw [← NM.out] at ho | (simp only [Int.reduceToNat] at ho; rw [← NM.out] at ho)); have n1_ := Aside0.mk (Kd.R_lower ho (below_size (zb_ HB.out))); have mHOD_ := Aside0.mk (Kd.R_below (zR_ HOD.out : Kd.R (Kd.int .i64) 3 _ w.heap.size (fun _ => True) (.slice Ad D.length cd) D) hb); have mHOL_ := Aside0.mk (Kd.R_below (zR_ HOL.out : Kd.R (Kd.slice 3 (Kd.int .i64)) 24 _ w.heap.size (fun k_ => True ∧ some k_ ≠ (.slice Aa a.length ca : Value).ownBlock) (.slice Al L.length cl) L) hb); have mHOP_ := Aside0.mk (Kd.R_below (zR_ HOP.out : Kd.R (Kd.int .i64) 3 _ w.heap.size (fun _ => True) (.slice Ap p1.length cp) p1) hb); have mHB_ := Aside0.mk (below_step (zb_ HB.out) hb); clear HOD HOL HOP HB; have HOD := mHOD_; have HOL := mHOL_; have HOP := mHOP_; have HB := mHB_; clear mHOD_ mHOL_ mHOP_ mHB_; have HOM := n1_; clear n1_ hb ho; obtain ⟨Am, cm, em⟩ := Kd.R_slice HOM.out; subst em))
      go_loopg [33] k1 (fun kq v33 w' => ∃ (m : List Bool) (x : Int), v33 = .int .i64 x ∧ Aside0 (spec_l5Solve.l1 kq p1 m x = some mm) ∧ Aside0 (kq ≤ k1) ∧ Aside0 (m.length = m0.length) ∧ Aside0 (Kd.R Kd.bool 4 w' w.heap.size (fun _ => True) (.slice Am m0.length cm) m) ∧ Aside0 (Kd.R (Kd.int .i64) 3 w' w.heap.size (fun _ => True) (.slice Ap p1.length cp) p1) ∧ Aside0 (Kd.R (Kd.slice 3 (Kd.int .i64)) 24 w' w.heap.size (fun k_ => True ∧ some k_ ≠ (.slice Aa a.length ca : Value).ownBlock) (.slice Al L.length cl) L) ∧ Aside0 (Below w.heap.size w w'))
      case atStart => exact ⟨m0, 0, rfl, H', ⟨Nat.le_refl _⟩, ⟨rfl⟩, ⟨zR_ HOM.out⟩, ⟨zR_ HOP.out⟩, ⟨zR_ HOL.out⟩, ⟨zb_ HB.out⟩⟩
      case round =>
       clear H' HB HOM HOP HOL HOD HOA HS7
       obtain ⟨m, x, rfl, HA, HK2, HML, HOM, HOP, HOL, HB⟩ := hrel
       cases gk with
       | zero => exact absurd HA.out (by simp [spec_l5Solve.l1])
       | succ k2 =>
        have h := HA.out
        clear HA
        simp only [spec_l5Solve.l1] at h
        by_cases c7 : x < (p1.length : Int)
        ·rw [if_pos c7] at h
         have c7b : decide (x < (p1.length : Int)) = true := decide_eq_true c7
         by_cases c8 : 0 ≤ x
         ·rw [if_pos c8] at h
          have HPC := (Kd.R_reads' HOP.out).2.2
          obtain ⟨ad1, e1, hx1⟩ := Kd.at_int HPC x c8 c7
          cases e1
          obtain ⟨n, hn⟩ : ∃ n, rd p1 x = n := ⟨_, rfl⟩
          rw [hn] at hx1 h
          have hpl : (p1.length : Int) ≤ 9223372036854775807 := by have := HPC.2.1; omega
          have HWX := Aside0.mk (show wrap64 (x + 1) = x + 1 by unfold wrap64; omega)
          by_cases c9 : 0 < n
          ·rw [if_pos c9] at h
           have c9b : decide (0 < n) = true := decide_eq_true c9
           by_cases c10 : n ≤ (m.length : Int)
           ·rw [if_pos c10] at h
            have HMLe := HML.out
            have hcm := (Kd.R_reads HOM.out)
            have hmm : (m0.length : Int) ≤ 9223372036854775807 := by obtain ⟨_, _, _, _, hr_⟩ := hcm; have := hr_.2.1; omega
            obtain ⟨gm, cm2, em, gb, gl, cl2, HG⟩ := Kd.R_form HOM.out (by omega)
            have em2 : Am = some ⟨gm, 0, none⟩ := by injection em
            subst em2
            obtain ⟨hx12, hf12⟩ := Kd.R_celln false HOM.out (n - 1) (by omega) (by omega)
            have HQN := Aside0.mk (show (n - 1).toNat = n.toNat - 1 by omega)
            rw [HQN.out] at hx12 hf12
            obtain ⟨y2, hy2⟩ : ∃ y_, y_ = m.set (n.toNat - 1) true := ⟨_, rfl⟩
            rw [← hy2] at h
            have NY2 := Aside0.mk hy2
            have HY2L := Aside0.mk (show y2.length = m0.length by rw [hy2, List.length_set]; exact HMLe)
            have HGB := Aside0.mk gb
            have HP2 := Aside0.mk (HQN.out ▸ Kd.R_putg HOM.out (n - 1) true)
            have H' := Aside0.mk h
            have p12 := eq_true (show 0 ≤ n - 1 by omega)
            have q12 := eq_true (show n - 1 < (m0.length : Int) by omega)
            have p12b := eq_true (show 1 ≤ n by omega)
            have q13 := eq_true (show n ≤ (m0.length : Int) by omega)
            have d1 : (0 : Int) ≤ n := by omega
            have d2 : n ≤ 9223372036854775807 := by omega
            have p101 := eq_true c8
            have q101 := eq_true c7
            clear h c7 c8 c9 c10 hn hy2 hcm em HMLe gb gl cl2 HG HPC
            go_wp2_with ((with_reducible refine gate_store (t := 4) (p := 42) rfl ?_); refine store_event (t := 4) (p := 42) (v := ?vo_w14) (w1 := (wr.setCell ⟨gm, n.toNat - 1, none⟩ (.bool true))) ?hg ?ho ?hn ?hr ?_; (case ho => rfl); (case hg => rfl); (case hn => rfl); (case hr => first | (go_simp; done) | (go_simp; rfl)); intro w14 hw; have hgg : wr.grownBy w14 (some gm) := (by rw [hw]; exact HP2.out.2); have n1_ := Aside0.mk (show Kd.R Kd.bool 4 w14 w.heap.size (fun _ => True) (.slice (some ⟨gm, 0, none⟩) m0.length cm) y2 by rw [hw, NY2.out]; exact HP2.out.1); have n2_ := Aside0.mk ((by rw [hw]; exact below_set HB.out HGB.out : Below w.heap.size w w14)); have n3_ := Aside0.mk (Kd.R_over' HOP.out (Kd.R_typed HOM.out) (by decide) hgg); have n4_ := Aside0.mk (Kd.R_over' HOL.out (Kd.R_typed HOM.out) (by decide) hgg); clear HOM HOP HOL HB HP2 hgg hw; have HOM := n1_; have HB := n2_; have HOP := n3_; have HOL := n4_; clear n1_ n2_ n3_ n4_)
            go_roundg k2
            case measure => have := HK2.out; omega
            case rel => exact ⟨y2, wrap64 (x + 1), by first | rfl | (rw [← HWX.out]; done) | (rw [HWX.out]; done) | simp [HWX.out], H', ⟨by have := HK2.out; omega⟩, HY2L, ⟨zR_ HOM.out⟩, ⟨zR_ HOP.out⟩, ⟨zR_ HOL.out⟩, ⟨zb_ HB.out⟩⟩
           ·rw [if_neg c10] at h
            exact absurd h (by simp)
          ·rw [if_neg c9] at h
           have c9b : decide (0 < n) = false := decide_eq_false c9
           have H' := Aside0.mk h
           have p101 := eq_true c8
           have q101 := eq_true c7
           clear h c7 c8 c9 hn HPC
           go_wp2
           go_roundg k2
           case measure => have := HK2.out; omega
           case rel => exact ⟨m, wrap64 (x + 1), by first | rfl | (rw [← HWX.out]; done) | (rw [HWX.out]; done) | simp [HWX.out], H', ⟨by have := HK2.out; omega⟩, HML, ⟨zR_ HOM.out⟩, ⟨zR_ HOP.out⟩, ⟨zR_ HOL.out⟩, ⟨zb_ HB.out⟩⟩
         ·rw [if_neg c8] at h
          exact absurd h (by simp)
        ·rw [if_neg c7] at h
         have c7b : decide (x < (p1.length : Int)) = false := decide_eq_false c7
         obtain rfl : m = mm := by simpa using h
         clear h c7
         go_wp2_with (go_at_call 72; (with_reducible refine (spec_l5Copy.calls k1 _ _ L z _ ?side1 ?side2 G5.out).mono ?_); (case side1 => exact zC_ (Kd.R_reads' HOL.out).2.2); (case side2 => exact (Kd.R_reads' HOL.out).2.1); rintro e w11 ⟨v11, rfl, ho, hb⟩; have HOZ := Aside0.mk (Kd.S_lower ho (below_size (zb_ HB.out))); have n1_ := Aside0.mk (Kd.R_below (zR_ HOM.out : Kd.R Kd.bool 4 _ w.heap.size (fun _ => True) (.slice Am m0.length cm) m) hb); have n0_ := Aside0.mk (below_step (zb_ HB.out) hb); clear HB HOM; have HB := n0_; have HOM := n1_; clear n0_ n1_ ho hb)
         (try simp only [Exit.inBlock, Exit.then])
         refine bodyPost_ret (results_tmp4_ rfl _ _ _) rfl ?_
         exact ⟨_, _, by first | rfl | simp, zR_ HOM.out, zS_ HOZ.out, zb_ HB.out⟩
     ·rw [if_neg c6] at h
      exact absurd h (by simp)


/-! ### spec_Solve: function 48 -/
def spec_Solve.f (k : Nat) (a0 : Int) (l1 : List (List Int)) : Option (Bool × List Bool × (List (List Int)) × Bool) := (spec_GoodClauses.f k a0 l1).bind fun t297 => (if t297 = true then ((spec_l5Solve.f k a0 l1).bind fun bt298 => (some (bt298.1, bt298.2.1, bt298.2.2.1, bt298.2.2.2))) else (some (false, ([] : List Bool), ([] : List (List Int)), false)))
theorem spec_Solve.mono : ∀ a0 a1 k, LeO (spec_Solve.f k a0 a1) (spec_Solve.f (k + 1) a0 a1) := by
 intro a0 a1 k
 unfold spec_Solve.f
 repeat' first
   | (with_reducible exact spec_GoodClauses.mono _ _ _)
   | (with_reducible exact spec_l5Solve.mono _ _ _)
   | (with_reducible exact LeO.refl _)
   | (with_reducible exact LeO.none _)
   | (with_reducible refine LeO.ite ?_ ?_)
   | (with_reducible refine LeO.bind ?_ (fun _ => ?_))
   | exact spec_GoodClauses.mono _ _ _
   | exact spec_l5Solve.mono _ _ _
   | exact LeO.none _
   | refine LeO.ite ?_ ?_
   | refine LeO.bind ?_ (fun _ => ?_)
set_option maxHeartbeats 8000000 in
set_option maxRecDepth 100000 in
theorem spec_Solve.calls (k : Nat) (a0 : Int) (A1 : Option Addr) (c1 : Nat) (l1 : List (List Int)) (r1 : Bool) (r2 : List Bool) (r3 : List (List Int)) (r4 : Bool) (w : World) (hr1 : Kd.C (Kd.slice 3 (Kd.int .i64)) w A1 l1.length l1) (hc1 : l1.length ≤ c1) (h : spec_Solve.f k a0 l1 = some (r1, r2, r3, r4)) :
  Calls Try.prog 48 #[.int .i64 a0, .slice A1 l1.length c1] w fun e w' => ∃ v1_ v2_ : Value, e = .returned (.tuple #[.bool r1, v1_, v2_, .bool r4]) ∧ Kd.R Kd.bool 4 w' w.heap.size (fun _ => True) v1_ r2 ∧ Kd.S (Kd.slice 3 (Kd.int .i64)) 24 w' w.heap.size (fun _ => True) v2_ r3 ∧ Below w.heap.size w w' := by
 have HR1 := Aside0.mk hr1
 have HC1 := Aside0.mk hc1
 clear hr1 hc1
 have HB := Aside0.mk (Below.refl w.heap.size w)
 have H : ((spec_GoodClauses.f k a0 l1).bind fun t297 => (if t297 = true then ((spec_l5Solve.f k a0 l1).bind fun bt298 => (some (bt298.1, bt298.2.1, bt298.2.2.1, bt298.2.2.2))) else (some (false, ([] : List Bool), ([] : List (List Int)), false)))) = some (r1, r2, r3, r4) := h
 clear h
 replace H := Option.bind_eq_some_iff.mp H
 obtain ⟨t297, A30, H⟩ := H
 (try dsimp only at H)
 have A3 := Aside0.mk A30
 clear A30
 by_cases c4 : t297 = true
 ·subst c4
  have H1 : ((spec_l5Solve.f k a0 l1).bind fun bt298 => (some (bt298.1, bt298.2.1, bt298.2.2.1, bt298.2.2.2))) = some (r1, r2, r3, r4) := by rw [if_pos rfl] at H; exact H
  clear H
  have H := H1
  clear H1
  replace H := Option.bind_eq_some_iff.mp H
  obtain ⟨⟨t298, t299, t300, t301⟩, A50, H⟩ := H
  (try dsimp only at H)
  have A5 := Aside0.mk A50
  clear A50
  simp only [Option.some.injEq, Prod.mk.injEq] at H
  obtain ⟨rfl, rfl, rfl, rfl⟩ := H
  go_enter Try.func48, Try.ntmps48
  go_wp2_with (first | ((with_reducible refine gate_callee (f := 27) rfl ?_); refine goesL_ (some 10) rfl rfl Try.func27 (by kernel_rfl) rfl #[.int .i64 a0, .slice A1 l1.length c1] rfl (by (try simp only [List.map_toArray, List.map_cons, List.map_nil]); first | done | rfl | (simp only [List.length_drop, List.length_take]; rfl)) ?_; (with_reducible refine (spec_GoodClauses.calls k a0 _ _ l1 true _ ?side1 ?side2 A3.out).mono ?_); (case side1 => exact zC_ HR1.out); (case side2 => exact HC1.out); rintro e w' ⟨rfl, ⟨nd, rfl⟩⟩; refine ⟨_, rfl, ?_⟩) | ((with_reducible refine gate_callee (f := 97) rfl ?_); refine goesL_ (some 14) rfl rfl Try.func97 (by kernel_rfl) rfl #[.int .i64 a0, .slice A1 l1.length c1] rfl (by (try simp only [List.map_toArray, List.map_cons, List.map_nil]); first | done | rfl | (simp only [List.length_drop, List.length_take]; rfl)) ?_; (with_reducible refine (spec_l5Solve.calls k a0 _ _ l1 t298 t299 t300 t301 _ ?side1 ?side2 A5.out).mono ?_); (case side1 => exact zC_ HR1.out); (case side2 => exact HC1.out); rintro e w6 ⟨v302, v304, rfl, ho0, ho1, hb⟩; refine ⟨_, rfl, ?_⟩; have n0_ := Aside0.mk (Kd.R_lower ho0 (below_size (zb_ HB.out))); have n1_ := Aside0.mk (Kd.S_lower ho1 (below_size (zb_ HB.out))); have n2_ := Aside0.mk (below_step (zb_ HB.out) hb); clear HB; have HO303 := n0_; have HO305 := n1_; have HB := n2_; clear n0_ n1_ n2_; (try clear hb); (try clear hb2); (try clear hk); (try clear hi); (try clear ho0); (try clear ho1)))
  refine bodyPost_ret (results_list (rs := [.tmp 4, .tmp 5, .tmp 6, .tmp 7]) rfl (by simp) (.tmp (.tmp (.tmp (.tmp .nil))))) rfl ?_
  exact ⟨_, _, by first | rfl | (simp [errW_none, errW_some] <;> rfl) | (simp [*, errW_none, errW_some] <;> rfl), zR_ HO303.out, zS_ HO305.out, zb_ HB.out⟩
 ·replace c4 := Bool.eq_false_iff.mpr c4
  subst c4
  have H1 : (some (false, ([] : List Bool), ([] : List (List Int)), false)) = some (r1, r2, r3, r4) := by rw [if_neg (show ¬ (false = true) by decide)] at H; exact H
  clear H
  have H := H1
  clear H1
  simp only [Option.some.injEq, Prod.mk.injEq] at H
  obtain ⟨rfl, rfl, rfl, rfl⟩ := H
  go_enter Try.func48, Try.ntmps48
  go_wp2_with (first | ((with_reducible refine gate_callee (f := 27) rfl ?_); refine goesL_ (some 10) rfl rfl Try.func27 (by kernel_rfl) rfl #[.int .i64 a0, .slice A1 l1.length c1] rfl (by (try simp only [List.map_toArray, List.map_cons, List.map_nil]); first | done | rfl | (simp only [List.length_drop, List.length_take]; rfl)) ?_; (with_reducible refine (spec_GoodClauses.calls k a0 _ _ l1 false _ ?side1 ?side2 A3.out).mono ?_); (case side1 => exact zC_ HR1.out); (case side2 => exact HC1.out); rintro e w' ⟨rfl, ⟨nd, rfl⟩⟩; refine ⟨_, rfl, ?_⟩))
  refine bodyPost_ret (results_list (rs := [.tmp 4, .tmp 5, .tmp 6, .tmp 7]) rfl (by simp) (.tmp (.tmp (.tmp (.tmp .nil))))) rfl ?_
  exact ⟨_, _, by first | rfl | (simp [errW_none, errW_some] <;> rfl) | (simp [*, errW_none, errW_some] <;> rfl), by first | exact Kd.R_nil _ _ _ _ _ | exact Kd.N_nil _ _ _ _ _ | exact Kd.V_nil _ _ _ _ _ | exact Kd.Q_nil _ _ _ _ _ | exact Kd.S_nil _ _ _ _ _, by first | exact Kd.S_nil _ _ _ _ _ | exact Kd.N_nil _ _ _ _ _ | exact Kd.V_nil _ _ _ _ _ | exact Kd.Q_nil _ _ _ _ _ | exact Kd.R_nil _ _ _ _ _, zb_ HB.out⟩

end Go.Proofs.Ytpkbjgmeejlchab.PFnSolved
-- squeezed
