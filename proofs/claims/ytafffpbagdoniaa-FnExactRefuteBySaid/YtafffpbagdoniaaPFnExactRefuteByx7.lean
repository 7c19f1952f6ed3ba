-- Made by a program of this session (wip/tools), which leans on the kit's print: checked by Lean alone.
import Derived.Test.YtafffpbagdoniaaPFnExactRefuteByx0
import Derived.Test.YtafffpbagdoniaaPFnExactRefuteByx1
import Derived.Test.YtafffpbagdoniaaPFnExactRefuteByx4
import Derived.Test.YtafffpbagdoniaaPFnExactRefuteByx6
namespace Go.Proofs.Ytafffpbagdoniaa.PFnExactRefuteBy
open Go.RowKit Go.Proofs.YtafffpbagdoniaaW.PrintWords Go.Proofs.YtafffpbagdoniaaW.PrintLast Go.Proofs.YtafffpbagdoniaaW.PrintMore
attribute [local go_sem] max2_int min2_int max_two min_two max_three min_three max_four min_four   -- for this text's walks alone
set_option linter.unusedVariables false
set_option linter.unusedSimpArgs false

/-! ### impl_check: function 43 -/
def impl_check.l0 : Nat → List (List Int) → List (List Int) → Int → Option (Bool × Int)
  | 0, _, _, _ => none
  | k + 1, x1, x6, x14 => if x14 < (x1.length : Int) then (if 0 ≤ x14 then ((impl_atOnce.f k x6 (rowIn_ x1 x14)).bind fun t => if t = true then (if x6.length < 4398046511104 then impl_check.l0 k x1 (x6 ++ [rowIn_ x1 x14]) (wrap64 (x14 + 1)) else none) else some (false, x14)) else none) else some (decide (0 < x1.length) && ((rowIn_ x1 ((x1.length : Int) - 1)).length == 0), (x1.length : Int))
def impl_check.f (k : Nat) (l0 : List (List Int)) (l1 : List (List Int)) : Option (Bool × Int) := if l0.length < 4398046511104 then impl_check.l0 k l1 l0 0 else none
theorem impl_check.mono_l : ∀ k, (∀ y0 y1 y2, LeO (impl_check.l0 k y0 y1 y2) (impl_check.l0 (k + 1) y0 y1 y2))
  | 0 => fun _ _ _ r h => by simp [impl_check.l0] at h
  | k + 1 => by
    have ih0 := impl_check.mono_l k
    · intro y0 y1 y2
      unfold impl_check.l0
      repeat' first
      | (with_reducible exact ih0 _ _ _)
      | (with_reducible exact impl_atOnce.mono _ _ _)
      | (with_reducible exact LeO.refl _)
      | (with_reducible exact LeO.none _)
      | (with_reducible refine LeO.ite ?_ ?_)
      | (with_reducible refine LeO.bind ?_ (fun _ => ?_))
theorem impl_check.mono : ∀ a0 a1 k, LeO (impl_check.f k a0 a1) (impl_check.f (k + 1) a0 a1) := by
  intro a0 a1 k
  unfold impl_check.f
  exact LeO.ite (impl_check.mono_l k _ _ _) (LeO.refl _)
set_option maxHeartbeats 1000000 in
set_option maxRecDepth 100000 in
theorem impl_check.calls (k : Nat) (A0 : Option Addr) (c0 : Nat) (l0 : List (List Int)) (A1 : Option Addr) (c1 : Nat) (l1 : List (List Int)) (r1 : Bool) (r2 : Int) (w : World) (hr0 : Kd.C (Kd.slice 3 (Kd.int .i64)) w A0 l0.length l0) (hc0 : l0.length ≤ c0) (hr1 : Kd.C (Kd.slice 3 (Kd.int .i64)) w A1 l1.length l1) (hc1 : l1.length ≤ c1) (h : impl_check.f k l0 l1 = some (r1, r2)) :
    Calls Try.prog 43 #[.slice A0 l0.length c0, .slice A1 l1.length c1] w fun e w' => e = .returned (.tuple #[.bool r1, .int .i64 r2]) ∧ Below w.heap.size w w' := by
  have HR0 := Aside0.mk hr0
  have HC0 := Aside0.mk hc0
  have HR1 := Aside0.mk hr1
  have HC1 := Aside0.mk hc1
  have HL := Aside0.mk hr1.2.1
  obtain ⟨wb, hwb⟩ : ∃ wb, wb = w := ⟨_, rfl⟩
  have HRB1 := Aside0.mk (show Kd.C (Kd.slice 3 (Kd.int .i64)) wb A1 l1.length l1 by rw [hwb]; exact hr1)
  have HWB := Aside0.mk (show Below wb.heap.size wb w by rw [hwb]; exact Below.refl _ _)
  have HEQ := Aside0.mk hwb
  clear hr0 hc0 hr1 hc1 hwb
  have HB := Aside0.mk (Below.refl w.heap.size w)
  unfold impl_check.f at h
  by_cases c0' : l0.length < 4398046511104
  · rw [if_pos c0'] at h
    have HV := Aside0.mk (show slices_Clone_rows l0 = some l0 by unfold slices_Clone_rows; rw [if_pos c0'])
    have H' := Aside0.mk h
    clear c0' h
    go_enter Try.func43, Try.ntmps43
    go_wp2_with (((with_reducible refine gate_callee (f := 61) rfl ?_); refine goesL_ (some 11) rfl rfl Try.func61 (by kernel_rfl) rfl #[.slice A0 l0.length c0] rfl (by (try simp only [List.map_toArray, List.map_cons, List.map_nil]); first | done | rfl | (simp only [List.length_drop, List.length_take]; rfl)) ?_; (with_reducible refine (slices_Clone_rows_calls _ _ l0 l0 _ ?side1 ?side2 HV.out).mono ?_); (case side1 => repeat (first | exact HR0.out | (with_reducible refine Kd.C_alloc ?_ _) | (with_reducible refine Kd.C_drewN ?_ _) | (with_reducible refine Kd.C_drew ?_))); (case side2 => exact HC0.out); rintro e w4 ⟨v4, rfl, ho, hb⟩; refine ⟨_, rfl, ?_⟩; rw [← HEQ.out] at ho; have n1_ := Aside0.mk (Kd.R_lower ho (by have := below_size (by repeat (first | (with_reducible first | exact HB.out | apply below_alloc | apply pw_below_drewN | apply below_drew1) | exact HB.out)); rw [HEQ.out]; exact this)); have HO4 := n1_; clear n1_ ho; have n0_ := Aside0.mk (below_step (by repeat (first | (with_reducible first | exact HB.out | apply below_alloc | apply pw_below_drewN | apply below_drew1) | exact HB.out)) hb); clear HB; have HB := n0_; clear n0_; (try clear hb)))
    go_loopg [6, 14] k (fun kq v6 v14 w' => ∃ (y : List (List Int)) (x : Int), v14 = .int .i64 x ∧ Aside0 (impl_check.l0 kq l1 y x = some (r1, r2)) ∧ Aside0 (kq ≤ k) ∧ Aside0 (Kd.R (Kd.fixed (Kd.slice 3 (Kd.int .i64)) wb) 29 w' w.heap.size (fun _ => True) v6 y) ∧ Aside0 (Below w.heap.size w w'))
    case atStart => exact ⟨l0, 0, rfl, H', ⟨Nat.le_refl _⟩, ⟨by (with_reducible repeat (first | apply Kd.R_alloc | apply Kd.R_drewN | apply Kd.R_drew)); exact HO4.out⟩, ⟨by repeat (first | (with_reducible first | exact HB.out | apply below_alloc | apply pw_below_drewN | apply below_drew1) | exact HB.out)⟩⟩
    case round =>
      clear H' HB HO4
      obtain ⟨y, x, rfl, HA, HK, HO, HB⟩ := hrel
      obtain ⟨Ay, cy, ey⟩ := Kd.R_slice HO.out
      subst ey
      cases gk with
      | zero => exact absurd HA.out (by simp [impl_check.l0])
      | succ k1 =>
        have h := HA.out
        clear HA
        simp only [impl_check.l0] at h
        by_cases c3 : x < (l1.length : Int)
        · rw [if_pos c3] at h
          have c3b0 : decide (x < (l1.length : Int)) = true := decide_eq_true c3
          by_cases c4 : 0 ≤ x
          · rw [if_pos c4] at h
            replace h := Option.bind_eq_some_iff.mp h
            obtain ⟨t, A5, h⟩ := h
            have p101 := c4
            have q101 := c3
            obtain ⟨ad101, A9, c9, e101, hx101_0, hl9, hr9⟩ := rowIn_at HR1.out x p101 q101
            cases e101
            replace hx101_0 := (HB.out.cell (World.block_lt_of_cell? w _ hx101_0)).trans hx101_0
            obtain ⟨z, hz⟩ : ∃ z, rowIn_ l1 x = z := ⟨_, rfl⟩
            rw [hz] at hx101_0 hr9 hl9 A5 h
            have HR9 := Aside0.mk hr9
            have HL9 := Aside0.mk hl9
            have HKZ := Aside0.mk (show (Kd.slice 3 (Kd.int .i64)).K wb z [.slice A9 z.length c9] from ⟨A9, c9, rfl, hl9, by rw [HEQ.out]; exact hr9⟩)
            have G5 := Aside0.mk A5
            have HP := Aside0.mk p101
            have HQ := Aside0.mk q101
            have HW := Aside0.mk (show wrap64 (x + 1) = x + 1 by have := HL.out; unfold wrap64; omega)
            clear c3 c4 A5 hz hr9 hl9
            replace p101 := eq_true p101
            replace q101 := eq_true q101
            cases t with
            | false =>
              obtain ⟨rfl, rfl⟩ : false = r1 ∧ x = r2 := by simpa using h
              clear h
              go_wp2_with (((with_reducible refine gate_callee (f := 62) rfl ?_); refine goesL_ (some 21) rfl rfl Try.func62 (by kernel_rfl) rfl #[.slice Ay y.length cy, .slice A9 z.length c9] rfl (by (try simp only [List.map_toArray, List.map_cons, List.map_nil]); first | done | rfl | (simp only [List.length_drop, List.length_take]; rfl)) ?_; (with_reducible refine (impl_atOnce.calls k1 _ _ y _ _ z false _ ?side1 ?side2 ?side3 ?side4 G5.out).mono ?_); (case side1 => exact C_of_fixed_ (Kd.R_reads' (by (with_reducible repeat (first | apply Kd.R_alloc | apply Kd.R_drewN | apply Kd.R_drew)); exact HO.out : Kd.R (Kd.fixed (Kd.slice 3 (Kd.int .i64)) wb) 29 _ w.heap.size (fun _ => True) (.slice Ay y.length cy) y)).2.2 (below_step HWB.out (by repeat (first | (with_reducible first | exact HB.out | apply below_alloc | apply pw_below_drewN | apply below_drew1) | exact HB.out)))); (case side2 => exact (Kd.R_reads' HO.out).2.1); (case side3 => repeat (first | exact (Kd.C_below HR9.out HB.out) | (with_reducible refine Kd.C_alloc ?_ _) | (with_reducible refine Kd.C_drewN ?_ _) | (with_reducible refine Kd.C_drew ?_))); (case side4 => exact HL9.out); rintro e w5 ⟨rfl, hb⟩; refine ⟨_, rfl, ?_⟩; have q_ := Aside0.mk (Kd.R_below (by (with_reducible repeat (first | apply Kd.R_alloc | apply Kd.R_drewN | apply Kd.R_drew)); exact HO.out : Kd.R (Kd.fixed (Kd.slice 3 (Kd.int .i64)) wb) 29 _ w.heap.size (fun _ => True) (.slice Ay y.length cy) y) hb); clear HO; have HO := q_; clear q_; have n0_ := Aside0.mk (below_step (by repeat (first | (with_reducible first | exact HB.out | apply below_alloc | apply pw_below_drewN | apply below_drew1) | exact HB.out)) hb); clear HB; have HB := n0_; clear n0_; (try clear hb)))
              go_ret2
              exact ⟨by first | rfl | simp, by repeat (first | (with_reducible first | exact HB.out | apply below_alloc | apply pw_below_drewN | apply below_drew1) | exact HB.out)⟩
            | true =>
              rw [if_pos rfl] at h
              by_cases c6 : y.length < 4398046511104
              · rw [if_pos c6] at h
                have LA := Aside0.mk c6
                obtain ⟨y2, hy2⟩ : ∃ y_, y_ = y ++ [z] := ⟨_, rfl⟩
                rw [← hy2] at h
                have NY2 := Aside0.mk hy2
                have H' := Aside0.mk h
                clear h c6 hy2
                go_wp2_with (first | ((with_reducible refine gate_callee (f := 62) rfl ?_); refine goesL_ (some 21) rfl rfl Try.func62 (by kernel_rfl) rfl #[.slice Ay y.length cy, .slice A9 z.length c9] rfl (by (try simp only [List.map_toArray, List.map_cons, List.map_nil]); first | done | rfl | (simp only [List.length_drop, List.length_take]; rfl)) ?_; (with_reducible refine (impl_atOnce.calls k1 _ _ y _ _ z true _ ?side1 ?side2 ?side3 ?side4 G5.out).mono ?_); (case side1 => exact C_of_fixed_ (Kd.R_reads' (by (with_reducible repeat (first | apply Kd.R_alloc | apply Kd.R_drewN | apply Kd.R_drew)); exact HO.out : Kd.R (Kd.fixed (Kd.slice 3 (Kd.int .i64)) wb) 29 _ w.heap.size (fun _ => True) (.slice Ay y.length cy) y)).2.2 (below_step HWB.out (by repeat (first | (with_reducible first | exact HB.out | apply below_alloc | apply pw_below_drewN | apply below_drew1) | exact HB.out)))); (case side2 => exact (Kd.R_reads' HO.out).2.1); (case side3 => repeat (first | exact (Kd.C_below HR9.out HB.out) | (with_reducible refine Kd.C_alloc ?_ _) | (with_reducible refine Kd.C_drewN ?_ _) | (with_reducible refine Kd.C_drew ?_))); (case side4 => exact HL9.out); rintro e w5 ⟨rfl, hb⟩; refine ⟨_, rfl, ?_⟩; have q_ := Aside0.mk (Kd.R_below (by (with_reducible repeat (first | apply Kd.R_alloc | apply Kd.R_drewN | apply Kd.R_drew)); exact HO.out : Kd.R (Kd.fixed (Kd.slice 3 (Kd.int .i64)) wb) 29 _ w.heap.size (fun _ => True) (.slice Ay y.length cy) y) hb); clear HO; have HO := q_; clear q_; have n0_ := Aside0.mk (below_step (by repeat (first | (with_reducible first | exact HB.out | apply below_alloc | apply pw_below_drewN | apply below_drew1) | exact HB.out)) hb); clear HB; have HB := n0_; clear n0_; (try clear hb)) | ((with_reducible refine gate_builtin (b := .append) (xs := #[.tmp 24, .tmp 26]) rfl ?_); at_builtin; refine Kd.R_append (Kd.fixed (Kd.slice 3 (Kd.int .i64)) wb) (w0 := w) w.heap.size rfl (.tmp 24) (.tmp 26) 22 29 (.slice none 0 0) 24 rfl Try.underlying22 info29 rfl Nat.zero_lt_one (by omega) (.slice Ay y.length cy) y z [.slice A9 z.length c9] (fun _ => True) (fun _ => False) rfl rfl ?aP (fun _ h => h.elim) ?aF ?aO ?aB ?aS ?aL ?_; (case aP => exact HKZ.out); (case aB => exact (by repeat (first | (with_reducible first | exact HB.out | apply below_alloc | apply pw_below_drewN | apply below_drew1) | exact HB.out))); (case aF => exact (fun _ _ => trivial)); (case aO => exact (by (with_reducible repeat (first | apply Kd.R_alloc | apply Kd.R_drewN | apply Kd.R_drew)); exact HO.out)); (case aS => exact (below_size (by repeat (first | (with_reducible first | exact HB.out | apply below_alloc | apply pw_below_drewN | apply below_drew1) | exact HB.out)))); (case aL => have := LA.out; omega); intro v6 w6 ho hb hg hat; rw [← NY2.out] at ho; have n0_ := Aside0.mk hb; have n1_ := Aside0.mk ho; clear HB; clear HO; have HB := n0_; have HO := n1_; clear n0_ n1_; clear ho hb hg hat))
                go_roundg k1
                case measure => have := HK.out; omega
                case rel => exact ⟨y2, wrap64 (x + 1), by first | rfl | (rw [← HW.out]; done) | (rw [HW.out]; done) | simp [HW.out], H', ⟨by have := HK.out; omega⟩, ⟨by (with_reducible repeat (first | apply Kd.R_alloc | apply Kd.R_drewN | apply Kd.R_drew)); exact HO.out⟩, ⟨by repeat (first | (with_reducible first | exact HB.out | apply below_alloc | apply pw_below_drewN | apply below_drew1) | exact HB.out)⟩⟩
              · rw [if_neg c6] at h
                exact absurd h (by simp)
          · rw [if_neg c4] at h
            exact absurd h (by simp)
        · rw [if_neg c3] at h
          have c3b0 : decide (x < (l1.length : Int)) = false := decide_eq_false c3
          clear c3
          by_cases c7 : 0 < l1.length
          · have c7b : decide (0 < l1.length) = true := decide_eq_true c7
            have c7c : decide ((0 : Int) < (l1.length : Int)) = true := decide_eq_true (by omega)
            have p101 : 0 ≤ (l1.length : Int) - 1 := by omega
            have q101 : (l1.length : Int) - 1 < (l1.length : Int) := by omega
            obtain ⟨ad101, A9, c9, e101, hx101_0, hl9, hr9⟩ := rowIn_at HR1.out _ p101 q101
            cases e101
            replace hx101_0 := (HB.out.cell (World.block_lt_of_cell? w _ hx101_0)).trans hx101_0
            obtain ⟨z, hz⟩ : ∃ z, rowIn_ l1 ((l1.length : Int) - 1) = z := ⟨_, rfl⟩
            rw [hz] at hx101_0 h
            rw [show ((l1.length : Int) - 1).toNat = l1.length - 1 by omega] at hx101_0
            obtain ⟨rfl, rfl⟩ : (z.length == 0) = r1 ∧ (l1.length : Int) = r2 := by simpa [c7b] using h
            have HW := Aside0.mk (show wrap64 ((l1.length : Int) - 1) = (l1.length : Int) - 1 by have := HL.out; unfold wrap64; omega)
            have l1b : (l1.length : Int) ≤ 9223372036854775807 := by have := HL.out; omega
            have l1c : (1 : Int) ≤ (l1.length : Int) := by omega
            clear h hz hl9 hr9 c7
            replace p101 := eq_true p101
            replace q101 := eq_true q101
            go_wp2
            go_ret2
            refine ⟨?_, by repeat (first | (with_reducible first | exact HB.out | apply below_alloc | apply pw_below_drewN | apply below_drew1) | exact HB.out)⟩
            simp
            rw [Bool.eq_iff_iff]
            simp
          · have c7b : decide (0 < l1.length) = false := decide_eq_false c7
            have c7c : decide ((0 : Int) < (l1.length : Int)) = false := decide_eq_false (by omega)
            obtain ⟨rfl, rfl⟩ : false = r1 ∧ (l1.length : Int) = r2 := by simpa [c7b] using h
            clear h c7
            go_wp2
            go_ret2
            exact ⟨by first | rfl | simp, by repeat (first | (with_reducible first | exact HB.out | apply below_alloc | apply pw_below_drewN | apply below_drew1) | exact HB.out)⟩
  · rw [if_neg c0'] at h
    exact absurd h (by simp)


/-! ### impl_RefuteBy: function 31 -/
def impl_RefuteBy.f (k : Nat) (a0 : Int) (l1 : List (List Int)) : Option (Bool × Bool) := (impl_Solve.f k a0 l1).bind fun bt239 => (if bt239.2.2.2 = true then (if bt239.1 = true then (some (false, bt239.2.2.2)) else ((impl_check.f k l1 bt239.2.2.1).bind fun bt247 => (some (bt247.1, true)))) else (some (false, bt239.2.2.2)))
theorem impl_RefuteBy.mono : ∀ a0 a1 k, LeO (impl_RefuteBy.f k a0 a1) (impl_RefuteBy.f (k + 1) a0 a1) := by
  intro a0 a1 k
  unfold impl_RefuteBy.f
  repeat' first
      | (with_reducible exact impl_Solve.mono _ _ _)
      | (with_reducible exact impl_check.mono _ _ _)
      | (with_reducible exact LeO.refl _)
      | (with_reducible exact LeO.none _)
      | (with_reducible refine LeO.ite ?_ ?_)
      | (with_reducible refine LeO.bind ?_ (fun _ => ?_))
      | exact impl_Solve.mono _ _ _
      | exact impl_check.mono _ _ _
      | exact LeO.none _
      | refine LeO.ite ?_ ?_
      | refine LeO.bind ?_ (fun _ => ?_)
set_option maxHeartbeats 8000000 in
set_option maxRecDepth 100000 in
theorem impl_RefuteBy.calls (k : Nat) (a0 : Int) (A1 : Option Addr) (c1 : Nat) (l1 : List (List Int)) (r1 : Bool) (r2 : Bool) (w : World) (hr1 : Kd.C (Kd.slice 3 (Kd.int .i64)) w A1 l1.length l1) (hc1 : l1.length ≤ c1) (h : impl_RefuteBy.f k a0 l1 = some (r1, r2)) :
    Calls Try.prog 31 #[.int .i64 a0, .slice A1 l1.length c1] w fun e w' => e = .returned (.tuple #[.bool r1, .bool r2]) ∧ Below w.heap.size w w' := by
  have HR1 := Aside0.mk hr1
  have HC1 := Aside0.mk hc1
  clear hr1 hc1
  have HB := Aside0.mk (Below.refl w.heap.size w)
  have H : ((impl_Solve.f k a0 l1).bind fun bt239 => (if bt239.2.2.2 = true then (if bt239.1 = true then (some (false, bt239.2.2.2)) else ((impl_check.f k l1 bt239.2.2.1).bind fun bt247 => (some (bt247.1, true)))) else (some (false, bt239.2.2.2)))) = some (r1, r2) := h
  clear h
  replace H := Option.bind_eq_some_iff.mp H
  obtain ⟨⟨t239, t240, t241, t242⟩, A30, H⟩ := H
  replace H : (if t242 = true then (if t239 = true then (some (false, t242)) else ((impl_check.f k l1 t241).bind fun bt247 => (some (bt247.1, true)))) else (some (false, t242))) = some (r1, r2) := H
  have A3 := Aside0.mk A30
  clear A30
  by_cases c4 : t242 = true
  · subst c4
    have H1 : (if t239 = true then (some (false, true)) else ((impl_check.f k l1 t241).bind fun bt247 => (some (bt247.1, true)))) = some (r1, r2) := by rw [if_pos rfl] at H; exact H
    clear H
    have H := H1
    clear H1
    by_cases c5 : t239 = true
    · subst c5
      have H1 : (some (false, true)) = some (r1, r2) := by rw [if_pos rfl] at H; exact H
      clear H
      have H := H1
      clear H1
      simp only [Option.some.injEq, Prod.mk.injEq] at H
      obtain ⟨rfl, rfl⟩ := H
      go_enter Try.func31, Try.ntmps31
      go_wp2_with (first | ((with_reducible refine gate_callee (f := 33) rfl ?_); refine goesL_ (some 15) rfl rfl Try.func33 (by kernel_rfl) rfl #[.int .i64 a0, .slice A1 l1.length c1] rfl (by (try simp only [List.map_toArray, List.map_cons, List.map_nil]); first | done | rfl | (simp only [List.length_drop, List.length_take]; rfl)) ?_; (with_reducible refine (impl_Solve.calls k a0 _ _ l1 true t240 t241 true _ ?side1 ?side2 A3.out).mono ?_); (case side1 => repeat (first | exact HR1.out | (with_reducible refine Kd.C_alloc ?_ _) | (with_reducible refine Kd.C_drewN ?_ _) | (with_reducible refine Kd.C_drew ?_))); (case side2 => exact HC1.out); rintro e w6 ⟨v243, v245, rfl, ho0, ho1, hb⟩; refine ⟨_, rfl, ?_⟩; have n0_ := Aside0.mk (Kd.R_lower ho0 (below_size (by repeat (first | (with_reducible first | exact HB.out | apply below_alloc | apply pw_below_drewN | apply below_drew1) | exact HB.out)))); have n1_ := Aside0.mk (Kd.S_lower ho1 (below_size (by repeat (first | (with_reducible first | exact HB.out | apply below_alloc | apply pw_below_drewN | apply below_drew1) | exact HB.out)))); have n2_ := Aside0.mk (below_step (by repeat (first | (with_reducible first | exact HB.out | apply below_alloc | apply pw_below_drewN | apply below_drew1) | exact HB.out)) hb); clear HB; have HO244 := n0_; have HO246 := n1_; have HB := n2_; clear n0_ n1_ n2_; (try clear hb); (try clear hb2); (try clear hk); (try clear hi); (try clear ho0); (try clear ho1)))
      go_ret2
      exact ⟨by first | rfl | (simp [errW_none, errW_some] <;> rfl) | (simp [*, errW_none, errW_some] <;> rfl), by repeat (first | (with_reducible first | exact HB.out | apply below_alloc | apply pw_below_drewN | apply below_drew1) | exact HB.out)⟩
    · replace c5 := Bool.eq_false_iff.mpr c5
      subst c5
      have H1 : ((impl_check.f k l1 t241).bind fun bt247 => (some (bt247.1, true))) = some (r1, r2) := by rw [if_neg (show ¬ (false = true) by decide)] at H; exact H
      clear H
      have H := H1
      clear H1
      replace H := Option.bind_eq_some_iff.mp H
      obtain ⟨⟨t247, t248⟩, A70, H⟩ := H
      replace H : (some (t247, true)) = some (r1, r2) := H
      have A7 := Aside0.mk A70
      clear A70
      simp only [Option.some.injEq, Prod.mk.injEq] at H
      obtain ⟨rfl, rfl⟩ := H
      go_enter Try.func31, Try.ntmps31
      go_wp2_with (first | ((with_reducible refine gate_callee (f := 33) rfl ?_); refine goesL_ (some 15) rfl rfl Try.func33 (by kernel_rfl) rfl #[.int .i64 a0, .slice A1 l1.length c1] rfl (by (try simp only [List.map_toArray, List.map_cons, List.map_nil]); first | done | rfl | (simp only [List.length_drop, List.length_take]; rfl)) ?_; (with_reducible refine (impl_Solve.calls k a0 _ _ l1 false t240 t241 true _ ?side1 ?side2 A3.out).mono ?_); (case side1 => repeat (first | exact HR1.out | (with_reducible refine Kd.C_alloc ?_ _) | (with_reducible refine Kd.C_drewN ?_ _) | (with_reducible refine Kd.C_drew ?_))); (case side2 => exact HC1.out); rintro e w8 ⟨v243, v245, rfl, ho0, ho1, hb⟩; refine ⟨_, rfl, ?_⟩; have n0_ := Aside0.mk (Kd.R_lower ho0 (below_size (by repeat (first | (with_reducible first | exact HB.out | apply below_alloc | apply pw_below_drewN | apply below_drew1) | exact HB.out)))); have n1_ := Aside0.mk (Kd.S_lower ho1 (below_size (by repeat (first | (with_reducible first | exact HB.out | apply below_alloc | apply pw_below_drewN | apply below_drew1) | exact HB.out)))); have n2_ := Aside0.mk (below_step (by repeat (first | (with_reducible first | exact HB.out | apply below_alloc | apply pw_below_drewN | apply below_drew1) | exact HB.out)) hb); clear HB; have HO244 := n0_; have HO246 := n1_; have HB := n2_; clear n0_ n1_ n2_; (try clear hb); (try clear hb2); (try clear hk); (try clear hi); (try clear ho0); (try clear ho1); obtain ⟨Ao9, co9, eo9⟩ := Kd.S_slice HO246.out; subst eo9) | ((with_reducible refine gate_callee (f := 43) rfl ?_); refine goesL_ (some 29) rfl rfl Try.func43 (by kernel_rfl) rfl #[.slice A1 l1.length c1, .slice Ao9 t241.length co9] rfl (by (try simp only [List.map_toArray, List.map_cons, List.map_nil]); first | done | rfl | (simp only [List.length_drop, List.length_take]; rfl)) ?_; (with_reducible refine (impl_check.calls k _ _ l1 _ _ t241 t247 t248 _ ?side1 ?side2 ?side3 ?side4 A7.out).mono ?_); (case side1 => repeat (first | exact (Kd.C_below HR1.out HB.out) | (with_reducible refine Kd.C_alloc ?_ _) | (with_reducible refine Kd.C_drewN ?_ _) | (with_reducible refine Kd.C_drew ?_))); (case side2 => exact HC1.out); (case side3 => repeat (first | exact (Kd.S_reads' HO246.out).2.2 | (with_reducible refine Kd.C_alloc ?_ _) | (with_reducible refine Kd.C_drewN ?_ _) | (with_reducible refine Kd.C_drew ?_))); (case side4 => exact (Kd.S_reads' HO246.out).2.1); rintro e w10 ⟨rfl, hb⟩; refine ⟨_, rfl, ?_⟩; have n0_ := Aside0.mk (Kd.R_below (by (with_reducible repeat (first | apply Kd.R_alloc | apply Kd.R_drewN | apply Kd.R_drew)); exact HO244.out) hb); have n1_ := Aside0.mk (Kd.S_below (by (with_reducible repeat (first | apply Kd.S_alloc | apply Kd.S_drewN | apply Kd.S_drew)); exact HO246.out) hb); have n2_ := Aside0.mk (below_step (by repeat (first | (with_reducible first | exact HB.out | apply below_alloc | apply pw_below_drewN | apply below_drew1) | exact HB.out)) hb); clear HO244; clear HO246; clear HB; have HO244 := n0_; have HO246 := n1_; have HB := n2_; clear n0_ n1_ n2_; (try clear hb); (try clear hb2); (try clear hk); (try clear hi)))
      go_ret2
      exact ⟨by first | rfl | (simp [errW_none, errW_some] <;> rfl) | (simp [*, errW_none, errW_some] <;> rfl), by repeat (first | (with_reducible first | exact HB.out | apply below_alloc | apply pw_below_drewN | apply below_drew1) | exact HB.out)⟩
  · replace c4 := Bool.eq_false_iff.mpr c4
    subst c4
    have H1 : (some (false, false)) = some (r1, r2) := by rw [if_neg (show ¬ (false = true) by decide)] at H; exact H
    clear H
    have H := H1
    clear H1
    simp only [Option.some.injEq, Prod.mk.injEq] at H
    obtain ⟨rfl, rfl⟩ := H
    go_enter Try.func31, Try.ntmps31
    go_wp2_with (first | ((with_reducible refine gate_callee (f := 33) rfl ?_); refine goesL_ (some 15) rfl rfl Try.func33 (by kernel_rfl) rfl #[.int .i64 a0, .slice A1 l1.length c1] rfl (by (try simp only [List.map_toArray, List.map_cons, List.map_nil]); first | done | rfl | (simp only [List.length_drop, List.length_take]; rfl)) ?_; (with_reducible refine (impl_Solve.calls k a0 _ _ l1 t239 t240 t241 false _ ?side1 ?side2 A3.out).mono ?_); (case side1 => repeat (first | exact HR1.out | (with_reducible refine Kd.C_alloc ?_ _) | (with_reducible refine Kd.C_drewN ?_ _) | (with_reducible refine Kd.C_drew ?_))); (case side2 => exact HC1.out); rintro e w11 ⟨v243, v245, rfl, ho0, ho1, hb⟩; refine ⟨_, rfl, ?_⟩; have n0_ := Aside0.mk (Kd.R_lower ho0 (below_size (by repeat (first | (with_reducible first | exact HB.out | apply below_alloc | apply pw_below_drewN | apply below_drew1) | exact HB.out)))); have n1_ := Aside0.mk (Kd.S_lower ho1 (below_size (by repeat (first | (with_reducible first | exact HB.out | apply below_alloc | apply pw_below_drewN | apply below_drew1) | exact HB.out)))); have n2_ := Aside0.mk (below_step (by repeat (first | (with_reducible first | exact HB.out | apply below_alloc | apply pw_below_drewN | apply below_drew1) | exact HB.out)) hb); clear HB; have HO244 := n0_; have HO246 := n1_; have HB := n2_; clear n0_ n1_ n2_; (try clear hb); (try clear hb2); (try clear hk); (try clear hi); (try clear ho0); (try clear ho1)))
    go_ret2
    exact ⟨by first | rfl | (simp [errW_none, errW_some] <;> rfl) | (simp [*, errW_none, errW_some] <;> rfl), by repeat (first | (with_reducible first | exact HB.out | apply below_alloc | apply pw_below_drewN | apply below_drew1) | exact HB.out)⟩

/-! ### laws_FnExactRefuteBy: function 8 -/
def laws_FnExactRefuteBy.f (k : Nat) (a0 : Int) (l1 : List (List Int)) : Option (Bool) := (laws_szIntSS.f k l1 1048576).bind fun t249 => (if t249 < 0 then (some true) else ((laws_toIntSS.f k l1).bind fun t250 => ((spec_RefuteBy.f k a0 t250).bind fun bt253 => ((laws_toIntSS.f k l1).bind fun t255 => ((impl_RefuteBy.f k a0 t255).bind fun bt258 => (if (bt258.1 != bt253.1) = true then (none) else (if (bt258.2 != bt253.2) = true then (none) else ((laws_toIntSS.f k l1).bind fun t260 => ((laws_eqIntSS.f k t255 t260).bind fun t263 => (if t263 = true then (some true) else (none)))))))))))
theorem laws_FnExactRefuteBy.mono : ∀ a0 a1 k, LeO (laws_FnExactRefuteBy.f k a0 a1) (laws_FnExactRefuteBy.f (k + 1) a0 a1) := by
  intro a0 a1 k
  unfold laws_FnExactRefuteBy.f
  repeat' first
      | (with_reducible exact impl_RefuteBy.mono _ _ _)
      | (with_reducible exact laws_eqIntSS.mono _ _ _)
      | (with_reducible exact laws_szIntSS.mono _ _ _)
      | (with_reducible exact laws_toIntSS.mono _ _)
      | (with_reducible exact spec_RefuteBy.mono _ _ _)
      | (with_reducible exact LeO.refl _)
      | (with_reducible exact LeO.none _)
      | (with_reducible refine LeO.ite ?_ ?_)
      | (with_reducible refine LeO.bind ?_ (fun _ => ?_))
      | exact impl_RefuteBy.mono _ _ _
      | exact laws_eqIntSS.mono _ _ _
      | exact laws_szIntSS.mono _ _ _
      | exact laws_toIntSS.mono _ _
      | exact spec_RefuteBy.mono _ _ _
      | exact LeO.none _
      | refine LeO.ite ?_ ?_
      | refine LeO.bind ?_ (fun _ => ?_)
set_option maxHeartbeats 8000000 in
set_option maxRecDepth 100000 in
theorem laws_FnExactRefuteBy.calls (k : Nat) (a0 : Int) (A1 : Option Addr) (c1 : Nat) (l1 : List (List Int)) (r : Bool) (w : World) (hr1 : Kd.C (Kd.slice 3 (Kd.int .i64)) w A1 l1.length l1) (hc1 : l1.length ≤ c1) (h : laws_FnExactRefuteBy.f k a0 l1 = some r) :
    Calls Try.prog 8 #[.int .i64 a0, .slice A1 l1.length c1] w fun e w' => e = .returned (.bool r) ∧ Below w.heap.size w w' := by
  have HR1 := Aside0.mk hr1
  have HC1 := Aside0.mk hc1
  clear hr1 hc1
  have HB := Aside0.mk (Below.refl w.heap.size w)
  have HTop := Aside0.mk (Nat.zero_le w.heap.size)
  have H : ((laws_szIntSS.f k l1 1048576).bind fun t249 => (if t249 < 0 then (some true) else ((laws_toIntSS.f k l1).bind fun t250 => ((spec_RefuteBy.f k a0 t250).bind fun bt253 => ((laws_toIntSS.f k l1).bind fun t255 => ((impl_RefuteBy.f k a0 t255).bind fun bt258 => (if (bt258.1 != bt253.1) = true then (none) else (if (bt258.2 != bt253.2) = true then (none) else ((laws_toIntSS.f k l1).bind fun t260 => ((laws_eqIntSS.f k t255 t260).bind fun t263 => (if t263 = true then (some true) else (none)))))))))))) = some r := h
  clear h
  replace H := Option.bind_eq_some_iff.mp H
  obtain ⟨t249, A30, H⟩ := H
  replace H : (if t249 < 0 then (some true) else ((laws_toIntSS.f k l1).bind fun t250 => ((spec_RefuteBy.f k a0 t250).bind fun bt253 => ((laws_toIntSS.f k l1).bind fun t255 => ((impl_RefuteBy.f k a0 t255).bind fun bt258 => (if (bt258.1 != bt253.1) = true then (none) else (if (bt258.2 != bt253.2) = true then (none) else ((laws_toIntSS.f k l1).bind fun t260 => ((laws_eqIntSS.f k t255 t260).bind fun t263 => (if t263 = true then (some true) else (none))))))))))) = some r := H
  have A3 := Aside0.mk A30
  clear A30
  by_cases c4 : t249 < 0
  · rw [if_pos c4] at H
    have c4b0 : decide (t249 < 0) = true := decide_eq_true c4
    clear c4
    obtain rfl := Option.some.inj H
    go_enter Try.func8, Try.ntmps8
    go_wp2_with (first | ((with_reducible refine gate_callee (f := 11) rfl ?_); refine goesL_ (some 13) rfl rfl Try.func11 (by kernel_rfl) rfl #[.slice A1 l1.length c1, .int .i64 1048576] rfl (by (try simp only [List.map_toArray, List.map_cons, List.map_nil]); first | done | rfl | (simp only [List.length_drop, List.length_take]; rfl)) ?_; (with_reducible refine (laws_szIntSS.calls k _ _ l1 1048576 t249 _ ?side1 ?side2 A3.out).mono ?_); (case side1 => repeat (first | exact HR1.out | (with_reducible refine Kd.C_alloc ?_ _) | (with_reducible refine Kd.C_drewN ?_ _) | (with_reducible refine Kd.C_drew ?_))); (case side2 => exact HC1.out); rintro e w' ⟨rfl, ⟨nd, rfl⟩⟩; refine ⟨_, rfl, ?_⟩))
    go_ret
    exact ⟨by first | rfl | (simp [errW_none, errW_some] <;> rfl) | (simp [*, errW_none, errW_some] <;> rfl), by repeat (first | (with_reducible first | exact HB.out | apply below_alloc | apply pw_below_drewN | apply below_drew1) | exact HB.out)⟩
  · rw [if_neg c4] at H
    have c4b0 : decide (t249 < 0) = false := decide_eq_false c4
    clear c4
    replace H := Option.bind_eq_some_iff.mp H
    obtain ⟨t250, A50, H⟩ := H
    replace H : ((spec_RefuteBy.f k a0 t250).bind fun bt253 => ((laws_toIntSS.f k l1).bind fun t255 => ((impl_RefuteBy.f k a0 t255).bind fun bt258 => (if (bt258.1 != bt253.1) = true then (none) else (if (bt258.2 != bt253.2) = true then (none) else ((laws_toIntSS.f k l1).bind fun t260 => ((laws_eqIntSS.f k t255 t260).bind fun t263 => (if t263 = true then (some true) else (none))))))))) = some r := H
    have A5 := Aside0.mk A50
    clear A50
    replace H := Option.bind_eq_some_iff.mp H
    obtain ⟨⟨t253, t254⟩, A60, H⟩ := H
    replace H : ((laws_toIntSS.f k l1).bind fun t255 => ((impl_RefuteBy.f k a0 t255).bind fun bt258 => (if (bt258.1 != t253) = true then (none) else (if (bt258.2 != t254) = true then (none) else ((laws_toIntSS.f k l1).bind fun t260 => ((laws_eqIntSS.f k t255 t260).bind fun t263 => (if t263 = true then (some true) else (none)))))))) = some r := H
    have A6 := Aside0.mk A60
    clear A60
    replace H := Option.bind_eq_some_iff.mp H
    obtain ⟨t255, A70, H⟩ := H
    replace H : ((impl_RefuteBy.f k a0 t255).bind fun bt258 => (if (bt258.1 != t253) = true then (none) else (if (bt258.2 != t254) = true then (none) else ((laws_toIntSS.f k l1).bind fun t260 => ((laws_eqIntSS.f k t255 t260).bind fun t263 => (if t263 = true then (some true) else (none))))))) = some r := H
    have A7 := Aside0.mk A70
    clear A70
    replace H := Option.bind_eq_some_iff.mp H
    obtain ⟨⟨t258, t259⟩, A80, H⟩ := H
    replace H : (if (t258 != t253) = true then (none) else (if (t259 != t254) = true then (none) else ((laws_toIntSS.f k l1).bind fun t260 => ((laws_eqIntSS.f k t255 t260).bind fun t263 => (if t263 = true then (some true) else (none)))))) = some r := H
    have A8 := Aside0.mk A80
    clear A80
    by_cases c9 : (t258 != t253) = true
    · rw [if_pos c9] at H
      exact absurd H (by simp)
    · rw [if_neg c9] at H
      have c9b0 : (t258 != t253) = false := by simpa using c9
      (try (have c9b1 : decide (t258 = t253) = true := by simpa using c9))
      (try (have c9b2 : (t258 == t253) = true := by simpa using c9))
      clear c9
      by_cases c10 : (t259 != t254) = true
      · rw [if_pos c10] at H
        exact absurd H (by simp)
      · rw [if_neg c10] at H
        have c10b0 : (t259 != t254) = false := by simpa using c10
        (try (have c10b1 : decide (t259 = t254) = true := by simpa using c10))
        (try (have c10b2 : (t259 == t254) = true := by simpa using c10))
        clear c10
        replace H := Option.bind_eq_some_iff.mp H
        obtain ⟨t260, A110, H⟩ := H
        replace H : ((laws_eqIntSS.f k t255 t260).bind fun t263 => (if t263 = true then (some true) else (none))) = some r := H
        have A11 := Aside0.mk A110
        clear A110
        replace H := Option.bind_eq_some_iff.mp H
        obtain ⟨t263, A120, H⟩ := H
        replace H : (if t263 = true then (some true) else (none)) = some r := H
        have A12 := Aside0.mk A120
        clear A120
        by_cases c13 : t263 = true
        · subst c13
          have H1 : (some true) = some r := by rw [if_pos rfl] at H; exact H
          clear H
          have H := H1
          clear H1
          obtain rfl := Option.some.inj H
          go_enter Try.func8, Try.ntmps8
          go_wp2_with (first | ((with_reducible refine gate_callee (f := 11) rfl ?_); refine goesL_ (some 13) rfl rfl Try.func11 (by kernel_rfl) rfl #[.slice A1 l1.length c1, .int .i64 1048576] rfl (by (try simp only [List.map_toArray, List.map_cons, List.map_nil]); first | done | rfl | (simp only [List.length_drop, List.length_take]; rfl)) ?_; (with_reducible refine (laws_szIntSS.calls k _ _ l1 1048576 t249 _ ?side1 ?side2 A3.out).mono ?_); (case side1 => repeat (first | exact HR1.out | (with_reducible refine Kd.C_alloc ?_ _) | (with_reducible refine Kd.C_drewN ?_ _) | (with_reducible refine Kd.C_drew ?_))); (case side2 => exact HC1.out); rintro e w' ⟨rfl, ⟨nd, rfl⟩⟩; refine ⟨_, rfl, ?_⟩) | ((with_reducible refine gate_callee (f := 13) rfl ?_); refine goesL_ (some 19) rfl rfl Try.func13 (by kernel_rfl) rfl #[.slice A1 l1.length c1] rfl (by (try simp only [List.map_toArray, List.map_cons, List.map_nil]); first | done | rfl | (simp only [List.length_drop, List.length_take]; rfl)) ?_; (with_reducible refine (laws_toIntSS.calls k _ _ l1 t250 _ ?side1 ?side2 A5.out).mono ?_); (case side1 => repeat (first | exact HR1.out | (with_reducible refine Kd.C_alloc ?_ _) | (with_reducible refine Kd.C_drewN ?_ _) | (with_reducible refine Kd.C_drew ?_))); (case side2 => exact HC1.out); rintro e w14 ⟨v251, rfl, ho0, hb⟩; refine ⟨_, rfl, ?_⟩; obtain ⟨lo1, hi1, EL1, EH1, LE1⟩ := iv_ hb; have OR1 := Aside0.mk (show 0 ≤ lo1 ∧ lo1 ≤ hi1 from ⟨Nat.le_trans HTop.out (Nat.le_of_eq EL1), LE1⟩); have n0_ := Aside0.mk (Kd.S_mono (ok' := fun k_ => lo1 ≤ k_ ∧ k_ < hi1) (Kd.S_lower (Kd.S_bound ho0) (below_size (by repeat (first | (with_reducible first | exact HB.out | apply below_alloc | apply pw_below_drewN | apply below_drew1) | exact HB.out)))) (fun k_ hk_ => by have a_ := hk_.2.1; have b_ := hk_.2.2.1; omega)); have n1_ := Aside0.mk (Nat.le_of_eq EH1.symm); have n2_ := Aside0.mk (below_step (by repeat (first | (with_reducible first | exact HB.out | apply below_alloc | apply pw_below_drewN | apply below_drew1) | exact HB.out)) hb); clear HTop; clear HB; have HO252 := n0_; have HTop := n1_; have HB := n2_; clear n0_ n1_ n2_; (try clear hb); (try clear hb2); (try clear hk); (try clear hi); (try clear ho0); (try clear EL1); (try clear EH1); (try clear LE1); obtain ⟨Ao15, co15, eo15⟩ := Kd.S_slice HO252.out; subst eo15) | ((with_reducible refine gate_callee (f := 30) rfl ?_); refine goesL_ (some 20) rfl rfl Try.func30 (by kernel_rfl) rfl #[.int .i64 a0, .slice Ao15 t250.length co15] rfl (by (try simp only [List.map_toArray, List.map_cons, List.map_nil]); first | done | rfl | (simp only [List.length_drop, List.length_take]; rfl)) ?_; (with_reducible refine (spec_RefuteBy.calls k a0 _ _ t250 t253 t254 _ ?side1 ?side2 A6.out).mono ?_); (case side1 => repeat (first | exact (Kd.S_reads' HO252.out).2.2 | (with_reducible refine Kd.C_alloc ?_ _) | (with_reducible refine Kd.C_drewN ?_ _) | (with_reducible refine Kd.C_drew ?_))); (case side2 => exact (Kd.S_reads' HO252.out).2.1); rintro e w16 ⟨rfl, hb⟩; refine ⟨_, rfl, ?_⟩; obtain ⟨lo2, hi2, EL2, EH2, LE2⟩ := iv_ hb; have OR2 := Aside0.mk (show hi1 ≤ lo2 ∧ lo2 ≤ hi2 from ⟨Nat.le_trans HTop.out (Nat.le_of_eq EL2), LE2⟩); have n0_ := Aside0.mk (Kd.S_below (by (with_reducible repeat (first | apply Kd.S_alloc | apply Kd.S_drewN | apply Kd.S_drew)); exact HO252.out) hb); have n1_ := Aside0.mk (Nat.le_of_eq EH2.symm); have n2_ := Aside0.mk (below_step (by repeat (first | (with_reducible first | exact HB.out | apply below_alloc | apply pw_below_drewN | apply below_drew1) | exact HB.out)) hb); clear HO252; clear HTop; clear HB; have HO252 := n0_; have HTop := n1_; have HB := n2_; clear n0_ n1_ n2_; (try clear hb); (try clear hb2); (try clear hk); (try clear hi); (try clear EL2); (try clear EH2); (try clear LE2)) | ((with_reducible refine gate_callee (f := 13) rfl ?_); refine goesL_ (some 24) rfl rfl Try.func13 (by kernel_rfl) rfl #[.slice A1 l1.length c1] rfl (by (try simp only [List.map_toArray, List.map_cons, List.map_nil]); first | done | rfl | (simp only [List.length_drop, List.length_take]; rfl)) ?_; (with_reducible refine (laws_toIntSS.calls k _ _ l1 t255 _ ?side1 ?side2 A7.out).mono ?_); (case side1 => repeat (first | exact (Kd.C_below HR1.out HB.out) | (with_reducible refine Kd.C_alloc ?_ _) | (with_reducible refine Kd.C_drewN ?_ _) | (with_reducible refine Kd.C_drew ?_))); (case side2 => exact HC1.out); rintro e w17 ⟨v256, rfl, ho0, hb⟩; refine ⟨_, rfl, ?_⟩; obtain ⟨lo3, hi3, EL3, EH3, LE3⟩ := iv_ hb; have OR3 := Aside0.mk (show hi2 ≤ lo3 ∧ lo3 ≤ hi3 from ⟨Nat.le_trans HTop.out (Nat.le_of_eq EL3), LE3⟩); have n0_ := Aside0.mk (Kd.S_below (by (with_reducible repeat (first | apply Kd.S_alloc | apply Kd.S_drewN | apply Kd.S_drew)); exact HO252.out) hb); have n1_ := Aside0.mk (Kd.S_mono (ok' := fun k_ => lo3 ≤ k_ ∧ k_ < hi3) (Kd.S_lower (Kd.S_bound ho0) (below_size (by repeat (first | (with_reducible first | exact HB.out | apply below_alloc | apply pw_below_drewN | apply below_drew1) | exact HB.out)))) (fun k_ hk_ => by have a_ := hk_.2.1; have b_ := hk_.2.2.1; omega)); have n2_ := Aside0.mk (Nat.le_of_eq EH3.symm); have n3_ := Aside0.mk (below_step (by repeat (first | (with_reducible first | exact HB.out | apply below_alloc | apply pw_below_drewN | apply below_drew1) | exact HB.out)) hb); clear HO252; clear HTop; clear HB; have HO252 := n0_; have HO257 := n1_; have HTop := n2_; have HB := n3_; clear n0_ n1_ n2_ n3_; (try clear hb); (try clear hb2); (try clear hk); (try clear hi); (try clear ho0); (try clear EL3); (try clear EH3); (try clear LE3); obtain ⟨Ao18, co18, eo18⟩ := Kd.S_slice HO257.out; subst eo18) | ((with_reducible refine gate_callee (f := 31) rfl ?_); refine goesL_ (some 28) rfl rfl Try.func31 (by kernel_rfl) rfl #[.int .i64 a0, .slice Ao18 t255.length co18] rfl (by (try simp only [List.map_toArray, List.map_cons, List.map_nil]); first | done | rfl | (simp only [List.length_drop, List.length_take]; rfl)) ?_; (with_reducible refine (impl_RefuteBy.calls k a0 _ _ t255 t258 t259 _ ?side1 ?side2 A8.out).mono ?_); (case side1 => repeat (first | exact (Kd.S_reads' HO257.out).2.2 | (with_reducible refine Kd.C_alloc ?_ _) | (with_reducible refine Kd.C_drewN ?_ _) | (with_reducible refine Kd.C_drew ?_))); (case side2 => exact (Kd.S_reads' HO257.out).2.1); rintro e w19 ⟨rfl, hb⟩; refine ⟨_, rfl, ?_⟩; obtain ⟨lo4, hi4, EL4, EH4, LE4⟩ := iv_ hb; have OR4 := Aside0.mk (show hi3 ≤ lo4 ∧ lo4 ≤ hi4 from ⟨Nat.le_trans HTop.out (Nat.le_of_eq EL4), LE4⟩); have n0_ := Aside0.mk (Kd.S_below (by (with_reducible repeat (first | apply Kd.S_alloc | apply Kd.S_drewN | apply Kd.S_drew)); exact HO252.out) hb); have n1_ := Aside0.mk (Kd.S_below (by (with_reducible repeat (first | apply Kd.S_alloc | apply Kd.S_drewN | apply Kd.S_drew)); exact HO257.out) hb); have n2_ := Aside0.mk (Nat.le_of_eq EH4.symm); have n3_ := Aside0.mk (below_step (by repeat (first | (with_reducible first | exact HB.out | apply below_alloc | apply pw_below_drewN | apply below_drew1) | exact HB.out)) hb); clear HO252; clear HO257; clear HTop; clear HB; have HO252 := n0_; have HO257 := n1_; have HTop := n2_; have HB := n3_; clear n0_ n1_ n2_ n3_; (try clear hb); (try clear hb2); (try clear hk); (try clear hi); (try clear EL4); (try clear EH4); (try clear LE4)) | ((with_reducible refine gate_callee (f := 13) rfl ?_); refine goesL_ (some 41) rfl rfl Try.func13 (by kernel_rfl) rfl #[.slice A1 l1.length c1] rfl (by (try simp only [List.map_toArray, List.map_cons, List.map_nil]); first | done | rfl | (simp only [List.length_drop, List.length_take]; rfl)) ?_; (with_reducible refine (laws_toIntSS.calls k _ _ l1 t260 _ ?side1 ?side2 A11.out).mono ?_); (case side1 => repeat (first | exact (Kd.C_below HR1.out HB.out) | (with_reducible refine Kd.C_alloc ?_ _) | (with_reducible refine Kd.C_drewN ?_ _) | (with_reducible refine Kd.C_drew ?_))); (case side2 => exact HC1.out); rintro e w20 ⟨v261, rfl, ho0, hb⟩; refine ⟨_, rfl, ?_⟩; obtain ⟨lo5, hi5, EL5, EH5, LE5⟩ := iv_ hb; have OR5 := Aside0.mk (show hi4 ≤ lo5 ∧ lo5 ≤ hi5 from ⟨Nat.le_trans HTop.out (Nat.le_of_eq EL5), LE5⟩); have n0_ := Aside0.mk (Kd.S_below (by (with_reducible repeat (first | apply Kd.S_alloc | apply Kd.S_drewN | apply Kd.S_drew)); exact HO252.out) hb); have n1_ := Aside0.mk (Kd.S_below (by (with_reducible repeat (first | apply Kd.S_alloc | apply Kd.S_drewN | apply Kd.S_drew)); exact HO257.out) hb); have n2_ := Aside0.mk (Kd.S_mono (ok' := fun k_ => lo5 ≤ k_ ∧ k_ < hi5) (Kd.S_lower (Kd.S_bound ho0) (below_size (by repeat (first | (with_reducible first | exact HB.out | apply below_alloc | apply pw_below_drewN | apply below_drew1) | exact HB.out)))) (fun k_ hk_ => by have a_ := hk_.2.1; have b_ := hk_.2.2.1; omega)); have n3_ := Aside0.mk (Nat.le_of_eq EH5.symm); have n4_ := Aside0.mk (below_step (by repeat (first | (with_reducible first | exact HB.out | apply below_alloc | apply pw_below_drewN | apply below_drew1) | exact HB.out)) hb); clear HO252; clear HO257; clear HTop; clear HB; have HO252 := n0_; have HO257 := n1_; have HO262 := n2_; have HTop := n3_; have HB := n4_; clear n0_ n1_ n2_ n3_ n4_; (try clear hb); (try clear hb2); (try clear hk); (try clear hi); (try clear ho0); (try clear EL5); (try clear EH5); (try clear LE5); obtain ⟨Ao21, co21, eo21⟩ := Kd.S_slice HO262.out; subst eo21) | ((with_reducible refine gate_callee (f := 15) rfl ?_); refine goesL_ (some 42) rfl rfl Try.func15 (by kernel_rfl) rfl #[.slice Ao18 t255.length co18, .slice Ao21 t260.length co21] rfl (by (try simp only [List.map_toArray, List.map_cons, List.map_nil]); first | done | rfl | (simp only [List.length_drop, List.length_take]; rfl)) ?_; (with_reducible refine (laws_eqIntSS.calls k _ _ t255 _ _ t260 true _ ?side1 ?side2 ?side3 ?side4 A12.out).mono ?_); (case side1 => repeat (first | exact (Kd.S_reads' HO257.out).2.2 | (with_reducible refine Kd.C_alloc ?_ _) | (with_reducible refine Kd.C_drewN ?_ _) | (with_reducible refine Kd.C_drew ?_))); (case side2 => exact (Kd.S_reads' HO257.out).2.1); (case side3 => repeat (first | exact (Kd.S_reads' HO262.out).2.2 | (with_reducible refine Kd.C_alloc ?_ _) | (with_reducible refine Kd.C_drewN ?_ _) | (with_reducible refine Kd.C_drew ?_))); (case side4 => exact (Kd.S_reads' HO262.out).2.1); rintro e w' ⟨rfl, ⟨nd, rfl⟩⟩; refine ⟨_, rfl, ?_⟩))
          go_ret
          exact ⟨by first | rfl | (simp [errW_none, errW_some] <;> rfl) | (simp [*, errW_none, errW_some] <;> rfl), by repeat (first | (with_reducible first | exact HB.out | apply below_alloc | apply pw_below_drewN | apply below_drew1) | exact HB.out)⟩
        · replace c13 := Bool.eq_false_iff.mpr c13
          subst c13
          have H1 : (none) = some r := by rw [if_neg (show ¬ (false = true) by decide)] at H; exact H
          clear H
          have H := H1
          clear H1
          exact absurd H (by simp)

/-- The one pure statement of laws_FnExactRefuteBy. -/
def laws_FnExactRefuteBy.Pure : Prop := ∀ (a0 : Int) (l1 : List (List Int)), (Lit.int .i64 a0).wf = true → (l1.length ≤ maxLen ∧ ∀ y_ ∈ l1, (y_.length ≤ maxLen ∧ ∀ z_ ∈ y_, (Lit.int .i64 z_).wf = true)) → ∃ k, laws_FnExactRefuteBy.f k a0 l1 = some true
theorem laws_FnExactRefuteBy.walk : True := trivial

end Go.Proofs.Ytafffpbagdoniaa.PFnExactRefuteBy
