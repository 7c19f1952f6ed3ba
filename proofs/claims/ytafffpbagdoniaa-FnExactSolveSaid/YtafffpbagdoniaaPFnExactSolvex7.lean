-- Made by a program of this session (wip/tools), which leans on the kit's print: checked by Lean alone.
import Derived.Test.YtafffpbagdoniaaPFnExactSolvex0
import Derived.Test.YtafffpbagdoniaaPFnExactSolvex1
import Derived.Test.YtafffpbagdoniaaPFnExactSolvex2
import Derived.Test.YtafffpbagdoniaaPFnExactSolvex4
import Derived.Test.YtafffpbagdoniaaPFnExactSolvex5
import Derived.Test.YtafffpbagdoniaaPFnExactSolvex6
namespace Go.Proofs.Ytafffpbagdoniaa.PFnExactSolve
open Go.RowKit Go.Proofs.YtafffpbagdoniaaW.PrintWords Go.Proofs.YtafffpbagdoniaaW.PrintLast Go.Proofs.YtafffpbagdoniaaW.PrintMore
attribute [local go_sem] max2_int min2_int max_two min_two max_three min_three max_four min_four   -- for this text's walks alone
set_option linter.unusedVariables false
set_option linter.unusedSimpArgs false

/-! ### impl_Solve: function 33 -/
def impl_Solve.f (k : Nat) (a0 : Int) (l1 : List (List Int)) : Option (Bool × List Bool × (List (List Int)) × Bool) := (impl_GoodClauses.f a0 l1).bind fun t197 => (if t197 = true then ((impl_solve.f k a0 l1).bind fun bt198 => (some (bt198.1, bt198.2.1, bt198.2.2.1, bt198.2.2.2))) else (some (false, ([] : List Bool), ([] : List (List Int)), false)))
theorem impl_Solve.mono : ∀ a0 a1 k, LeO (impl_Solve.f k a0 a1) (impl_Solve.f (k + 1) a0 a1) := by
  intro a0 a1 k
  unfold impl_Solve.f
  repeat' first
      | (with_reducible exact impl_solve.mono _ _ _)
      | (with_reducible exact LeO.refl _)
      | (with_reducible exact LeO.none _)
      | (with_reducible refine LeO.ite ?_ ?_)
      | (with_reducible refine LeO.bind ?_ (fun _ => ?_))
      | exact impl_solve.mono _ _ _
      | exact LeO.none _
      | refine LeO.ite ?_ ?_
      | refine LeO.bind ?_ (fun _ => ?_)
set_option maxHeartbeats 8000000 in
set_option maxRecDepth 100000 in
theorem impl_Solve.calls (k : Nat) (a0 : Int) (A1 : Option Addr) (c1 : Nat) (l1 : List (List Int)) (r1 : Bool) (r2 : List Bool) (r3 : List (List Int)) (r4 : Bool) (w : World) (hr1 : Kd.C (Kd.slice 3 (Kd.int .i64)) w A1 l1.length l1) (hc1 : l1.length ≤ c1) (h : impl_Solve.f k a0 l1 = some (r1, r2, r3, r4)) :
    Calls Try.prog 33 #[.int .i64 a0, .slice A1 l1.length c1] w fun e w' => ∃ v1_ v2_ : Value, e = .returned (.tuple #[.bool r1, v1_, v2_, .bool r4]) ∧ Kd.R Kd.bool 4 w' w.heap.size (fun _ => True) v1_ r2 ∧ Kd.S (Kd.slice 3 (Kd.int .i64)) 29 w' w.heap.size (fun _ => True) v2_ r3 ∧ Below w.heap.size w w' := by
  have HR1 := Aside0.mk hr1
  have HC1 := Aside0.mk hc1
  clear hr1 hc1
  have HB := Aside0.mk (Below.refl w.heap.size w)
  have H : ((impl_GoodClauses.f a0 l1).bind fun t197 => (if t197 = true then ((impl_solve.f k a0 l1).bind fun bt198 => (some (bt198.1, bt198.2.1, bt198.2.2.1, bt198.2.2.2))) else (some (false, ([] : List Bool), ([] : List (List Int)), false)))) = some (r1, r2, r3, r4) := h
  clear h
  replace H := Option.bind_eq_some_iff.mp H
  obtain ⟨t197, A30, H⟩ := H
  replace H : (if t197 = true then ((impl_solve.f k a0 l1).bind fun bt198 => (some (bt198.1, bt198.2.1, bt198.2.2.1, bt198.2.2.2))) else (some (false, ([] : List Bool), ([] : List (List Int)), false))) = some (r1, r2, r3, r4) := H
  have A3 := Aside0.mk A30
  clear A30
  by_cases c4 : t197 = true
  · subst c4
    have H1 : ((impl_solve.f k a0 l1).bind fun bt198 => (some (bt198.1, bt198.2.1, bt198.2.2.1, bt198.2.2.2))) = some (r1, r2, r3, r4) := by rw [if_pos rfl] at H; exact H
    clear H
    have H := H1
    clear H1
    replace H := Option.bind_eq_some_iff.mp H
    obtain ⟨⟨t198, t199, t200, t201⟩, A50, H⟩ := H
    replace H : (some (t198, t199, t200, t201)) = some (r1, r2, r3, r4) := H
    have A5 := Aside0.mk A50
    clear A50
    simp only [Option.some.injEq, Prod.mk.injEq] at H
    obtain ⟨rfl, rfl, rfl, rfl⟩ := H
    go_enter Try.func33, Try.ntmps33
    go_wp2_with (first | ((with_reducible refine gate_callee (f := 50) rfl ?_); refine goesL_ (some 10) rfl rfl Try.func50 (by kernel_rfl) rfl #[.int .i64 a0, .slice A1 l1.length c1] rfl (by (try simp only [List.map_toArray, List.map_cons, List.map_nil]); first | done | rfl | (simp only [List.length_drop, List.length_take]; rfl)) ?_; (with_reducible refine (impl_GoodClauses.calls a0 _ _ l1 true _ ?side1 ?side2 A3.out).mono ?_); (case side1 => repeat (first | exact HR1.out | (with_reducible refine Kd.C_alloc ?_ _) | (with_reducible refine Kd.C_drewN ?_ _) | (with_reducible refine Kd.C_drew ?_))); (case side2 => exact HC1.out); rintro e w6 ⟨rfl, hb⟩; refine ⟨_, rfl, ?_⟩; have n0_ := Aside0.mk (below_step (by repeat (first | (with_reducible first | exact HB.out | apply below_alloc | apply pw_below_drewN | apply below_drew1) | exact HB.out)) hb); clear HB; have HB := n0_; clear n0_; (try clear hb); (try clear hb2); (try clear hk); (try clear hi)) | ((with_reducible refine gate_callee (f := 54) rfl ?_); refine goesL_ (some 14) rfl rfl Try.func54 (by kernel_rfl) rfl #[.int .i64 a0, .slice A1 l1.length c1] rfl (by (try simp only [List.map_toArray, List.map_cons, List.map_nil]); first | done | rfl | (simp only [List.length_drop, List.length_take]; rfl)) ?_; (with_reducible refine (impl_solve.calls k a0 _ _ l1 t198 t199 t200 t201 _ ?side1 ?side2 A5.out).mono ?_); (case side1 => repeat (first | exact (Kd.C_below HR1.out HB.out) | (with_reducible refine Kd.C_alloc ?_ _) | (with_reducible refine Kd.C_drewN ?_ _) | (with_reducible refine Kd.C_drew ?_))); (case side2 => exact HC1.out); rintro e w7 ⟨v202, v204, rfl, ho0, ho1, hb⟩; refine ⟨_, rfl, ?_⟩; have n0_ := Aside0.mk (Kd.R_lower ho0 (below_size (by repeat (first | (with_reducible first | exact HB.out | apply below_alloc | apply pw_below_drewN | apply below_drew1) | exact HB.out)))); have n1_ := Aside0.mk (Kd.S_lower ho1 (below_size (by repeat (first | (with_reducible first | exact HB.out | apply below_alloc | apply pw_below_drewN | apply below_drew1) | exact HB.out)))); have n2_ := Aside0.mk (below_step (by repeat (first | (with_reducible first | exact HB.out | apply below_alloc | apply pw_below_drewN | apply below_drew1) | exact HB.out)) hb); clear HB; have HO203 := n0_; have HO205 := n1_; have HB := n2_; clear n0_ n1_ n2_; (try clear hb); (try clear hb2); (try clear hk); (try clear hi); (try clear ho0); (try clear ho1)))
    refine bodyPost_ret (results_list (rs := [.tmp 4, .tmp 5, .tmp 6, .tmp 7]) rfl (by simp) (.tmp (.tmp (.tmp (.tmp .nil))))) rfl ?_
    exact ⟨_, _, by first | rfl | (simp [errW_none, errW_some] <;> rfl) | (simp [*, errW_none, errW_some] <;> rfl), by (with_reducible repeat (first | apply Kd.R_alloc | apply Kd.R_drewN | apply Kd.R_drew)); exact HO203.out, by (with_reducible repeat (first | apply Kd.S_alloc | apply Kd.S_drewN | apply Kd.S_drew)); exact HO205.out, by repeat (first | (with_reducible first | exact HB.out | apply below_alloc | apply pw_below_drewN | apply below_drew1) | exact HB.out)⟩
  · replace c4 := Bool.eq_false_iff.mpr c4
    subst c4
    have H1 : (some (false, ([] : List Bool), ([] : List (List Int)), false)) = some (r1, r2, r3, r4) := by rw [if_neg (show ¬ (false = true) by decide)] at H; exact H
    clear H
    have H := H1
    clear H1
    simp only [Option.some.injEq, Prod.mk.injEq] at H
    obtain ⟨rfl, rfl, rfl, rfl⟩ := H
    go_enter Try.func33, Try.ntmps33
    go_wp2_with (first | ((with_reducible refine gate_callee (f := 50) rfl ?_); refine goesL_ (some 10) rfl rfl Try.func50 (by kernel_rfl) rfl #[.int .i64 a0, .slice A1 l1.length c1] rfl (by (try simp only [List.map_toArray, List.map_cons, List.map_nil]); first | done | rfl | (simp only [List.length_drop, List.length_take]; rfl)) ?_; (with_reducible refine (impl_GoodClauses.calls a0 _ _ l1 false _ ?side1 ?side2 A3.out).mono ?_); (case side1 => repeat (first | exact HR1.out | (with_reducible refine Kd.C_alloc ?_ _) | (with_reducible refine Kd.C_drewN ?_ _) | (with_reducible refine Kd.C_drew ?_))); (case side2 => exact HC1.out); rintro e w8 ⟨rfl, hb⟩; refine ⟨_, rfl, ?_⟩; have n0_ := Aside0.mk (below_step (by repeat (first | (with_reducible first | exact HB.out | apply below_alloc | apply pw_below_drewN | apply below_drew1) | exact HB.out)) hb); clear HB; have HB := n0_; clear n0_; (try clear hb); (try clear hb2); (try clear hk); (try clear hi)))
    refine bodyPost_ret (results_list (rs := [.tmp 4, .tmp 5, .tmp 6, .tmp 7]) rfl (by simp) (.tmp (.tmp (.tmp (.tmp .nil))))) rfl ?_
    exact ⟨_, _, by first | rfl | (simp [errW_none, errW_some] <;> rfl) | (simp [*, errW_none, errW_some] <;> rfl), by first | exact Kd.R_nil _ _ _ _ _ | exact Kd.N_nil _ _ _ _ _ | exact Kd.V_nil _ _ _ _ _ | exact Kd.Q_nil _ _ _ _ _ | exact Kd.S_nil _ _ _ _ _, by first | exact Kd.S_nil _ _ _ _ _ | exact Kd.N_nil _ _ _ _ _ | exact Kd.V_nil _ _ _ _ _ | exact Kd.Q_nil _ _ _ _ _ | exact Kd.R_nil _ _ _ _ _, by repeat (first | (with_reducible first | exact HB.out | apply below_alloc | apply pw_below_drewN | apply below_drew1) | exact HB.out)⟩

/-! ### laws_eqBoolS: function 34 -/
def laws_eqBoolS.l0 : Nat → List Bool → List Bool → Int → Option (Bool)
  | 0, _, _, _ => none
  | k + 1, x0, x1, x5 => if x5 < (x0.length : Int) then (if 0 ≤ x5 then (if x5 < (x1.length : Int) then (if ((rdOf false x0 x5) != (rdOf false x1 x5)) = true then (some false) else (laws_eqBoolS.l0 k x0 x1 (wrap64 (x5 + 1)))) else (none)) else (none)) else (some true)
def laws_eqBoolS.f (k : Nat) (l0 : List Bool) (l1 : List Bool) : Option (Bool) := if (l0.length : Int) = (l1.length : Int) then (laws_eqBoolS.l0 k l0 l1 0) else (some false)
theorem laws_eqBoolS.mono_l : ∀ k, (∀ y0 y1 y2, LeO (laws_eqBoolS.l0 k y0 y1 y2) (laws_eqBoolS.l0 (k + 1) y0 y1 y2))
  | 0 => fun _ _ _ r h => by simp [laws_eqBoolS.l0] at h
  | k + 1 => by
    have ih0 := laws_eqBoolS.mono_l k
    · intro y0 y1 y2
      unfold laws_eqBoolS.l0
      repeat' first
      | (with_reducible exact ih0 _ _ _)
      | (with_reducible exact LeO.refl _)
      | (with_reducible exact LeO.none _)
      | (with_reducible refine LeO.ite ?_ ?_)
      | (with_reducible refine LeO.bind ?_ (fun _ => ?_))
      | exact ih0 _ _ _
      | exact LeO.none _
      | refine LeO.ite ?_ ?_
      | refine LeO.bind ?_ (fun _ => ?_)
theorem laws_eqBoolS.mono : ∀ a0 a1 k, LeO (laws_eqBoolS.f k a0 a1) (laws_eqBoolS.f (k + 1) a0 a1) := by
  intro a0 a1 k
  have ih0 := laws_eqBoolS.mono_l k
  unfold laws_eqBoolS.f
  repeat' first
      | (with_reducible exact ih0 _ _ _)
      | (with_reducible exact LeO.refl _)
      | (with_reducible exact LeO.none _)
      | (with_reducible refine LeO.ite ?_ ?_)
      | (with_reducible refine LeO.bind ?_ (fun _ => ?_))
      | exact ih0 _ _ _
      | exact LeO.none _
      | refine LeO.ite ?_ ?_
      | refine LeO.bind ?_ (fun _ => ?_)
set_option maxHeartbeats 8000000 in
set_option maxRecDepth 100000 in
theorem laws_eqBoolS.calls (k : Nat) (A0 : Option Addr) (c0 : Nat) (l0 : List Bool) (A1 : Option Addr) (c1 : Nat) (l1 : List Bool) (r : Bool) (w : World) (hr0 : Kd.C Kd.bool w A0 l0.length l0) (hc0 : l0.length ≤ c0) (hr1 : Kd.C Kd.bool w A1 l1.length l1) (hc1 : l1.length ≤ c1) (h : laws_eqBoolS.f k l0 l1 = some r) :
    Calls Try.prog 34 #[.slice A0 l0.length c0, .slice A1 l1.length c1] w fun e w' => e = .returned (.bool r) ∧ Drawn0 w w' := by
  have HR0 := Aside0.mk hr0
  have HC0 := Aside0.mk hc0
  clear hr0 hc0
  have HR1 := Aside0.mk hr1
  have HC1 := Aside0.mk hc1
  clear hr1 hc1
  have H : (if (l0.length : Int) = (l1.length : Int) then (laws_eqBoolS.l0 k l0 l1 0) else (some false)) = some r := h
  clear h
  by_cases c3 : (l0.length : Int) = (l1.length : Int)
  · rw [if_pos c3] at H
    have c3b0 : ((l0.length : Int) == (l1.length : Int)) = true := beq_iff_eq.mpr c3
    have c3b1 : ((l0.length : Int) != (l1.length : Int)) = false := bne_eq_false_iff_eq.mpr c3
    have c3b2 : (l0.length == l1.length) = true := by first | simpa using c3 | (simp at c3 ⊢; omega)
    clear c3
    have H' := Aside0.mk H
    clear H
    go_enter Try.func34, Try.ntmps34
    go_wp2
    repeat (go_quiet (fail); try go_wp2)
    go_loopg [5] k (fun kq v5 w' => ∃ (x5_1 : Int), v5 = .int .i64 x5_1 ∧ Aside0 (laws_eqBoolS.l0 kq l0 l1 x5_1 = some r) ∧ Aside0 (kq ≤ k) ∧ Drawn0 w w')
    case atStart => exact ⟨(0), (by first | rfl | (simp; done) | (simp [*]; done)), H', ⟨Nat.le_refl _⟩, by repeat (first | exact Drawn0.refl _ | apply Drawn0.step)⟩
    case round =>
      clear H'
      try clear c1
      try clear p2
      try clear c3
      try clear c3b0
      try clear c3b1
      try clear c3b2
      obtain ⟨x5_1, rfl, HA, HK1, ⟨m1, rfl⟩⟩ := hrel
      cases gk with
      | zero => exact absurd HA.out (by simp [laws_eqBoolS.l0])
      | succ k1 =>
        have H := HA.out
        clear HA
        simp only [laws_eqBoolS.l0] at H
        by_cases c4 : x5_1 < (l0.length : Int)
        · rw [if_pos c4] at H
          have c4b0 : decide (x5_1 < (l0.length : Int)) = true := decide_eq_true c4
          clear c4
          by_cases c5 : 0 ≤ x5_1
          · rw [if_pos c5] at H
            have c5b0 : decide (0 ≤ x5_1) = true := decide_eq_true c5
            clear c5
            by_cases c6 : x5_1 < (l1.length : Int)
            · rw [if_pos c6] at H
              have c6b0 : decide (x5_1 < (l1.length : Int)) = true := decide_eq_true c6
              clear c6
              by_cases c7 : ((rdOf false l0 x5_1) != (rdOf false l1 x5_1)) = true
              · rw [if_pos c7] at H
                have c7b0 : ((rdOf false l0 x5_1) != (rdOf false l1 x5_1)) = true := c7
                (try (have c7b1 : decide ((rdOf false l0 x5_1) = (rdOf false l1 x5_1)) = false := by simpa using c7))
                (try (have c7b2 : ((rdOf false l0 x5_1) == (rdOf false l1 x5_1)) = false := by simpa using c7))
                (try (have c7b3 : ¬ ((rdOf false l0 x5_1) = (rdOf false l1 x5_1)) := by simpa using c7))
                clear c7
                obtain rfl := Option.some.inj H
                have p206 : 0 ≤ (x5_1 : Int) := of_decide_eq_true (by first | (with_reducible assumption) | assumption)
                have q206 : x5_1 < (l0.length : Int) := of_decide_eq_true (by first | (with_reducible assumption) | assumption)
                obtain ⟨ad206, e206, hx206_0⟩ := Kd.at_bool HR0.out x5_1 p206 q206
                cases e206
                replace p206 := eq_true p206
                replace q206 := eq_true q206
                have p207 : 0 ≤ (x5_1 : Int) := of_decide_eq_true (by first | (with_reducible assumption) | assumption)
                have q207 : x5_1 < (l1.length : Int) := of_decide_eq_true (by first | (with_reducible assumption) | assumption)
                obtain ⟨ad207, e207, hx207_0⟩ := Kd.at_bool HR1.out x5_1 p207 q207
                cases e207
                replace p207 := eq_true p207
                replace q207 := eq_true q207
                go_wp2
                repeat (go_quiet (fail); try go_wp2)
                go_ret
                exact ⟨by first | rfl | (simp; done) | (simp [*]; done), by repeat (first | exact Drawn0.refl _ | apply Drawn0.step)⟩
              · rw [if_neg c7] at H
                have c7b0 : ((rdOf false l0 x5_1) != (rdOf false l1 x5_1)) = false := by simpa using c7
                (try (have c7b1 : decide ((rdOf false l0 x5_1) = (rdOf false l1 x5_1)) = true := by simpa using c7))
                (try (have c7b2 : ((rdOf false l0 x5_1) == (rdOf false l1 x5_1)) = true := by simpa using c7))
                clear c7
                have H' := Aside0.mk H
                clear H
                have p206 : 0 ≤ (x5_1 : Int) := of_decide_eq_true (by first | (with_reducible assumption) | assumption)
                have q206 : x5_1 < (l0.length : Int) := of_decide_eq_true (by first | (with_reducible assumption) | assumption)
                obtain ⟨ad206, e206, hx206_0⟩ := Kd.at_bool HR0.out x5_1 p206 q206
                cases e206
                replace p206 := eq_true p206
                replace q206 := eq_true q206
                have p207 : 0 ≤ (x5_1 : Int) := of_decide_eq_true (by first | (with_reducible assumption) | assumption)
                have q207 : x5_1 < (l1.length : Int) := of_decide_eq_true (by first | (with_reducible assumption) | assumption)
                obtain ⟨ad207, e207, hx207_0⟩ := Kd.at_bool HR1.out x5_1 p207 q207
                cases e207
                replace p207 := eq_true p207
                replace q207 := eq_true q207
                go_wp2
                repeat (go_quiet (fail); try go_wp2)
                go_roundg k1
                case measure => have := HK1.out; omega
                case rel => exact ⟨(wrap64 (x5_1 + 1)), (by first | rfl | (simp; done) | (simp [*]; done)), H', ⟨by have := HK1.out; omega⟩, by repeat (first | exact Drawn0.refl _ | apply Drawn0.step)⟩
            · rw [if_neg c6] at H
              exact absurd H (by simp)
          · rw [if_neg c5] at H
            exact absurd H (by simp)
        · rw [if_neg c4] at H
          have c4b0 : decide (x5_1 < (l0.length : Int)) = false := decide_eq_false c4
          clear c4
          obtain rfl := Option.some.inj H
          go_wp2
          repeat (go_quiet (fail); try go_wp2)
          go_ret
          exact ⟨by first | rfl | (simp; done) | (simp [*]; done), by repeat (first | exact Drawn0.refl _ | apply Drawn0.step)⟩
  · rw [if_neg c3] at H
    have c3b0 : ((l0.length : Int) == (l1.length : Int)) = false := beq_eq_false_iff_ne.mpr c3
    have c3b1 : ((l0.length : Int) != (l1.length : Int)) = true := bne_iff_ne.mpr c3
    have c3b2 : (l0.length == l1.length) = false := by first | simpa using c3 | (simp at c3 ⊢; omega)
    obtain rfl := Option.some.inj H
    go_enter Try.func34, Try.ntmps34
    go_wp2
    repeat (go_quiet (fail); try go_wp2)
    go_ret
    exact ⟨by first | rfl | (simp; done) | (simp [*]; done), by repeat (first | exact Drawn0.refl _ | apply Drawn0.step)⟩

/-! ### laws_markBoolS: function 35 -/
def laws_markBoolS.l0 : Nat → List Bool → Int → Int → Option (Int × List Bool)
  | 0, _, _, _ => none
  | k + 1, x0, x1, x5 => if x5 < (x0.length : Int) then (if 0 ≤ x5 then (laws_markBoolS.l0 k (x0.set (x5 : Int).toNat ((Int.tmod x1 3) == 0)) (wrap64 (x1 + 1)) (wrap64 (x5 + 1))) else (none)) else (some (x1, x0))
def laws_markBoolS.f (k : Nat) (l0 : List Bool) (a1 : Int) : Option (Int × List Bool) := laws_markBoolS.l0 k l0 a1 0
theorem laws_markBoolS.mono_l : ∀ k, (∀ y0 y1 y2, LeO (laws_markBoolS.l0 k y0 y1 y2) (laws_markBoolS.l0 (k + 1) y0 y1 y2))
  | 0 => fun _ _ _ r h => by simp [laws_markBoolS.l0] at h
  | k + 1 => by
    have ih0 := laws_markBoolS.mono_l k
    · intro y0 y1 y2
      unfold laws_markBoolS.l0
      repeat' first
      | (with_reducible exact ih0 _ _ _)
      | (with_reducible exact LeO.refl _)
      | (with_reducible exact LeO.none _)
      | (with_reducible refine LeO.ite ?_ ?_)
      | (with_reducible refine LeO.bind ?_ (fun _ => ?_))
      | exact ih0 _ _ _
      | exact LeO.none _
      | refine LeO.ite ?_ ?_
      | refine LeO.bind ?_ (fun _ => ?_)
theorem laws_markBoolS.mono : ∀ a0 a1 k, LeO (laws_markBoolS.f k a0 a1) (laws_markBoolS.f (k + 1) a0 a1) := by
  intro a0 a1 k
  have ih0 := laws_markBoolS.mono_l k
  unfold laws_markBoolS.f
  repeat' first
      | (with_reducible exact ih0 _ _ _)
      | (with_reducible exact LeO.refl _)
      | (with_reducible exact LeO.none _)
      | (with_reducible refine LeO.ite ?_ ?_)
      | (with_reducible refine LeO.bind ?_ (fun _ => ?_))
      | exact ih0 _ _ _
      | exact LeO.none _
      | refine LeO.ite ?_ ?_
      | refine LeO.bind ?_ (fun _ => ?_)
set_option maxHeartbeats 8000000 in
set_option maxRecDepth 100000 in
theorem laws_markBoolS.calls (k : Nat) (P0_ : Nat → Prop) (u9000_ : Value) (l0 : List Bool) (a1 : Int) (r1 : Int) (r2 : List Bool) (w0 w : World) (hB : Below w0.heap.size w0 w) (ho0 : Kd.R Kd.bool 4 w w0.heap.size P0_ u9000_ l0) (h : laws_markBoolS.f k l0 a1 = some (r1, r2)) :
    Calls Try.prog 35 #[u9000_, .int .i64 a1] w fun e w' => e = .returned (.int .i64 r1) ∧ Kd.R Kd.bool 4 w' w0.heap.size (fun k_ => (P0_ k_ ∨ w.heap.size ≤ k_)) u9000_ r2 ∧ Below w0.heap.size w0 w' ∧ Kept w w' (fun k_ => P0_ k_) := by
  have HO0 := Aside0.mk (show Kd.R Kd.bool 4 w w0.heap.size (fun k_ => (P0_ k_ ∨ w.heap.size ≤ k_)) u9000_ l0 from Kd.R_mono ho0 (fun k_ hk => (.inl hk)))
  have HK := Aside0.mk (Kept.refl w (fun k_ => P0_ k_))
  have HW0 := Aside0.mk hB.size
  have HB := Aside0.mk hB
  clear hB
  have H : (laws_markBoolS.l0 k l0 a1 0) = some (r1, r2) := h
  clear h
  have H' := Aside0.mk H
  clear H
  go_enter Try.func35, Try.ntmps35
  go_wp2
  go_loopg [1, 5] k (fun kq v1 v5 w' => ∃ (x0_1 : List Bool) (x1_1 : Int) (x5_1 : Int), v1 = .int .i64 x1_1 ∧ v5 = .int .i64 x5_1 ∧ Aside0 (laws_markBoolS.l0 kq x0_1 x1_1 x5_1 = some (r1, r2)) ∧ Aside0 (kq ≤ k) ∧ Aside0 (Kd.R Kd.bool 4 w' w0.heap.size (fun k_ => (P0_ k_ ∨ w.heap.size ≤ k_)) u9000_ x0_1) ∧ Aside0 (Kept w w' (fun k_ => P0_ k_)) ∧ Aside0 (Below w0.heap.size w0 w'))
  case atStart => exact ⟨(l0), (a1), (0), (by first | rfl | (simp; done) | (simp [*]; done)), (by first | rfl | (simp; done) | (simp [*]; done)), H', ⟨Nat.le_refl _⟩, ⟨by (with_reducible repeat (first | apply Kd.R_alloc | apply Kd.R_drewN | apply Kd.R_drew)); exact HO0.out⟩, ⟨by repeat (first | (with_reducible first | exact HK.out | apply Kept.alloc | apply Kept.drewN | apply Kept.drew) | exact HK.out)⟩, ⟨by repeat (first | (with_reducible first | exact HB.out | apply below_alloc | apply pw_below_drewN | apply below_drew1) | exact HB.out)⟩⟩
  case round =>
    clear H'
    try clear p2
    obtain ⟨x0_1, x1_1, x5_1, rfl, rfl, HA, HK1, HO_0, HK, HB⟩ := hrel
    cases gk with
    | zero => exact absurd HA.out (by simp [laws_markBoolS.l0])
    | succ k1 =>
      have H := HA.out
      clear HA
      simp only [laws_markBoolS.l0] at H
      by_cases c3 : x5_1 < (x0_1.length : Int)
      · rw [if_pos c3] at H
        have c3b0 : decide (x5_1 < (x0_1.length : Int)) = true := decide_eq_true c3
        clear c3
        by_cases c4 : 0 ≤ x5_1
        · rw [if_pos c4] at H
          have c4b0 : decide (0 ≤ x5_1) = true := decide_eq_true c4
          clear c4
          obtain ⟨y208, hy208⟩ : ∃ y_ : List Bool, y_ = (x0_1.set (x5_1 : Int).toNat ((Int.tmod x1_1 3) == 0)) := ⟨_, rfl⟩
          replace H : (laws_markBoolS.l0 k1 y208 (wrap64 (x1_1 + 1)) (wrap64 (x5_1 + 1))) = some (r1, r2) := by first | (rw [hy208]; with_reducible exact H) | (have H2_ := (Option.bind_some _ _).symm.trans H; rw [hy208]; with_reducible exact H2_) | (have H2_ := (Option.bind_some _ _).symm.trans H; with_reducible exact H2_) | with_reducible exact H | (rw [hy208]; exact H) | exact H
          have Ny208 := Aside0.mk hy208
          clear hy208
          have H' := Aside0.mk H
          clear H
          obtain ⟨Ao6, co6, eo6⟩ := Kd.R_slice HO_0.out
          subst eo6
          have p5 : 0 ≤ (x5_1 : Int) := of_decide_eq_true (by first | (with_reducible assumption) | assumption)
          have q5 : (x5_1 : Int) < ((x0_1.length : Int) : Int) := of_decide_eq_true (by first | (with_reducible assumption) | assumption)
          obtain ⟨go5, co5, eo5, gb5, gl5, cl5, HG5⟩ := Kd.R_form HO_0.out (by omega)
          (first | cases eo5 | (injection eo5 with ea_ en_ ec_; (first | subst ea_ | (injection ea_ with ea_; subst ea_)); subst ec_; clear en_))
          have GB5 := Aside0.mk gb5
          have GG5 := Aside0.mk HG5
          clear gb5 gl5 HG5
          have HMgo5 := Aside0.mk (show (P0_ go5 ∨ w.heap.size ≤ go5) from (HO_0.out.1 _ rfl))
          obtain ⟨hx5_0, hf5_0⟩ := Kd.R_celln false HO_0.out (x5_1 : Int) p5 q5
          replace p5 := eq_true p5
          replace q5 := eq_true q5
          have HP7 := Kd.R_putg HO_0.out (x5_1 : Int) ((Int.tmod x1_1 3) == 0)
          go_wp2_with (first | ((with_reducible refine gate_store (t := 4) (p := 17) rfl ?_); refine store_event (t := 4) (p := 17) (v := ?vo_w8) (w1 := (wr.setCell ⟨go5, (x5_1 : Int).toNat, none⟩ (.bool ((Int.tmod x1_1 3) == 0)))) ?hg ?ho ?hn ?hr ?_; (case ho => rfl); (case hg => rfl); (case hn => rfl); (case hr => first | (go_simp; done) | (go_simp; rfl)); intro w8 hw; have hg : wr.grownBy w8 (some go5) := (by rw [hw]; exact HP7.2); have hp_ : Kd.R Kd.bool 4 w8 w0.heap.size (fun k_ => (P0_ k_ ∨ w.heap.size ≤ k_)) (.slice (some ⟨go5, 0, none⟩) x0_1.length co6) y208 := (by rw [hw, Ny208.out]; exact HP7.1); clear HP7; have n0_ := Aside0.mk (hp_); have n1_ := Aside0.mk ((by rw [hw]; exact below_set (HB.out) GB5.out : Below w0.heap.size w0 w8)); have n2_ := Aside0.mk (Kept.of_grown (S := (fun k_ => P0_ k_)) hg (by repeat (first | (with_reducible first | exact HK.out | apply Kept.alloc | apply Kept.drewN | apply Kept.drew) | exact HK.out)) (fun k_ e_ => (HO_0.out.1 k_ e_))); clear HO_0; clear HB; clear HK; have HO_0 := n0_; have HB := n1_; have HK := n2_; clear n0_ n1_ n2_; clear hg hw hp_))
          go_roundg k1
          case measure => have := HK1.out; omega
          case rel => exact ⟨(y208), (wrap64 (x1_1 + 1)), (wrap64 (x5_1 + 1)), (by first | rfl | (simp; done) | (simp [*]; done)), (by first | rfl | (simp; done) | (simp [*]; done)), H', ⟨by have := HK1.out; omega⟩, ⟨by (with_reducible repeat (first | apply Kd.R_alloc | apply Kd.R_drewN | apply Kd.R_drew)); exact HO_0.out⟩, ⟨by repeat (first | (with_reducible first | exact HK.out | apply Kept.alloc | apply Kept.drewN | apply Kept.drew) | exact HK.out)⟩, ⟨by repeat (first | (with_reducible first | exact HB.out | apply below_alloc | apply pw_below_drewN | apply below_drew1) | exact HB.out)⟩⟩
        · rw [if_neg c4] at H
          exact absurd H (by simp)
      · rw [if_neg c3] at H
        have c3b0 : decide (x5_1 < (x0_1.length : Int)) = false := decide_eq_false c3
        clear c3
        simp only [Option.some.injEq, Prod.mk.injEq] at H
        obtain ⟨rfl, rfl⟩ := H
        obtain ⟨Ao9, co9, eo9⟩ := Kd.R_slice HO_0.out
        subst eo9
        go_wp2
        go_ret
        exact ⟨by first | rfl | (simp [errW_none, errW_some] <;> rfl) | (simp [*, errW_none, errW_some] <;> rfl), by (with_reducible repeat (first | apply Kd.R_alloc | apply Kd.R_drewN | apply Kd.R_drew)); exact HO_0.out, by repeat (first | (with_reducible first | exact HB.out | apply below_alloc | apply pw_below_drewN | apply below_drew1) | exact HB.out), by repeat (first | (with_reducible first | exact HK.out | apply Kept.alloc | apply Kept.drewN | apply Kept.drew) | exact HK.out)⟩

/-! ### laws_heldBoolS: function 36 -/
def laws_heldBoolS.l0 : Nat → List Bool → Int → Int → Option (Int)
  | 0, _, _, _ => none
  | k + 1, x0, x1, x5 => if x5 < (x0.length : Int) then (if 0 ≤ x5 then (if ((rdOf false x0 x5) != ((Int.tmod x1 3) == 0)) = true then (some (-1)) else (laws_heldBoolS.l0 k x0 (wrap64 (x1 + 1)) (wrap64 (x5 + 1)))) else (none)) else (some x1)
def laws_heldBoolS.f (k : Nat) (l0 : List Bool) (a1 : Int) : Option (Int) := laws_heldBoolS.l0 k l0 a1 0
theorem laws_heldBoolS.mono_l : ∀ k, (∀ y0 y1 y2, LeO (laws_heldBoolS.l0 k y0 y1 y2) (laws_heldBoolS.l0 (k + 1) y0 y1 y2))
  | 0 => fun _ _ _ r h => by simp [laws_heldBoolS.l0] at h
  | k + 1 => by
    have ih0 := laws_heldBoolS.mono_l k
    · intro y0 y1 y2
      unfold laws_heldBoolS.l0
      repeat' first
      | (with_reducible exact ih0 _ _ _)
      | (with_reducible exact LeO.refl _)
      | (with_reducible exact LeO.none _)
      | (with_reducible refine LeO.ite ?_ ?_)
      | (with_reducible refine LeO.bind ?_ (fun _ => ?_))
      | exact ih0 _ _ _
      | exact LeO.none _
      | refine LeO.ite ?_ ?_
      | refine LeO.bind ?_ (fun _ => ?_)
theorem laws_heldBoolS.mono : ∀ a0 a1 k, LeO (laws_heldBoolS.f k a0 a1) (laws_heldBoolS.f (k + 1) a0 a1) := by
  intro a0 a1 k
  have ih0 := laws_heldBoolS.mono_l k
  unfold laws_heldBoolS.f
  repeat' first
      | (with_reducible exact ih0 _ _ _)
      | (with_reducible exact LeO.refl _)
      | (with_reducible exact LeO.none _)
      | (with_reducible refine LeO.ite ?_ ?_)
      | (with_reducible refine LeO.bind ?_ (fun _ => ?_))
      | exact ih0 _ _ _
      | exact LeO.none _
      | refine LeO.ite ?_ ?_
      | refine LeO.bind ?_ (fun _ => ?_)
set_option maxHeartbeats 8000000 in
set_option maxRecDepth 100000 in
theorem laws_heldBoolS.calls (k : Nat) (A0 : Option Addr) (c0 : Nat) (l0 : List Bool) (a1 : Int) (r : Int) (w : World) (hr0 : Kd.C Kd.bool w A0 l0.length l0) (hc0 : l0.length ≤ c0) (h : laws_heldBoolS.f k l0 a1 = some r) :
    Calls Try.prog 36 #[.slice A0 l0.length c0, .int .i64 a1] w fun e w' => e = .returned (.int .i64 r) ∧ Drawn0 w w' := by
  have HR0 := Aside0.mk hr0
  have HC0 := Aside0.mk hc0
  clear hr0 hc0
  have H : (laws_heldBoolS.l0 k l0 a1 0) = some r := h
  clear h
  have H' := Aside0.mk H
  clear H
  go_enter Try.func36, Try.ntmps36
  go_wp2
  go_loopg [1, 5] k (fun kq v1 v5 w' => ∃ (x1_1 : Int) (x5_1 : Int), v1 = .int .i64 x1_1 ∧ v5 = .int .i64 x5_1 ∧ Aside0 (laws_heldBoolS.l0 kq l0 x1_1 x5_1 = some r) ∧ Aside0 (kq ≤ k) ∧ Drawn0 w w')
  case atStart => exact ⟨(a1), (0), (by first | rfl | (simp; done) | (simp [*]; done)), (by first | rfl | (simp; done) | (simp [*]; done)), H', ⟨Nat.le_refl _⟩, by repeat (first | exact Drawn0.refl _ | apply Drawn0.step)⟩
  case round =>
    clear H'
    try clear p2
    obtain ⟨x1_1, x5_1, rfl, rfl, HA, HK1, ⟨m1, rfl⟩⟩ := hrel
    cases gk with
    | zero => exact absurd HA.out (by simp [laws_heldBoolS.l0])
    | succ k1 =>
      have H := HA.out
      clear HA
      simp only [laws_heldBoolS.l0] at H
      by_cases c3 : x5_1 < (l0.length : Int)
      · rw [if_pos c3] at H
        have c3b0 : decide (x5_1 < (l0.length : Int)) = true := decide_eq_true c3
        clear c3
        by_cases c4 : 0 ≤ x5_1
        · rw [if_pos c4] at H
          have c4b0 : decide (0 ≤ x5_1) = true := decide_eq_true c4
          clear c4
          by_cases c5 : ((rdOf false l0 x5_1) != ((Int.tmod x1_1 3) == 0)) = true
          · rw [if_pos c5] at H
            have c5b0 : ((rdOf false l0 x5_1) != ((Int.tmod x1_1 3) == 0)) = true := c5
            (try (have c5b1 : decide ((rdOf false l0 x5_1) = ((Int.tmod x1_1 3) == 0)) = false := by simpa using c5))
            (try (have c5b2 : ((rdOf false l0 x5_1) == ((Int.tmod x1_1 3) == 0)) = false := by simpa using c5))
            (try (have c5b3 : ¬ ((rdOf false l0 x5_1) = ((Int.tmod x1_1 3) == 0)) := by simpa using c5))
            clear c5
            obtain rfl := Option.some.inj H
            have p209 : 0 ≤ (x5_1 : Int) := of_decide_eq_true (by first | (with_reducible assumption) | assumption)
            have q209 : x5_1 < (l0.length : Int) := of_decide_eq_true (by first | (with_reducible assumption) | assumption)
            obtain ⟨ad209, e209, hx209_0⟩ := Kd.at_bool HR0.out x5_1 p209 q209
            cases e209
            replace p209 := eq_true p209
            replace q209 := eq_true q209
            go_wp2
            go_ret
            exact ⟨by first | rfl | (simp; done) | (simp [*]; done), by repeat (first | exact Drawn0.refl _ | apply Drawn0.step)⟩
          · rw [if_neg c5] at H
            have c5b0 : ((rdOf false l0 x5_1) != ((Int.tmod x1_1 3) == 0)) = false := by simpa using c5
            (try (have c5b1 : decide ((rdOf false l0 x5_1) = ((Int.tmod x1_1 3) == 0)) = true := by simpa using c5))
            (try (have c5b2 : ((rdOf false l0 x5_1) == ((Int.tmod x1_1 3) == 0)) = true := by simpa using c5))
            clear c5
            have H' := Aside0.mk H
            clear H
            have p209 : 0 ≤ (x5_1 : Int) := of_decide_eq_true (by first | (with_reducible assumption) | assumption)
            have q209 : x5_1 < (l0.length : Int) := of_decide_eq_true (by first | (with_reducible assumption) | assumption)
            obtain ⟨ad209, e209, hx209_0⟩ := Kd.at_bool HR0.out x5_1 p209 q209
            cases e209
            replace p209 := eq_true p209
            replace q209 := eq_true q209
            go_wp2
            go_roundg k1
            case measure => have := HK1.out; omega
            case rel => exact ⟨(wrap64 (x1_1 + 1)), (wrap64 (x5_1 + 1)), (by first | rfl | (simp; done) | (simp [*]; done)), (by first | rfl | (simp; done) | (simp [*]; done)), H', ⟨by have := HK1.out; omega⟩, by repeat (first | exact Drawn0.refl _ | apply Drawn0.step)⟩
        · rw [if_neg c4] at H
          exact absurd H (by simp)
      · rw [if_neg c3] at H
        have c3b0 : decide (x5_1 < (l0.length : Int)) = false := decide_eq_false c3
        clear c3
        obtain rfl := Option.some.inj H
        go_wp2
        go_ret
        exact ⟨by first | rfl | (simp; done) | (simp [*]; done), by repeat (first | exact Drawn0.refl _ | apply Drawn0.step)⟩

/-! ### laws_FnExactSolve: function 9 -/
def laws_FnExactSolve.f (k : Nat) (a0 : Int) (l1 : List (List Int)) : Option (Bool) := (laws_szIntSS.f k l1 1048576).bind fun t210 => (if t210 < 0 then (some true) else ((laws_toIntSS.f k l1).bind fun t211 => ((spec_Solve.f k a0 t211).bind fun bt214 => ((laws_toIntSS.f k l1).bind fun t222 => ((impl_Solve.f k a0 t222).bind fun bt225 => (if (bt225.1 != bt214.1) = true then (none) else ((laws_eqBoolS.f k bt225.2.1 bt214.2.1).bind fun t233 => (if t233 = true then ((laws_eqIntSS.f k bt225.2.2.1 bt214.2.2.1).bind fun t234 => (if t234 = true then (if (bt225.2.2.2 != bt214.2.2.2) = true then (none) else ((laws_toIntSS.f k l1).bind fun t235 => ((laws_eqIntSS.f k t222 t235).bind fun t238 => (if t238 = true then ((laws_markIntSS.f k t222 1).bind fun bt239 => (if bt239.1 < 0 then (none) else ((laws_eqBoolS.f k bt225.2.1 bt214.2.1).bind fun t241 => (if t241 = true then ((laws_eqIntSS.f k bt225.2.2.1 bt214.2.2.1).bind fun t242 => (if t242 = true then ((laws_markBoolS.f k bt225.2.1 1).bind fun bt243 => ((laws_markIntSS.f k bt225.2.2.1 bt243.1).bind fun bt245 => ((laws_heldBoolS.f k bt243.2 1).bind fun t247 => (if t247 < 0 then (none) else ((laws_heldIntSS.f k bt245.2 t247).bind fun t248 => (if t248 < 0 then (none) else (if t248 = bt245.1 then ((laws_toIntSS.f k l1).bind fun t249 => ((impl_Solve.f k a0 t249).bind fun bt252 => (if (bt252.1 != bt214.1) = true then (none) else ((laws_eqBoolS.f k bt252.2.1 bt214.2.1).bind fun t260 => (if t260 = true then ((laws_eqIntSS.f k bt252.2.2.1 bt214.2.2.1).bind fun t261 => (if t261 = true then (if (bt252.2.2.2 != bt214.2.2.2) = true then (none) else ((laws_heldBoolS.f k bt243.2 1).bind fun t262 => (if t262 < 0 then (none) else ((laws_heldIntSS.f k bt245.2 t262).bind fun t263 => (if t263 < 0 then (none) else (if t263 = bt245.1 then (some true) else (none))))))) else (none))) else (none)))))) else (none)))))))) else (none))) else (none))))) else (none))))) else (none))) else (none)))))))))
theorem laws_FnExactSolve.mono : ∀ a0 a1 k, LeO (laws_FnExactSolve.f k a0 a1) (laws_FnExactSolve.f (k + 1) a0 a1) := by
  intro a0 a1 k
  unfold laws_FnExactSolve.f
  repeat' first
      | (with_reducible exact impl_Solve.mono _ _ _)
      | (with_reducible exact laws_eqBoolS.mono _ _ _)
      | (with_reducible exact laws_eqIntSS.mono _ _ _)
      | (with_reducible exact laws_heldBoolS.mono _ _ _)
      | (with_reducible exact laws_heldIntSS.mono _ _ _)
      | (with_reducible exact laws_markBoolS.mono _ _ _)
      | (with_reducible exact laws_markIntSS.mono _ _ _)
      | (with_reducible exact laws_szIntSS.mono _ _ _)
      | (with_reducible exact laws_toIntSS.mono _ _)
      | (with_reducible exact spec_Solve.mono _ _ _)
      | (with_reducible exact LeO.refl _)
      | (with_reducible exact LeO.none _)
      | (with_reducible refine LeO.ite ?_ ?_)
      | (with_reducible refine LeO.bind ?_ (fun _ => ?_))
      | exact impl_Solve.mono _ _ _
      | exact laws_eqBoolS.mono _ _ _
      | exact laws_eqIntSS.mono _ _ _
      | exact laws_heldBoolS.mono _ _ _
      | exact laws_heldIntSS.mono _ _ _
      | exact laws_markBoolS.mono _ _ _
      | exact laws_markIntSS.mono _ _ _
      | exact laws_szIntSS.mono _ _ _
      | exact laws_toIntSS.mono _ _
      | exact spec_Solve.mono _ _ _
      | exact LeO.none _
      | refine LeO.ite ?_ ?_
      | refine LeO.bind ?_ (fun _ => ?_)
set_option maxHeartbeats 8000000 in
set_option maxRecDepth 100000 in
theorem laws_FnExactSolve.calls (k : Nat) (a0 : Int) (A1 : Option Addr) (c1 : Nat) (l1 : List (List Int)) (r : Bool) (w : World) (hr1 : Kd.C (Kd.slice 3 (Kd.int .i64)) w A1 l1.length l1) (hc1 : l1.length ≤ c1) (h : laws_FnExactSolve.f k a0 l1 = some r) :
    Calls Try.prog 9 #[.int .i64 a0, .slice A1 l1.length c1] w fun e w' => e = .returned (.bool r) ∧ Below w.heap.size w w' := by
  have HR1 := Aside0.mk hr1
  have HC1 := Aside0.mk hc1
  clear hr1 hc1
  have HB := Aside0.mk (Below.refl w.heap.size w)
  have HTop := Aside0.mk (Nat.zero_le w.heap.size)
  have H : ((laws_szIntSS.f k l1 1048576).bind fun t210 => (if t210 < 0 then (some true) else ((laws_toIntSS.f k l1).bind fun t211 => ((spec_Solve.f k a0 t211).bind fun bt214 => ((laws_toIntSS.f k l1).bind fun t222 => ((impl_Solve.f k a0 t222).bind fun bt225 => (if (bt225.1 != bt214.1) = true then (none) else ((laws_eqBoolS.f k bt225.2.1 bt214.2.1).bind fun t233 => (if t233 = true then ((laws_eqIntSS.f k bt225.2.2.1 bt214.2.2.1).bind fun t234 => (if t234 = true then (if (bt225.2.2.2 != bt214.2.2.2) = true then (none) else ((laws_toIntSS.f k l1).bind fun t235 => ((laws_eqIntSS.f k t222 t235).bind fun t238 => (if t238 = true then ((laws_markIntSS.f k t222 1).bind fun bt239 => (if bt239.1 < 0 then (none) else ((laws_eqBoolS.f k bt225.2.1 bt214.2.1).bind fun t241 => (if t241 = true then ((laws_eqIntSS.f k bt225.2.2.1 bt214.2.2.1).bind fun t242 => (if t242 = true then ((laws_markBoolS.f k bt225.2.1 1).bind fun bt243 => ((laws_markIntSS.f k bt225.2.2.1 bt243.1).bind fun bt245 => ((laws_heldBoolS.f k bt243.2 1).bind fun t247 => (if t247 < 0 then (none) else ((laws_heldIntSS.f k bt245.2 t247).bind fun t248 => (if t248 < 0 then (none) else (if t248 = bt245.1 then ((laws_toIntSS.f k l1).bind fun t249 => ((impl_Solve.f k a0 t249).bind fun bt252 => (if (bt252.1 != bt214.1) = true then (none) else ((laws_eqBoolS.f k bt252.2.1 bt214.2.1).bind fun t260 => (if t260 = true then ((laws_eqIntSS.f k bt252.2.2.1 bt214.2.2.1).bind fun t261 => (if t261 = true then (if (bt252.2.2.2 != bt214.2.2.2) = true then (none) else ((laws_heldBoolS.f k bt243.2 1).bind fun t262 => (if t262 < 0 then (none) else ((laws_heldIntSS.f k bt245.2 t262).bind fun t263 => (if t263 < 0 then (none) else (if t263 = bt245.1 then (some true) else (none))))))) else (none))) else (none)))))) else (none)))))))) else (none))) else (none))))) else (none))))) else (none))) else (none)))))))))) = some r := h
  clear h
  replace H := Option.bind_eq_some_iff.mp H
  obtain ⟨t210, A30, H⟩ := H
  replace H : (if t210 < 0 then (some true) else ((laws_toIntSS.f k l1).bind fun t211 => ((spec_Solve.f k a0 t211).bind fun bt214 => ((laws_toIntSS.f k l1).bind fun t222 => ((impl_Solve.f k a0 t222).bind fun bt225 => (if (bt225.1 != bt214.1) = true then (none) else ((laws_eqBoolS.f k bt225.2.1 bt214.2.1).bind fun t233 => (if t233 = true then ((laws_eqIntSS.f k bt225.2.2.1 bt214.2.2.1).bind fun t234 => (if t234 = true then (if (bt225.2.2.2 != bt214.2.2.2) = true then (none) else ((laws_toIntSS.f k l1).bind fun t235 => ((laws_eqIntSS.f k t222 t235).bind fun t238 => (if t238 = true then ((laws_markIntSS.f k t222 1).bind fun bt239 => (if bt239.1 < 0 then (none) else ((laws_eqBoolS.f k bt225.2.1 bt214.2.1).bind fun t241 => (if t241 = true then ((laws_eqIntSS.f k bt225.2.2.1 bt214.2.2.1).bind fun t242 => (if t242 = true then ((laws_markBoolS.f k bt225.2.1 1).bind fun bt243 => ((laws_markIntSS.f k bt225.2.2.1 bt243.1).bind fun bt245 => ((laws_heldBoolS.f k bt243.2 1).bind fun t247 => (if t247 < 0 then (none) else ((laws_heldIntSS.f k bt245.2 t247).bind fun t248 => (if t248 < 0 then (none) else (if t248 = bt245.1 then ((laws_toIntSS.f k l1).bind fun t249 => ((impl_Solve.f k a0 t249).bind fun bt252 => (if (bt252.1 != bt214.1) = true then (none) else ((laws_eqBoolS.f k bt252.2.1 bt214.2.1).bind fun t260 => (if t260 = true then ((laws_eqIntSS.f k bt252.2.2.1 bt214.2.2.1).bind fun t261 => (if t261 = true then (if (bt252.2.2.2 != bt214.2.2.2) = true then (none) else ((laws_heldBoolS.f k bt243.2 1).bind fun t262 => (if t262 < 0 then (none) else ((laws_heldIntSS.f k bt245.2 t262).bind fun t263 => (if t263 < 0 then (none) else (if t263 = bt245.1 then (some true) else (none))))))) else (none))) else (none)))))) else (none)))))))) else (none))) else (none))))) else (none))))) else (none))) else (none))))))))) = some r := H
  have A3 := Aside0.mk A30
  clear A30
  by_cases c4 : t210 < 0
  · rw [if_pos c4] at H
    have c4b0 : decide (t210 < 0) = true := decide_eq_true c4
    clear c4
    obtain rfl := Option.some.inj H
    go_enter Try.func9, Try.ntmps9
    go_wp2_with (first | ((with_reducible refine gate_callee (f := 11) rfl ?_); refine goesL_ (some 24) rfl rfl Try.func11 (by kernel_rfl) rfl #[.slice A1 l1.length c1, .int .i64 1048576] rfl (by (try simp only [List.map_toArray, List.map_cons, List.map_nil]); first | done | rfl | (simp only [List.length_drop, List.length_take]; rfl)) ?_; (with_reducible refine (laws_szIntSS.calls k _ _ l1 1048576 t210 _ ?side1 ?side2 A3.out).mono ?_); (case side1 => repeat (first | exact HR1.out | (with_reducible refine Kd.C_alloc ?_ _) | (with_reducible refine Kd.C_drewN ?_ _) | (with_reducible refine Kd.C_drew ?_))); (case side2 => exact HC1.out); rintro e w' ⟨rfl, ⟨nd, rfl⟩⟩; refine ⟨_, rfl, ?_⟩))
    go_ret
    exact ⟨by first | rfl | (simp [errW_none, errW_some] <;> rfl) | (simp [*, errW_none, errW_some] <;> rfl), by repeat (first | (with_reducible first | exact HB.out | apply below_alloc | apply pw_below_drewN | apply below_drew1) | exact HB.out)⟩
  · rw [if_neg c4] at H
    have c4b0 : decide (t210 < 0) = false := decide_eq_false c4
    clear c4
    replace H := Option.bind_eq_some_iff.mp H
    obtain ⟨t211, A50, H⟩ := H
    replace H : ((spec_Solve.f k a0 t211).bind fun bt214 => ((laws_toIntSS.f k l1).bind fun t222 => ((impl_Solve.f k a0 t222).bind fun bt225 => (if (bt225.1 != bt214.1) = true then (none) else ((laws_eqBoolS.f k bt225.2.1 bt214.2.1).bind fun t233 => (if t233 = true then ((laws_eqIntSS.f k bt225.2.2.1 bt214.2.2.1).bind fun t234 => (if t234 = true then (if (bt225.2.2.2 != bt214.2.2.2) = true then (none) else ((laws_toIntSS.f k l1).bind fun t235 => ((laws_eqIntSS.f k t222 t235).bind fun t238 => (if t238 = true then ((laws_markIntSS.f k t222 1).bind fun bt239 => (if bt239.1 < 0 then (none) else ((laws_eqBoolS.f k bt225.2.1 bt214.2.1).bind fun t241 => (if t241 = true then ((laws_eqIntSS.f k bt225.2.2.1 bt214.2.2.1).bind fun t242 => (if t242 = true then ((laws_markBoolS.f k bt225.2.1 1).bind fun bt243 => ((laws_markIntSS.f k bt225.2.2.1 bt243.1).bind fun bt245 => ((laws_heldBoolS.f k bt243.2 1).bind fun t247 => (if t247 < 0 then (none) else ((laws_heldIntSS.f k bt245.2 t247).bind fun t248 => (if t248 < 0 then (none) else (if t248 = bt245.1 then ((laws_toIntSS.f k l1).bind fun t249 => ((impl_Solve.f k a0 t249).bind fun bt252 => (if (bt252.1 != bt214.1) = true then (none) else ((laws_eqBoolS.f k bt252.2.1 bt214.2.1).bind fun t260 => (if t260 = true then ((laws_eqIntSS.f k bt252.2.2.1 bt214.2.2.1).bind fun t261 => (if t261 = true then (if (bt252.2.2.2 != bt214.2.2.2) = true then (none) else ((laws_heldBoolS.f k bt243.2 1).bind fun t262 => (if t262 < 0 then (none) else ((laws_heldIntSS.f k bt245.2 t262).bind fun t263 => (if t263 < 0 then (none) else (if t263 = bt245.1 then (some true) else (none))))))) else (none))) else (none)))))) else (none)))))))) else (none))) else (none))))) else (none))))) else (none))) else (none))))))) = some r := H
    have A5 := Aside0.mk A50
    clear A50
    replace H := Option.bind_eq_some_iff.mp H
    obtain ⟨⟨t214, t215, t216, t217⟩, A60, H⟩ := H
    replace H : ((laws_toIntSS.f k l1).bind fun t222 => ((impl_Solve.f k a0 t222).bind fun bt225 => (if (bt225.1 != t214) = true then (none) else ((laws_eqBoolS.f k bt225.2.1 t215).bind fun t233 => (if t233 = true then ((laws_eqIntSS.f k bt225.2.2.1 t216).bind fun t234 => (if t234 = true then (if (bt225.2.2.2 != t217) = true then (none) else ((laws_toIntSS.f k l1).bind fun t235 => ((laws_eqIntSS.f k t222 t235).bind fun t238 => (if t238 = true then ((laws_markIntSS.f k t222 1).bind fun bt239 => (if bt239.1 < 0 then (none) else ((laws_eqBoolS.f k bt225.2.1 t215).bind fun t241 => (if t241 = true then ((laws_eqIntSS.f k bt225.2.2.1 t216).bind fun t242 => (if t242 = true then ((laws_markBoolS.f k bt225.2.1 1).bind fun bt243 => ((laws_markIntSS.f k bt225.2.2.1 bt243.1).bind fun bt245 => ((laws_heldBoolS.f k bt243.2 1).bind fun t247 => (if t247 < 0 then (none) else ((laws_heldIntSS.f k bt245.2 t247).bind fun t248 => (if t248 < 0 then (none) else (if t248 = bt245.1 then ((laws_toIntSS.f k l1).bind fun t249 => ((impl_Solve.f k a0 t249).bind fun bt252 => (if (bt252.1 != t214) = true then (none) else ((laws_eqBoolS.f k bt252.2.1 t215).bind fun t260 => (if t260 = true then ((laws_eqIntSS.f k bt252.2.2.1 t216).bind fun t261 => (if t261 = true then (if (bt252.2.2.2 != t217) = true then (none) else ((laws_heldBoolS.f k bt243.2 1).bind fun t262 => (if t262 < 0 then (none) else ((laws_heldIntSS.f k bt245.2 t262).bind fun t263 => (if t263 < 0 then (none) else (if t263 = bt245.1 then (some true) else (none))))))) else (none))) else (none)))))) else (none)))))))) else (none))) else (none))))) else (none))))) else (none))) else (none)))))) = some r := H
    have A6 := Aside0.mk A60
    clear A60
    replace H := Option.bind_eq_some_iff.mp H
    obtain ⟨t222, A70, H⟩ := H
    replace H : ((impl_Solve.f k a0 t222).bind fun bt225 => (if (bt225.1 != t214) = true then (none) else ((laws_eqBoolS.f k bt225.2.1 t215).bind fun t233 => (if t233 = true then ((laws_eqIntSS.f k bt225.2.2.1 t216).bind fun t234 => (if t234 = true then (if (bt225.2.2.2 != t217) = true then (none) else ((laws_toIntSS.f k l1).bind fun t235 => ((laws_eqIntSS.f k t222 t235).bind fun t238 => (if t238 = true then ((laws_markIntSS.f k t222 1).bind fun bt239 => (if bt239.1 < 0 then (none) else ((laws_eqBoolS.f k bt225.2.1 t215).bind fun t241 => (if t241 = true then ((laws_eqIntSS.f k bt225.2.2.1 t216).bind fun t242 => (if t242 = true then ((laws_markBoolS.f k bt225.2.1 1).bind fun bt243 => ((laws_markIntSS.f k bt225.2.2.1 bt243.1).bind fun bt245 => ((laws_heldBoolS.f k bt243.2 1).bind fun t247 => (if t247 < 0 then (none) else ((laws_heldIntSS.f k bt245.2 t247).bind fun t248 => (if t248 < 0 then (none) else (if t248 = bt245.1 then ((laws_toIntSS.f k l1).bind fun t249 => ((impl_Solve.f k a0 t249).bind fun bt252 => (if (bt252.1 != t214) = true then (none) else ((laws_eqBoolS.f k bt252.2.1 t215).bind fun t260 => (if t260 = true then ((laws_eqIntSS.f k bt252.2.2.1 t216).bind fun t261 => (if t261 = true then (if (bt252.2.2.2 != t217) = true then (none) else ((laws_heldBoolS.f k bt243.2 1).bind fun t262 => (if t262 < 0 then (none) else ((laws_heldIntSS.f k bt245.2 t262).bind fun t263 => (if t263 < 0 then (none) else (if t263 = bt245.1 then (some true) else (none))))))) else (none))) else (none)))))) else (none)))))))) else (none))) else (none))))) else (none))))) else (none))) else (none))))) = some r := H
    have A7 := Aside0.mk A70
    clear A70
    replace H := Option.bind_eq_some_iff.mp H
    obtain ⟨⟨t225, t226, t227, t228⟩, A80, H⟩ := H
    replace H : (if (t225 != t214) = true then (none) else ((laws_eqBoolS.f k t226 t215).bind fun t233 => (if t233 = true then ((laws_eqIntSS.f k t227 t216).bind fun t234 => (if t234 = true then (if (t228 != t217) = true then (none) else ((laws_toIntSS.f k l1).bind fun t235 => ((laws_eqIntSS.f k t222 t235).bind fun t238 => (if t238 = true then ((laws_markIntSS.f k t222 1).bind fun bt239 => (if bt239.1 < 0 then (none) else ((laws_eqBoolS.f k t226 t215).bind fun t241 => (if t241 = true then ((laws_eqIntSS.f k t227 t216).bind fun t242 => (if t242 = true then ((laws_markBoolS.f k t226 1).bind fun bt243 => ((laws_markIntSS.f k t227 bt243.1).bind fun bt245 => ((laws_heldBoolS.f k bt243.2 1).bind fun t247 => (if t247 < 0 then (none) else ((laws_heldIntSS.f k bt245.2 t247).bind fun t248 => (if t248 < 0 then (none) else (if t248 = bt245.1 then ((laws_toIntSS.f k l1).bind fun t249 => ((impl_Solve.f k a0 t249).bind fun bt252 => (if (bt252.1 != t214) = true then (none) else ((laws_eqBoolS.f k bt252.2.1 t215).bind fun t260 => (if t260 = true then ((laws_eqIntSS.f k bt252.2.2.1 t216).bind fun t261 => (if t261 = true then (if (bt252.2.2.2 != t217) = true then (none) else ((laws_heldBoolS.f k bt243.2 1).bind fun t262 => (if t262 < 0 then (none) else ((laws_heldIntSS.f k bt245.2 t262).bind fun t263 => (if t263 < 0 then (none) else (if t263 = bt245.1 then (some true) else (none))))))) else (none))) else (none)))))) else (none)))))))) else (none))) else (none))))) else (none))))) else (none))) else (none)))) = some r := H
    have A8 := Aside0.mk A80
    clear A80
    by_cases c9 : (t225 != t214) = true
    · rw [if_pos c9] at H
      exact absurd H (by simp)
    · rw [if_neg c9] at H
      have c9b0 : (t225 != t214) = false := by simpa using c9
      (try (have c9b1 : decide (t225 = t214) = true := by simpa using c9))
      (try (have c9b2 : (t225 == t214) = true := by simpa using c9))
      clear c9
      replace H := Option.bind_eq_some_iff.mp H
      obtain ⟨t233, A100, H⟩ := H
      replace H : (if t233 = true then ((laws_eqIntSS.f k t227 t216).bind fun t234 => (if t234 = true then (if (t228 != t217) = true then (none) else ((laws_toIntSS.f k l1).bind fun t235 => ((laws_eqIntSS.f k t222 t235).bind fun t238 => (if t238 = true then ((laws_markIntSS.f k t222 1).bind fun bt239 => (if bt239.1 < 0 then (none) else ((laws_eqBoolS.f k t226 t215).bind fun t241 => (if t241 = true then ((laws_eqIntSS.f k t227 t216).bind fun t242 => (if t242 = true then ((laws_markBoolS.f k t226 1).bind fun bt243 => ((laws_markIntSS.f k t227 bt243.1).bind fun bt245 => ((laws_heldBoolS.f k bt243.2 1).bind fun t247 => (if t247 < 0 then (none) else ((laws_heldIntSS.f k bt245.2 t247).bind fun t248 => (if t248 < 0 then (none) else (if t248 = bt245.1 then ((laws_toIntSS.f k l1).bind fun t249 => ((impl_Solve.f k a0 t249).bind fun bt252 => (if (bt252.1 != t214) = true then (none) else ((laws_eqBoolS.f k bt252.2.1 t215).bind fun t260 => (if t260 = true then ((laws_eqIntSS.f k bt252.2.2.1 t216).bind fun t261 => (if t261 = true then (if (bt252.2.2.2 != t217) = true then (none) else ((laws_heldBoolS.f k bt243.2 1).bind fun t262 => (if t262 < 0 then (none) else ((laws_heldIntSS.f k bt245.2 t262).bind fun t263 => (if t263 < 0 then (none) else (if t263 = bt245.1 then (some true) else (none))))))) else (none))) else (none)))))) else (none)))))))) else (none))) else (none))))) else (none))))) else (none))) else (none)) = some r := H
      have A10 := Aside0.mk A100
      clear A100
      by_cases c11 : t233 = true
      · subst c11
        have H1 : ((laws_eqIntSS.f k t227 t216).bind fun t234 => (if t234 = true then (if (t228 != t217) = true then (none) else ((laws_toIntSS.f k l1).bind fun t235 => ((laws_eqIntSS.f k t222 t235).bind fun t238 => (if t238 = true then ((laws_markIntSS.f k t222 1).bind fun bt239 => (if bt239.1 < 0 then (none) else ((laws_eqBoolS.f k t226 t215).bind fun t241 => (if t241 = true then ((laws_eqIntSS.f k t227 t216).bind fun t242 => (if t242 = true then ((laws_markBoolS.f k t226 1).bind fun bt243 => ((laws_markIntSS.f k t227 bt243.1).bind fun bt245 => ((laws_heldBoolS.f k bt243.2 1).bind fun t247 => (if t247 < 0 then (none) else ((laws_heldIntSS.f k bt245.2 t247).bind fun t248 => (if t248 < 0 then (none) else (if t248 = bt245.1 then ((laws_toIntSS.f k l1).bind fun t249 => ((impl_Solve.f k a0 t249).bind fun bt252 => (if (bt252.1 != t214) = true then (none) else ((laws_eqBoolS.f k bt252.2.1 t215).bind fun t260 => (if t260 = true then ((laws_eqIntSS.f k bt252.2.2.1 t216).bind fun t261 => (if t261 = true then (if (bt252.2.2.2 != t217) = true then (none) else ((laws_heldBoolS.f k bt243.2 1).bind fun t262 => (if t262 < 0 then (none) else ((laws_heldIntSS.f k bt245.2 t262).bind fun t263 => (if t263 < 0 then (none) else (if t263 = bt245.1 then (some true) else (none))))))) else (none))) else (none)))))) else (none)))))))) else (none))) else (none))))) else (none))))) else (none))) = some r := by rw [if_pos rfl] at H; exact H
        clear H
        have H := H1
        clear H1
        replace H := Option.bind_eq_some_iff.mp H
        obtain ⟨t234, A120, H⟩ := H
        replace H : (if t234 = true then (if (t228 != t217) = true then (none) else ((laws_toIntSS.f k l1).bind fun t235 => ((laws_eqIntSS.f k t222 t235).bind fun t238 => (if t238 = true then ((laws_markIntSS.f k t222 1).bind fun bt239 => (if bt239.1 < 0 then (none) else ((laws_eqBoolS.f k t226 t215).bind fun t241 => (if t241 = true then ((laws_eqIntSS.f k t227 t216).bind fun t242 => (if t242 = true then ((laws_markBoolS.f k t226 1).bind fun bt243 => ((laws_markIntSS.f k t227 bt243.1).bind fun bt245 => ((laws_heldBoolS.f k bt243.2 1).bind fun t247 => (if t247 < 0 then (none) else ((laws_heldIntSS.f k bt245.2 t247).bind fun t248 => (if t248 < 0 then (none) else (if t248 = bt245.1 then ((laws_toIntSS.f k l1).bind fun t249 => ((impl_Solve.f k a0 t249).bind fun bt252 => (if (bt252.1 != t214) = true then (none) else ((laws_eqBoolS.f k bt252.2.1 t215).bind fun t260 => (if t260 = true then ((laws_eqIntSS.f k bt252.2.2.1 t216).bind fun t261 => (if t261 = true then (if (bt252.2.2.2 != t217) = true then (none) else ((laws_heldBoolS.f k bt243.2 1).bind fun t262 => (if t262 < 0 then (none) else ((laws_heldIntSS.f k bt245.2 t262).bind fun t263 => (if t263 < 0 then (none) else (if t263 = bt245.1 then (some true) else (none))))))) else (none))) else (none)))))) else (none)))))))) else (none))) else (none))))) else (none))))) else (none)) = some r := H
        have A12 := Aside0.mk A120
        clear A120
        by_cases c13 : t234 = true
        · subst c13
          have H1 : (if (t228 != t217) = true then (none) else ((laws_toIntSS.f k l1).bind fun t235 => ((laws_eqIntSS.f k t222 t235).bind fun t238 => (if t238 = true then ((laws_markIntSS.f k t222 1).bind fun bt239 => (if bt239.1 < 0 then (none) else ((laws_eqBoolS.f k t226 t215).bind fun t241 => (if t241 = true then ((laws_eqIntSS.f k t227 t216).bind fun t242 => (if t242 = true then ((laws_markBoolS.f k t226 1).bind fun bt243 => ((laws_markIntSS.f k t227 bt243.1).bind fun bt245 => ((laws_heldBoolS.f k bt243.2 1).bind fun t247 => (if t247 < 0 then (none) else ((laws_heldIntSS.f k bt245.2 t247).bind fun t248 => (if t248 < 0 then (none) else (if t248 = bt245.1 then ((laws_toIntSS.f k l1).bind fun t249 => ((impl_Solve.f k a0 t249).bind fun bt252 => (if (bt252.1 != t214) = true then (none) else ((laws_eqBoolS.f k bt252.2.1 t215).bind fun t260 => (if t260 = true then ((laws_eqIntSS.f k bt252.2.2.1 t216).bind fun t261 => (if t261 = true then (if (bt252.2.2.2 != t217) = true then (none) else ((laws_heldBoolS.f k bt243.2 1).bind fun t262 => (if t262 < 0 then (none) else ((laws_heldIntSS.f k bt245.2 t262).bind fun t263 => (if t263 < 0 then (none) else (if t263 = bt245.1 then (some true) else (none))))))) else (none))) else (none)))))) else (none)))))))) else (none))) else (none))))) else (none))))) = some r := by rw [if_pos rfl] at H; exact H
          clear H
          have H := H1
          clear H1
          by_cases c14 : (t228 != t217) = true
          · rw [if_pos c14] at H
            exact absurd H (by simp)
          · rw [if_neg c14] at H
            have c14b0 : (t228 != t217) = false := by simpa using c14
            (try (have c14b1 : decide (t228 = t217) = true := by simpa using c14))
            (try (have c14b2 : (t228 == t217) = true := by simpa using c14))
            clear c14
            replace H := Option.bind_eq_some_iff.mp H
            obtain ⟨t235, A150, H⟩ := H
            replace H : ((laws_eqIntSS.f k t222 t235).bind fun t238 => (if t238 = true then ((laws_markIntSS.f k t222 1).bind fun bt239 => (if bt239.1 < 0 then (none) else ((laws_eqBoolS.f k t226 t215).bind fun t241 => (if t241 = true then ((laws_eqIntSS.f k t227 t216).bind fun t242 => (if t242 = true then ((laws_markBoolS.f k t226 1).bind fun bt243 => ((laws_markIntSS.f k t227 bt243.1).bind fun bt245 => ((laws_heldBoolS.f k bt243.2 1).bind fun t247 => (if t247 < 0 then (none) else ((laws_heldIntSS.f k bt245.2 t247).bind fun t248 => (if t248 < 0 then (none) else (if t248 = bt245.1 then ((laws_toIntSS.f k l1).bind fun t249 => ((impl_Solve.f k a0 t249).bind fun bt252 => (if (bt252.1 != t214) = true then (none) else ((laws_eqBoolS.f k bt252.2.1 t215).bind fun t260 => (if t260 = true then ((laws_eqIntSS.f k bt252.2.2.1 t216).bind fun t261 => (if t261 = true then (if (bt252.2.2.2 != t217) = true then (none) else ((laws_heldBoolS.f k bt243.2 1).bind fun t262 => (if t262 < 0 then (none) else ((laws_heldIntSS.f k bt245.2 t262).bind fun t263 => (if t263 < 0 then (none) else (if t263 = bt245.1 then (some true) else (none))))))) else (none))) else (none)))))) else (none)))))))) else (none))) else (none))))) else (none))) = some r := H
            have A15 := Aside0.mk A150
            clear A150
            replace H := Option.bind_eq_some_iff.mp H
            obtain ⟨t238, A160, H⟩ := H
            replace H : (if t238 = true then ((laws_markIntSS.f k t222 1).bind fun bt239 => (if bt239.1 < 0 then (none) else ((laws_eqBoolS.f k t226 t215).bind fun t241 => (if t241 = true then ((laws_eqIntSS.f k t227 t216).bind fun t242 => (if t242 = true then ((laws_markBoolS.f k t226 1).bind fun bt243 => ((laws_markIntSS.f k t227 bt243.1).bind fun bt245 => ((laws_heldBoolS.f k bt243.2 1).bind fun t247 => (if t247 < 0 then (none) else ((laws_heldIntSS.f k bt245.2 t247).bind fun t248 => (if t248 < 0 then (none) else (if t248 = bt245.1 then ((laws_toIntSS.f k l1).bind fun t249 => ((impl_Solve.f k a0 t249).bind fun bt252 => (if (bt252.1 != t214) = true then (none) else ((laws_eqBoolS.f k bt252.2.1 t215).bind fun t260 => (if t260 = true then ((laws_eqIntSS.f k bt252.2.2.1 t216).bind fun t261 => (if t261 = true then (if (bt252.2.2.2 != t217) = true then (none) else ((laws_heldBoolS.f k bt243.2 1).bind fun t262 => (if t262 < 0 then (none) else ((laws_heldIntSS.f k bt245.2 t262).bind fun t263 => (if t263 < 0 then (none) else (if t263 = bt245.1 then (some true) else (none))))))) else (none))) else (none)))))) else (none)))))))) else (none))) else (none))))) else (none)) = some r := H
            have A16 := Aside0.mk A160
            clear A160
            by_cases c17 : t238 = true
            · subst c17
              have H1 : ((laws_markIntSS.f k t222 1).bind fun bt239 => (if bt239.1 < 0 then (none) else ((laws_eqBoolS.f k t226 t215).bind fun t241 => (if t241 = true then ((laws_eqIntSS.f k t227 t216).bind fun t242 => (if t242 = true then ((laws_markBoolS.f k t226 1).bind fun bt243 => ((laws_markIntSS.f k t227 bt243.1).bind fun bt245 => ((laws_heldBoolS.f k bt243.2 1).bind fun t247 => (if t247 < 0 then (none) else ((laws_heldIntSS.f k bt245.2 t247).bind fun t248 => (if t248 < 0 then (none) else (if t248 = bt245.1 then ((laws_toIntSS.f k l1).bind fun t249 => ((impl_Solve.f k a0 t249).bind fun bt252 => (if (bt252.1 != t214) = true then (none) else ((laws_eqBoolS.f k bt252.2.1 t215).bind fun t260 => (if t260 = true then ((laws_eqIntSS.f k bt252.2.2.1 t216).bind fun t261 => (if t261 = true then (if (bt252.2.2.2 != t217) = true then (none) else ((laws_heldBoolS.f k bt243.2 1).bind fun t262 => (if t262 < 0 then (none) else ((laws_heldIntSS.f k bt245.2 t262).bind fun t263 => (if t263 < 0 then (none) else (if t263 = bt245.1 then (some true) else (none))))))) else (none))) else (none)))))) else (none)))))))) else (none))) else (none))))) = some r := by rw [if_pos rfl] at H; exact H
              clear H
              have H := H1
              clear H1
              replace H := Option.bind_eq_some_iff.mp H
              obtain ⟨⟨t239, t240⟩, A180, H⟩ := H
              replace H : (if t239 < 0 then (none) else ((laws_eqBoolS.f k t226 t215).bind fun t241 => (if t241 = true then ((laws_eqIntSS.f k t227 t216).bind fun t242 => (if t242 = true then ((laws_markBoolS.f k t226 1).bind fun bt243 => ((laws_markIntSS.f k t227 bt243.1).bind fun bt245 => ((laws_heldBoolS.f k bt243.2 1).bind fun t247 => (if t247 < 0 then (none) else ((laws_heldIntSS.f k bt245.2 t247).bind fun t248 => (if t248 < 0 then (none) else (if t248 = bt245.1 then ((laws_toIntSS.f k l1).bind fun t249 => ((impl_Solve.f k a0 t249).bind fun bt252 => (if (bt252.1 != t214) = true then (none) else ((laws_eqBoolS.f k bt252.2.1 t215).bind fun t260 => (if t260 = true then ((laws_eqIntSS.f k bt252.2.2.1 t216).bind fun t261 => (if t261 = true then (if (bt252.2.2.2 != t217) = true then (none) else ((laws_heldBoolS.f k bt243.2 1).bind fun t262 => (if t262 < 0 then (none) else ((laws_heldIntSS.f k bt245.2 t262).bind fun t263 => (if t263 < 0 then (none) else (if t263 = bt245.1 then (some true) else (none))))))) else (none))) else (none)))))) else (none)))))))) else (none))) else (none)))) = some r := H
              have A18 := Aside0.mk A180
              clear A180
              by_cases c19 : t239 < 0
              · rw [if_pos c19] at H
                exact absurd H (by simp)
              · rw [if_neg c19] at H
                have c19b0 : decide (t239 < 0) = false := decide_eq_false c19
                clear c19
                replace H := Option.bind_eq_some_iff.mp H
                obtain ⟨t241, A200, H⟩ := H
                replace H : (if t241 = true then ((laws_eqIntSS.f k t227 t216).bind fun t242 => (if t242 = true then ((laws_markBoolS.f k t226 1).bind fun bt243 => ((laws_markIntSS.f k t227 bt243.1).bind fun bt245 => ((laws_heldBoolS.f k bt243.2 1).bind fun t247 => (if t247 < 0 then (none) else ((laws_heldIntSS.f k bt245.2 t247).bind fun t248 => (if t248 < 0 then (none) else (if t248 = bt245.1 then ((laws_toIntSS.f k l1).bind fun t249 => ((impl_Solve.f k a0 t249).bind fun bt252 => (if (bt252.1 != t214) = true then (none) else ((laws_eqBoolS.f k bt252.2.1 t215).bind fun t260 => (if t260 = true then ((laws_eqIntSS.f k bt252.2.2.1 t216).bind fun t261 => (if t261 = true then (if (bt252.2.2.2 != t217) = true then (none) else ((laws_heldBoolS.f k bt243.2 1).bind fun t262 => (if t262 < 0 then (none) else ((laws_heldIntSS.f k bt245.2 t262).bind fun t263 => (if t263 < 0 then (none) else (if t263 = bt245.1 then (some true) else (none))))))) else (none))) else (none)))))) else (none)))))))) else (none))) else (none)) = some r := H
                have A20 := Aside0.mk A200
                clear A200
                by_cases c21 : t241 = true
                · subst c21
                  have H1 : ((laws_eqIntSS.f k t227 t216).bind fun t242 => (if t242 = true then ((laws_markBoolS.f k t226 1).bind fun bt243 => ((laws_markIntSS.f k t227 bt243.1).bind fun bt245 => ((laws_heldBoolS.f k bt243.2 1).bind fun t247 => (if t247 < 0 then (none) else ((laws_heldIntSS.f k bt245.2 t247).bind fun t248 => (if t248 < 0 then (none) else (if t248 = bt245.1 then ((laws_toIntSS.f k l1).bind fun t249 => ((impl_Solve.f k a0 t249).bind fun bt252 => (if (bt252.1 != t214) = true then (none) else ((laws_eqBoolS.f k bt252.2.1 t215).bind fun t260 => (if t260 = true then ((laws_eqIntSS.f k bt252.2.2.1 t216).bind fun t261 => (if t261 = true then (if (bt252.2.2.2 != t217) = true then (none) else ((laws_heldBoolS.f k bt243.2 1).bind fun t262 => (if t262 < 0 then (none) else ((laws_heldIntSS.f k bt245.2 t262).bind fun t263 => (if t263 < 0 then (none) else (if t263 = bt245.1 then (some true) else (none))))))) else (none))) else (none)))))) else (none)))))))) else (none))) = some r := by rw [if_pos rfl] at H; exact H
                  clear H
                  have H := H1
                  clear H1
                  replace H := Option.bind_eq_some_iff.mp H
                  obtain ⟨t242, A220, H⟩ := H
                  replace H : (if t242 = true then ((laws_markBoolS.f k t226 1).bind fun bt243 => ((laws_markIntSS.f k t227 bt243.1).bind fun bt245 => ((laws_heldBoolS.f k bt243.2 1).bind fun t247 => (if t247 < 0 then (none) else ((laws_heldIntSS.f k bt245.2 t247).bind fun t248 => (if t248 < 0 then (none) else (if t248 = bt245.1 then ((laws_toIntSS.f k l1).bind fun t249 => ((impl_Solve.f k a0 t249).bind fun bt252 => (if (bt252.1 != t214) = true then (none) else ((laws_eqBoolS.f k bt252.2.1 t215).bind fun t260 => (if t260 = true then ((laws_eqIntSS.f k bt252.2.2.1 t216).bind fun t261 => (if t261 = true then (if (bt252.2.2.2 != t217) = true then (none) else ((laws_heldBoolS.f k bt243.2 1).bind fun t262 => (if t262 < 0 then (none) else ((laws_heldIntSS.f k bt245.2 t262).bind fun t263 => (if t263 < 0 then (none) else (if t263 = bt245.1 then (some true) else (none))))))) else (none))) else (none)))))) else (none)))))))) else (none)) = some r := H
                  have A22 := Aside0.mk A220
                  clear A220
                  by_cases c23 : t242 = true
                  · subst c23
                    have H1 : ((laws_markBoolS.f k t226 1).bind fun bt243 => ((laws_markIntSS.f k t227 bt243.1).bind fun bt245 => ((laws_heldBoolS.f k bt243.2 1).bind fun t247 => (if t247 < 0 then (none) else ((laws_heldIntSS.f k bt245.2 t247).bind fun t248 => (if t248 < 0 then (none) else (if t248 = bt245.1 then ((laws_toIntSS.f k l1).bind fun t249 => ((impl_Solve.f k a0 t249).bind fun bt252 => (if (bt252.1 != t214) = true then (none) else ((laws_eqBoolS.f k bt252.2.1 t215).bind fun t260 => (if t260 = true then ((laws_eqIntSS.f k bt252.2.2.1 t216).bind fun t261 => (if t261 = true then (if (bt252.2.2.2 != t217) = true then (none) else ((laws_heldBoolS.f k bt243.2 1).bind fun t262 => (if t262 < 0 then (none) else ((laws_heldIntSS.f k bt245.2 t262).bind fun t263 => (if t263 < 0 then (none) else (if t263 = bt245.1 then (some true) else (none))))))) else (none))) else (none)))))) else (none)))))))) = some r := by rw [if_pos rfl] at H; exact H
                    clear H
                    have H := H1
                    clear H1
                    replace H := Option.bind_eq_some_iff.mp H
                    obtain ⟨⟨t243, t244⟩, A240, H⟩ := H
                    replace H : ((laws_markIntSS.f k t227 t243).bind fun bt245 => ((laws_heldBoolS.f k t244 1).bind fun t247 => (if t247 < 0 then (none) else ((laws_heldIntSS.f k bt245.2 t247).bind fun t248 => (if t248 < 0 then (none) else (if t248 = bt245.1 then ((laws_toIntSS.f k l1).bind fun t249 => ((impl_Solve.f k a0 t249).bind fun bt252 => (if (bt252.1 != t214) = true then (none) else ((laws_eqBoolS.f k bt252.2.1 t215).bind fun t260 => (if t260 = true then ((laws_eqIntSS.f k bt252.2.2.1 t216).bind fun t261 => (if t261 = true then (if (bt252.2.2.2 != t217) = true then (none) else ((laws_heldBoolS.f k t244 1).bind fun t262 => (if t262 < 0 then (none) else ((laws_heldIntSS.f k bt245.2 t262).bind fun t263 => (if t263 < 0 then (none) else (if t263 = bt245.1 then (some true) else (none))))))) else (none))) else (none)))))) else (none))))))) = some r := H
                    have A24 := Aside0.mk A240
                    clear A240
                    replace H := Option.bind_eq_some_iff.mp H
                    obtain ⟨⟨t245, t246⟩, A250, H⟩ := H
                    replace H : ((laws_heldBoolS.f k t244 1).bind fun t247 => (if t247 < 0 then (none) else ((laws_heldIntSS.f k t246 t247).bind fun t248 => (if t248 < 0 then (none) else (if t248 = t245 then ((laws_toIntSS.f k l1).bind fun t249 => ((impl_Solve.f k a0 t249).bind fun bt252 => (if (bt252.1 != t214) = true then (none) else ((laws_eqBoolS.f k bt252.2.1 t215).bind fun t260 => (if t260 = true then ((laws_eqIntSS.f k bt252.2.2.1 t216).bind fun t261 => (if t261 = true then (if (bt252.2.2.2 != t217) = true then (none) else ((laws_heldBoolS.f k t244 1).bind fun t262 => (if t262 < 0 then (none) else ((laws_heldIntSS.f k t246 t262).bind fun t263 => (if t263 < 0 then (none) else (if t263 = t245 then (some true) else (none))))))) else (none))) else (none)))))) else (none)))))) = some r := H
                    have A25 := Aside0.mk A250
                    clear A250
                    replace H := Option.bind_eq_some_iff.mp H
                    obtain ⟨t247, A260, H⟩ := H
                    replace H : (if t247 < 0 then (none) else ((laws_heldIntSS.f k t246 t247).bind fun t248 => (if t248 < 0 then (none) else (if t248 = t245 then ((laws_toIntSS.f k l1).bind fun t249 => ((impl_Solve.f k a0 t249).bind fun bt252 => (if (bt252.1 != t214) = true then (none) else ((laws_eqBoolS.f k bt252.2.1 t215).bind fun t260 => (if t260 = true then ((laws_eqIntSS.f k bt252.2.2.1 t216).bind fun t261 => (if t261 = true then (if (bt252.2.2.2 != t217) = true then (none) else ((laws_heldBoolS.f k t244 1).bind fun t262 => (if t262 < 0 then (none) else ((laws_heldIntSS.f k t246 t262).bind fun t263 => (if t263 < 0 then (none) else (if t263 = t245 then (some true) else (none))))))) else (none))) else (none)))))) else (none))))) = some r := H
                    have A26 := Aside0.mk A260
                    clear A260
                    by_cases c27 : t247 < 0
                    · rw [if_pos c27] at H
                      exact absurd H (by simp)
                    · rw [if_neg c27] at H
                      have c27b0 : decide (t247 < 0) = false := decide_eq_false c27
                      clear c27
                      replace H := Option.bind_eq_some_iff.mp H
                      obtain ⟨t248, A280, H⟩ := H
                      replace H : (if t248 < 0 then (none) else (if t248 = t245 then ((laws_toIntSS.f k l1).bind fun t249 => ((impl_Solve.f k a0 t249).bind fun bt252 => (if (bt252.1 != t214) = true then (none) else ((laws_eqBoolS.f k bt252.2.1 t215).bind fun t260 => (if t260 = true then ((laws_eqIntSS.f k bt252.2.2.1 t216).bind fun t261 => (if t261 = true then (if (bt252.2.2.2 != t217) = true then (none) else ((laws_heldBoolS.f k t244 1).bind fun t262 => (if t262 < 0 then (none) else ((laws_heldIntSS.f k t246 t262).bind fun t263 => (if t263 < 0 then (none) else (if t263 = t245 then (some true) else (none))))))) else (none))) else (none)))))) else (none))) = some r := H
                      have A28 := Aside0.mk A280
                      clear A280
                      by_cases c29 : t248 < 0
                      · rw [if_pos c29] at H
                        exact absurd H (by simp)
                      · rw [if_neg c29] at H
                        have c29b0 : decide (t248 < 0) = false := decide_eq_false c29
                        clear c29
                        by_cases c30 : t248 = t245
                        · rw [if_pos c30] at H
                          have c30b0 : (t248 == t245) = true := beq_iff_eq.mpr c30
                          have c30b1 : (t248 != t245) = false := bne_eq_false_iff_eq.mpr c30
                          clear c30
                          replace H := Option.bind_eq_some_iff.mp H
                          obtain ⟨t249, A310, H⟩ := H
                          replace H : ((impl_Solve.f k a0 t249).bind fun bt252 => (if (bt252.1 != t214) = true then (none) else ((laws_eqBoolS.f k bt252.2.1 t215).bind fun t260 => (if t260 = true then ((laws_eqIntSS.f k bt252.2.2.1 t216).bind fun t261 => (if t261 = true then (if (bt252.2.2.2 != t217) = true then (none) else ((laws_heldBoolS.f k t244 1).bind fun t262 => (if t262 < 0 then (none) else ((laws_heldIntSS.f k t246 t262).bind fun t263 => (if t263 < 0 then (none) else (if t263 = t245 then (some true) else (none))))))) else (none))) else (none))))) = some r := H
                          have A31 := Aside0.mk A310
                          clear A310
                          replace H := Option.bind_eq_some_iff.mp H
                          obtain ⟨⟨t252, t253, t254, t255⟩, A320, H⟩ := H
                          replace H : (if (t252 != t214) = true then (none) else ((laws_eqBoolS.f k t253 t215).bind fun t260 => (if t260 = true then ((laws_eqIntSS.f k t254 t216).bind fun t261 => (if t261 = true then (if (t255 != t217) = true then (none) else ((laws_heldBoolS.f k t244 1).bind fun t262 => (if t262 < 0 then (none) else ((laws_heldIntSS.f k t246 t262).bind fun t263 => (if t263 < 0 then (none) else (if t263 = t245 then (some true) else (none))))))) else (none))) else (none)))) = some r := H
                          have A32 := Aside0.mk A320
                          clear A320
                          by_cases c33 : (t252 != t214) = true
                          · rw [if_pos c33] at H
                            exact absurd H (by simp)
                          · rw [if_neg c33] at H
                            have c33b0 : (t252 != t214) = false := by simpa using c33
                            (try (have c33b1 : decide (t252 = t214) = true := by simpa using c33))
                            (try (have c33b2 : (t252 == t214) = true := by simpa using c33))
                            clear c33
                            replace H := Option.bind_eq_some_iff.mp H
                            obtain ⟨t260, A340, H⟩ := H
                            replace H : (if t260 = true then ((laws_eqIntSS.f k t254 t216).bind fun t261 => (if t261 = true then (if (t255 != t217) = true then (none) else ((laws_heldBoolS.f k t244 1).bind fun t262 => (if t262 < 0 then (none) else ((laws_heldIntSS.f k t246 t262).bind fun t263 => (if t263 < 0 then (none) else (if t263 = t245 then (some true) else (none))))))) else (none))) else (none)) = some r := H
                            have A34 := Aside0.mk A340
                            clear A340
                            by_cases c35 : t260 = true
                            · subst c35
                              have H1 : ((laws_eqIntSS.f k t254 t216).bind fun t261 => (if t261 = true then (if (t255 != t217) = true then (none) else ((laws_heldBoolS.f k t244 1).bind fun t262 => (if t262 < 0 then (none) else ((laws_heldIntSS.f k t246 t262).bind fun t263 => (if t263 < 0 then (none) else (if t263 = t245 then (some true) else (none))))))) else (none))) = some r := by rw [if_pos rfl] at H; exact H
                              clear H
                              have H := H1
                              clear H1
                              replace H := Option.bind_eq_some_iff.mp H
                              obtain ⟨t261, A360, H⟩ := H
                              replace H : (if t261 = true then (if (t255 != t217) = true then (none) else ((laws_heldBoolS.f k t244 1).bind fun t262 => (if t262 < 0 then (none) else ((laws_heldIntSS.f k t246 t262).bind fun t263 => (if t263 < 0 then (none) else (if t263 = t245 then (some true) else (none))))))) else (none)) = some r := H
                              have A36 := Aside0.mk A360
                              clear A360
                              by_cases c37 : t261 = true
                              · subst c37
                                have H1 : (if (t255 != t217) = true then (none) else ((laws_heldBoolS.f k t244 1).bind fun t262 => (if t262 < 0 then (none) else ((laws_heldIntSS.f k t246 t262).bind fun t263 => (if t263 < 0 then (none) else (if t263 = t245 then (some true) else (none))))))) = some r := by rw [if_pos rfl] at H; exact H
                                clear H
                                have H := H1
                                clear H1
                                by_cases c38 : (t255 != t217) = true
                                · rw [if_pos c38] at H
                                  exact absurd H (by simp)
                                · rw [if_neg c38] at H
                                  have c38b0 : (t255 != t217) = false := by simpa using c38
                                  (try (have c38b1 : decide (t255 = t217) = true := by simpa using c38))
                                  (try (have c38b2 : (t255 == t217) = true := by simpa using c38))
                                  clear c38
                                  replace H := Option.bind_eq_some_iff.mp H
                                  obtain ⟨t262, A390, H⟩ := H
                                  replace H : (if t262 < 0 then (none) else ((laws_heldIntSS.f k t246 t262).bind fun t263 => (if t263 < 0 then (none) else (if t263 = t245 then (some true) else (none))))) = some r := H
                                  have A39 := Aside0.mk A390
                                  clear A390
                                  by_cases c40 : t262 < 0
                                  · rw [if_pos c40] at H
                                    exact absurd H (by simp)
                                  · rw [if_neg c40] at H
                                    have c40b0 : decide (t262 < 0) = false := decide_eq_false c40
                                    clear c40
                                    replace H := Option.bind_eq_some_iff.mp H
                                    obtain ⟨t263, A410, H⟩ := H
                                    replace H : (if t263 < 0 then (none) else (if t263 = t245 then (some true) else (none))) = some r := H
                                    have A41 := Aside0.mk A410
                                    clear A410
                                    by_cases c42 : t263 < 0
                                    · rw [if_pos c42] at H
                                      exact absurd H (by simp)
                                    · rw [if_neg c42] at H
                                      have c42b0 : decide (t263 < 0) = false := decide_eq_false c42
                                      clear c42
                                      by_cases c43 : t263 = t245
                                      · rw [if_pos c43] at H
                                        have c43b0 : (t263 == t245) = true := beq_iff_eq.mpr c43
                                        have c43b1 : (t263 != t245) = false := bne_eq_false_iff_eq.mpr c43
                                        clear c43
                                        obtain rfl := Option.some.inj H
                                        go_enter Try.func9, Try.ntmps9
                                        go_wp2_with (first | ((with_reducible refine gate_callee (f := 11) rfl ?_); refine goesL_ (some 24) rfl rfl Try.func11 (by kernel_rfl) rfl #[.slice A1 l1.length c1, .int .i64 1048576] rfl (by (try simp only [List.map_toArray, List.map_cons, List.map_nil]); first | done | rfl | (simp only [List.length_drop, List.length_take]; rfl)) ?_; (with_reducible refine (laws_szIntSS.calls k _ _ l1 1048576 t210 _ ?side1 ?side2 A3.out).mono ?_); (case side1 => repeat (first | exact HR1.out | (with_reducible refine Kd.C_alloc ?_ _) | (with_reducible refine Kd.C_drewN ?_ _) | (with_reducible refine Kd.C_drew ?_))); (case side2 => exact HC1.out); rintro e w' ⟨rfl, ⟨nd, rfl⟩⟩; refine ⟨_, rfl, ?_⟩) | ((with_reducible refine gate_callee (f := 13) rfl ?_); refine goesL_ (some 30) rfl rfl Try.func13 (by kernel_rfl) rfl #[.slice A1 l1.length c1] rfl (by (try simp only [List.map_toArray, List.map_cons, List.map_nil]); first | done | rfl | (simp only [List.length_drop, List.length_take]; rfl)) ?_; (with_reducible refine (laws_toIntSS.calls k _ _ l1 t211 _ ?side1 ?side2 A5.out).mono ?_); (case side1 => repeat (first | exact HR1.out | (with_reducible refine Kd.C_alloc ?_ _) | (with_reducible refine Kd.C_drewN ?_ _) | (with_reducible refine Kd.C_drew ?_))); (case side2 => exact HC1.out); rintro e w44 ⟨v212, rfl, ho0, hb⟩; refine ⟨_, rfl, ?_⟩; obtain ⟨lo1, hi1, EL1, EH1, LE1⟩ := iv_ hb; have OR1 := Aside0.mk (show 0 ≤ lo1 ∧ lo1 ≤ hi1 from ⟨Nat.le_trans HTop.out (Nat.le_of_eq EL1), LE1⟩); have n0_ := Aside0.mk (Kd.S_mono (ok' := fun k_ => lo1 ≤ k_ ∧ k_ < hi1) (Kd.S_lower (Kd.S_bound ho0) (below_size (by repeat (first | (with_reducible first | exact HB.out | apply below_alloc | apply pw_below_drewN | apply below_drew1) | exact HB.out)))) (fun k_ hk_ => by have a_ := hk_.2.1; have b_ := hk_.2.2.1; omega)); have n1_ := Aside0.mk (Nat.le_of_eq EH1.symm); have n2_ := Aside0.mk (below_step (by repeat (first | (with_reducible first | exact HB.out | apply below_alloc | apply pw_below_drewN | apply below_drew1) | exact HB.out)) hb); clear HTop; clear HB; have HO213 := n0_; have HTop := n1_; have HB := n2_; clear n0_ n1_ n2_; (try clear hb); (try clear hb2); (try clear hk); (try clear hi); (try clear ho0); (try clear EL1); (try clear EH1); (try clear LE1); obtain ⟨Ao45, co45, eo45⟩ := Kd.S_slice HO213.out; subst eo45) | ((with_reducible refine gate_callee (f := 32) rfl ?_); refine goesL_ (some 31) rfl rfl Try.func32 (by kernel_rfl) rfl #[.int .i64 a0, .slice Ao45 t211.length co45] rfl (by (try simp only [List.map_toArray, List.map_cons, List.map_nil]); first | done | rfl | (simp only [List.length_drop, List.length_take]; rfl)) ?_; (with_reducible refine (spec_Solve.calls k a0 _ _ t211 t214 t215 t216 t217 _ ?side1 ?side2 A6.out).mono ?_); (case side1 => repeat (first | exact (Kd.S_reads' HO213.out).2.2 | (with_reducible refine Kd.C_alloc ?_ _) | (with_reducible refine Kd.C_drewN ?_ _) | (with_reducible refine Kd.C_drew ?_))); (case side2 => exact (Kd.S_reads' HO213.out).2.1); rintro e w46 ⟨v218, v220, rfl, ho0, ho1, hb⟩; refine ⟨_, rfl, ?_⟩; obtain ⟨lo2, hi2, EL2, EH2, LE2⟩ := iv_ hb; have OR2 := Aside0.mk (show hi1 ≤ lo2 ∧ lo2 ≤ hi2 from ⟨Nat.le_trans HTop.out (Nat.le_of_eq EL2), LE2⟩); have n0_ := Aside0.mk (Kd.S_below (by (with_reducible repeat (first | apply Kd.S_alloc | apply Kd.S_drewN | apply Kd.S_drew)); exact HO213.out) hb); have n1_ := Aside0.mk (Kd.R_mono (ok' := fun k_ => lo2 ≤ k_ ∧ k_ < hi2) (Kd.R_lower (Kd.R_bound ho0) (below_size (by repeat (first | (with_reducible first | exact HB.out | apply below_alloc | apply pw_below_drewN | apply below_drew1) | exact HB.out)))) (fun k_ hk_ => by have a_ := hk_.2.1; have b_ := hk_.2.2.1; omega)); have n2_ := Aside0.mk (Kd.S_mono (ok' := fun k_ => lo2 ≤ k_ ∧ k_ < hi2) (Kd.S_lower (Kd.S_bound ho1) (below_size (by repeat (first | (with_reducible first | exact HB.out | apply below_alloc | apply pw_below_drewN | apply below_drew1) | exact HB.out)))) (fun k_ hk_ => by have a_ := hk_.2.1; have b_ := hk_.2.2.1; omega)); have n3_ := Aside0.mk (Nat.le_of_eq EH2.symm); have n4_ := Aside0.mk (below_step (by repeat (first | (with_reducible first | exact HB.out | apply below_alloc | apply pw_below_drewN | apply below_drew1) | exact HB.out)) hb); clear HO213; clear HTop; clear HB; have HO213 := n0_; have HO219 := n1_; have HO221 := n2_; have HTop := n3_; have HB := n4_; clear n0_ n1_ n2_ n3_ n4_; (try clear hb); (try clear hb2); (try clear hk); (try clear hi); (try clear ho0); (try clear ho1); (try clear EL2); (try clear EH2); (try clear LE2)) | ((with_reducible refine gate_callee (f := 13) rfl ?_); refine goesL_ (some 37) rfl rfl Try.func13 (by kernel_rfl) rfl #[.slice A1 l1.length c1] rfl (by (try simp only [List.map_toArray, List.map_cons, List.map_nil]); first | done | rfl | (simp only [List.length_drop, List.length_take]; rfl)) ?_; (with_reducible refine (laws_toIntSS.calls k _ _ l1 t222 _ ?side1 ?side2 A7.out).mono ?_); (case side1 => repeat (first | exact (Kd.C_below HR1.out HB.out) | (with_reducible refine Kd.C_alloc ?_ _) | (with_reducible refine Kd.C_drewN ?_ _) | (with_reducible refine Kd.C_drew ?_))); (case side2 => exact HC1.out); rintro e w47 ⟨v223, rfl, ho0, hb⟩; refine ⟨_, rfl, ?_⟩; obtain ⟨lo3, hi3, EL3, EH3, LE3⟩ := iv_ hb; have OR3 := Aside0.mk (show hi2 ≤ lo3 ∧ lo3 ≤ hi3 from ⟨Nat.le_trans HTop.out (Nat.le_of_eq EL3), LE3⟩); have n0_ := Aside0.mk (Kd.S_below (by (with_reducible repeat (first | apply Kd.S_alloc | apply Kd.S_drewN | apply Kd.S_drew)); exact HO213.out) hb); have n1_ := Aside0.mk (Kd.R_below (by (with_reducible repeat (first | apply Kd.R_alloc | apply Kd.R_drewN | apply Kd.R_drew)); exact HO219.out) hb); have n2_ := Aside0.mk (Kd.S_below (by (with_reducible repeat (first | apply Kd.S_alloc | apply Kd.S_drewN | apply Kd.S_drew)); exact HO221.out) hb); have n3_ := Aside0.mk (Kd.S_mono (ok' := fun k_ => lo3 ≤ k_ ∧ k_ < hi3) (Kd.S_lower (Kd.S_bound ho0) (below_size (by repeat (first | (with_reducible first | exact HB.out | apply below_alloc | apply pw_below_drewN | apply below_drew1) | exact HB.out)))) (fun k_ hk_ => by have a_ := hk_.2.1; have b_ := hk_.2.2.1; omega)); have n4_ := Aside0.mk (Nat.le_of_eq EH3.symm); have n5_ := Aside0.mk (below_step (by repeat (first | (with_reducible first | exact HB.out | apply below_alloc | apply pw_below_drewN | apply below_drew1) | exact HB.out)) hb); clear HO213; clear HO219; clear HO221; clear HTop; clear HB; have HO213 := n0_; have HO219 := n1_; have HO221 := n2_; have HO224 := n3_; have HTop := n4_; have HB := n5_; clear n0_ n1_ n2_ n3_ n4_ n5_; (try clear hb); (try clear hb2); (try clear hk); (try clear hi); (try clear ho0); (try clear EL3); (try clear EH3); (try clear LE3); obtain ⟨Ao48, co48, eo48⟩ := Kd.S_slice HO224.out; subst eo48) | ((with_reducible refine gate_callee (f := 33) rfl ?_); refine goesL_ (some 41) rfl rfl Try.func33 (by kernel_rfl) rfl #[.int .i64 a0, .slice Ao48 t222.length co48] rfl (by (try simp only [List.map_toArray, List.map_cons, List.map_nil]); first | done | rfl | (simp only [List.length_drop, List.length_take]; rfl)) ?_; (with_reducible refine (impl_Solve.calls k a0 _ _ t222 t225 t226 t227 t228 _ ?side1 ?side2 A8.out).mono ?_); (case side1 => repeat (first | exact (Kd.S_reads' HO224.out).2.2 | (with_reducible refine Kd.C_alloc ?_ _) | (with_reducible refine Kd.C_drewN ?_ _) | (with_reducible refine Kd.C_drew ?_))); (case side2 => exact (Kd.S_reads' HO224.out).2.1); rintro e w49 ⟨v229, v231, rfl, ho0, ho1, hb⟩; refine ⟨_, rfl, ?_⟩; obtain ⟨lo4, hi4, EL4, EH4, LE4⟩ := iv_ hb; have OR4 := Aside0.mk (show hi3 ≤ lo4 ∧ lo4 ≤ hi4 from ⟨Nat.le_trans HTop.out (Nat.le_of_eq EL4), LE4⟩); have n0_ := Aside0.mk (Kd.S_below (by (with_reducible repeat (first | apply Kd.S_alloc | apply Kd.S_drewN | apply Kd.S_drew)); exact HO213.out) hb); have n1_ := Aside0.mk (Kd.R_below (by (with_reducible repeat (first | apply Kd.R_alloc | apply Kd.R_drewN | apply Kd.R_drew)); exact HO219.out) hb); have n2_ := Aside0.mk (Kd.S_below (by (with_reducible repeat (first | apply Kd.S_alloc | apply Kd.S_drewN | apply Kd.S_drew)); exact HO221.out) hb); have n3_ := Aside0.mk (Kd.S_below (by (with_reducible repeat (first | apply Kd.S_alloc | apply Kd.S_drewN | apply Kd.S_drew)); exact HO224.out) hb); have n4_ := Aside0.mk (Kd.R_mono (ok' := fun k_ => lo4 ≤ k_ ∧ k_ < hi4) (Kd.R_lower (Kd.R_bound ho0) (below_size (by repeat (first | (with_reducible first | exact HB.out | apply below_alloc | apply pw_below_drewN | apply below_drew1) | exact HB.out)))) (fun k_ hk_ => by have a_ := hk_.2.1; have b_ := hk_.2.2.1; omega)); have n5_ := Aside0.mk (Kd.S_mono (ok' := fun k_ => lo4 ≤ k_ ∧ k_ < hi4) (Kd.S_lower (Kd.S_bound ho1) (below_size (by repeat (first | (with_reducible first | exact HB.out | apply below_alloc | apply pw_below_drewN | apply below_drew1) | exact HB.out)))) (fun k_ hk_ => by have a_ := hk_.2.1; have b_ := hk_.2.2.1; omega)); have n6_ := Aside0.mk (Nat.le_of_eq EH4.symm); have n7_ := Aside0.mk (below_step (by repeat (first | (with_reducible first | exact HB.out | apply below_alloc | apply pw_below_drewN | apply below_drew1) | exact HB.out)) hb); clear HO213; clear HO219; clear HO221; clear HO224; clear HTop; clear HB; have HO213 := n0_; have HO219 := n1_; have HO221 := n2_; have HO224 := n3_; have HO230 := n4_; have HO232 := n5_; have HTop := n6_; have HB := n7_; clear n0_ n1_ n2_ n3_ n4_ n5_ n6_ n7_; (try clear hb); (try clear hb2); (try clear hk); (try clear hi); (try clear ho0); (try clear ho1); (try clear EL4); (try clear EH4); (try clear LE4); obtain ⟨Ao50, co50, eo50⟩ := Kd.R_slice HO230.out; subst eo50; obtain ⟨Ao51, co51, eo51⟩ := Kd.R_slice HO219.out; subst eo51) | (go_at_call 34; (with_reducible refine (laws_eqBoolS.calls k _ _ t226 _ _ t215 true _ ?side1 ?side2 ?side3 ?side4 A10.out).mono ?_); (case side1 => repeat (first | exact (Kd.R_reads' HO230.out).2.2 | (with_reducible refine Kd.C_alloc ?_ _) | (with_reducible refine Kd.C_drewN ?_ _) | (with_reducible refine Kd.C_drew ?_))); (case side2 => exact (Kd.R_reads' HO230.out).2.1); (case side3 => repeat (first | exact (Kd.R_reads' HO219.out).2.2 | (with_reducible refine Kd.C_alloc ?_ _) | (with_reducible refine Kd.C_drewN ?_ _) | (with_reducible refine Kd.C_drew ?_))); (case side4 => exact (Kd.R_reads' HO219.out).2.1); rintro e w' ⟨rfl, ⟨nd, rfl⟩⟩; obtain ⟨Ao52, co52, eo52⟩ := Kd.S_slice HO232.out; subst eo52; obtain ⟨Ao53, co53, eo53⟩ := Kd.S_slice HO221.out; subst eo53) | (go_at_call 15; (with_reducible refine (laws_eqIntSS.calls k _ _ t227 _ _ t216 true _ ?side1 ?side2 ?side3 ?side4 A12.out).mono ?_); (case side1 => repeat (first | exact (Kd.S_reads' HO232.out).2.2 | (with_reducible refine Kd.C_alloc ?_ _) | (with_reducible refine Kd.C_drewN ?_ _) | (with_reducible refine Kd.C_drew ?_))); (case side2 => exact (Kd.S_reads' HO232.out).2.1); (case side3 => repeat (first | exact (Kd.S_reads' HO221.out).2.2 | (with_reducible refine Kd.C_alloc ?_ _) | (with_reducible refine Kd.C_drewN ?_ _) | (with_reducible refine Kd.C_drew ?_))); (case side4 => exact (Kd.S_reads' HO221.out).2.1); rintro e w' ⟨rfl, ⟨nd, rfl⟩⟩) | ((with_reducible refine gate_callee (f := 13) rfl ?_); refine goesL_ (some 68) rfl rfl Try.func13 (by kernel_rfl) rfl #[.slice A1 l1.length c1] rfl (by (try simp only [List.map_toArray, List.map_cons, List.map_nil]); first | done | rfl | (simp only [List.length_drop, List.length_take]; rfl)) ?_; (with_reducible refine (laws_toIntSS.calls k _ _ l1 t235 _ ?side1 ?side2 A15.out).mono ?_); (case side1 => repeat (first | exact (Kd.C_below HR1.out (by repeat (first | (with_reducible first | exact HB.out | apply below_alloc | apply pw_below_drewN | apply below_drew1) | exact HB.out))) | (with_reducible refine Kd.C_alloc ?_ _) | (with_reducible refine Kd.C_drewN ?_ _) | (with_reducible refine Kd.C_drew ?_))); (case side2 => exact HC1.out); rintro e w54 ⟨v236, rfl, ho0, hb⟩; refine ⟨_, rfl, ?_⟩; obtain ⟨lo5, hi5, EL5, EH5, LE5⟩ := iv_ hb; have OR5 := Aside0.mk (show hi4 ≤ lo5 ∧ lo5 ≤ hi5 from ⟨Nat.le_trans HTop.out (Nat.le_of_eq EL5), LE5⟩); have n0_ := Aside0.mk (Kd.S_below (by (with_reducible repeat (first | apply Kd.S_alloc | apply Kd.S_drewN | apply Kd.S_drew)); exact HO213.out) hb); have n1_ := Aside0.mk (Kd.R_below (by (with_reducible repeat (first | apply Kd.R_alloc | apply Kd.R_drewN | apply Kd.R_drew)); exact HO219.out) hb); have n2_ := Aside0.mk (Kd.S_below (by (with_reducible repeat (first | apply Kd.S_alloc | apply Kd.S_drewN | apply Kd.S_drew)); exact HO221.out) hb); have n3_ := Aside0.mk (Kd.S_below (by (with_reducible repeat (first | apply Kd.S_alloc | apply Kd.S_drewN | apply Kd.S_drew)); exact HO224.out) hb); have n4_ := Aside0.mk (Kd.R_below (by (with_reducible repeat (first | apply Kd.R_alloc | apply Kd.R_drewN | apply Kd.R_drew)); exact HO230.out) hb); have n5_ := Aside0.mk (Kd.S_below (by (with_reducible repeat (first | apply Kd.S_alloc | apply Kd.S_drewN | apply Kd.S_drew)); exact HO232.out) hb); have n6_ := Aside0.mk (Kd.S_mono (ok' := fun k_ => lo5 ≤ k_ ∧ k_ < hi5) (Kd.S_lower (Kd.S_bound ho0) (below_size (by repeat (first | (with_reducible first | exact HB.out | apply below_alloc | apply pw_below_drewN | apply below_drew1) | exact HB.out)))) (fun k_ hk_ => by have a_ := hk_.2.1; have b_ := hk_.2.2.1; omega)); have n7_ := Aside0.mk (Nat.le_of_eq EH5.symm); have n8_ := Aside0.mk (below_step (by repeat (first | (with_reducible first | exact HB.out | apply below_alloc | apply pw_below_drewN | apply below_drew1) | exact HB.out)) hb); clear HO213; clear HO219; clear HO221; clear HO224; clear HO230; clear HO232; clear HTop; clear HB; have HO213 := n0_; have HO219 := n1_; have HO221 := n2_; have HO224 := n3_; have HO230 := n4_; have HO232 := n5_; have HO237 := n6_; have HTop := n7_; have HB := n8_; clear n0_ n1_ n2_ n3_ n4_ n5_ n6_ n7_ n8_; (try clear hb); (try clear hb2); (try clear hk); (try clear hi); (try clear ho0); (try clear EL5); (try clear EH5); (try clear LE5); obtain ⟨Ao55, co55, eo55⟩ := Kd.S_slice HO237.out; subst eo55) | ((with_reducible refine gate_callee (f := 15) rfl ?_); refine goesL_ (some 69) rfl rfl Try.func15 (by kernel_rfl) rfl #[.slice Ao48 t222.length co48, .slice Ao55 t235.length co55] rfl (by (try simp only [List.map_toArray, List.map_cons, List.map_nil]); first | done | rfl | (simp only [List.length_drop, List.length_take]; rfl)) ?_; (with_reducible refine (laws_eqIntSS.calls k _ _ t222 _ _ t235 true _ ?side1 ?side2 ?side3 ?side4 A16.out).mono ?_); (case side1 => repeat (first | exact (Kd.S_reads' HO224.out).2.2 | (with_reducible refine Kd.C_alloc ?_ _) | (with_reducible refine Kd.C_drewN ?_ _) | (with_reducible refine Kd.C_drew ?_))); (case side2 => exact (Kd.S_reads' HO224.out).2.1); (case side3 => repeat (first | exact (Kd.S_reads' HO237.out).2.2 | (with_reducible refine Kd.C_alloc ?_ _) | (with_reducible refine Kd.C_drewN ?_ _) | (with_reducible refine Kd.C_drew ?_))); (case side4 => exact (Kd.S_reads' HO237.out).2.1); rintro e w' ⟨rfl, ⟨nd, rfl⟩⟩; refine ⟨_, rfl, ?_⟩) | ((with_reducible refine gate_callee (f := 19) rfl ?_); refine goesL_ (some 73) rfl rfl Try.func19 (by kernel_rfl) rfl #[.slice Ao48 t222.length co48, .int .i64 1] rfl (by (try simp only [List.map_toArray, List.map_cons, List.map_nil]); first | done | rfl | (simp only [List.length_drop, List.length_take]; rfl)) ?_; (with_reducible refine (laws_markIntSS.calls k (fun k_ => lo3 ≤ k_ ∧ k_ < hi3) (.slice Ao48 t222.length co48) t222 1 t239 t240 w _ ?side1 ?side2 A18.out).mono ?_); (case side1 => repeat (first | (with_reducible first | exact HB.out | apply below_alloc | apply pw_below_drewN | apply below_drew1) | exact HB.out)); (case side2 => exact by (with_reducible repeat (first | apply Kd.S_alloc | apply Kd.S_drewN | apply Kd.S_drew)); exact HO224.out); rintro e w56 ⟨rfl, hy0, hb, hkp⟩; refine ⟨_, rfl, ?_⟩; have n0_ := Aside0.mk (Kd.S_kept (by (with_reducible repeat (first | apply Kd.S_alloc | apply Kd.S_drewN | apply Kd.S_drew)); exact HO213.out) hkp (fun k_ hk_ hs_ => by have a_ : lo1 ≤ k_ ∧ k_ < hi1 := hk_; have b_ : lo3 ≤ k_ ∧ k_ < hi3 := hs_; have z1_ := OR1.out; have z2_ := OR2.out; have z3_ := OR3.out; have z4_ := OR4.out; have z5_ := OR5.out; omega)); have n1_ := Aside0.mk (Kd.R_kept (by (with_reducible repeat (first | apply Kd.R_alloc | apply Kd.R_drewN | apply Kd.R_drew)); exact HO219.out) hkp (fun k_ hk_ hs_ => by have a_ : lo2 ≤ k_ ∧ k_ < hi2 := hk_; have b_ : lo3 ≤ k_ ∧ k_ < hi3 := hs_; have z1_ := OR1.out; have z2_ := OR2.out; have z3_ := OR3.out; have z4_ := OR4.out; have z5_ := OR5.out; omega)); have n2_ := Aside0.mk (Kd.S_kept (by (with_reducible repeat (first | apply Kd.S_alloc | apply Kd.S_drewN | apply Kd.S_drew)); exact HO221.out) hkp (fun k_ hk_ hs_ => by have a_ : lo2 ≤ k_ ∧ k_ < hi2 := hk_; have b_ : lo3 ≤ k_ ∧ k_ < hi3 := hs_; have z1_ := OR1.out; have z2_ := OR2.out; have z3_ := OR3.out; have z4_ := OR4.out; have z5_ := OR5.out; omega)); have n3_ := Aside0.mk (hy0); have n4_ := Aside0.mk (Kd.R_kept (by (with_reducible repeat (first | apply Kd.R_alloc | apply Kd.R_drewN | apply Kd.R_drew)); exact HO230.out) hkp (fun k_ hk_ hs_ => by have a_ : lo4 ≤ k_ ∧ k_ < hi4 := hk_; have b_ : lo3 ≤ k_ ∧ k_ < hi3 := hs_; have z1_ := OR1.out; have z2_ := OR2.out; have z3_ := OR3.out; have z4_ := OR4.out; have z5_ := OR5.out; omega)); have n5_ := Aside0.mk (Kd.S_kept (by (with_reducible repeat (first | apply Kd.S_alloc | apply Kd.S_drewN | apply Kd.S_drew)); exact HO232.out) hkp (fun k_ hk_ hs_ => by have a_ : lo4 ≤ k_ ∧ k_ < hi4 := hk_; have b_ : lo3 ≤ k_ ∧ k_ < hi3 := hs_; have z1_ := OR1.out; have z2_ := OR2.out; have z3_ := OR3.out; have z4_ := OR4.out; have z5_ := OR5.out; omega)); have n6_ := Aside0.mk (Kd.S_kept (by (with_reducible repeat (first | apply Kd.S_alloc | apply Kd.S_drewN | apply Kd.S_drew)); exact HO237.out) hkp (fun k_ hk_ hs_ => by have a_ : lo5 ≤ k_ ∧ k_ < hi5 := hk_; have b_ : lo3 ≤ k_ ∧ k_ < hi3 := hs_; have z1_ := OR1.out; have z2_ := OR2.out; have z3_ := OR3.out; have z4_ := OR4.out; have z5_ := OR5.out; omega)); have n7_ := Aside0.mk (Nat.le_trans HTop.out hkp.1); have n8_ := Aside0.mk (hb); clear HO213; clear HO219; clear HO221; clear HO224; clear HO230; clear HO232; clear HO237; clear HTop; clear HB; have HO213 := n0_; have HO219 := n1_; have HO221 := n2_; have HO224 := n3_; have HO230 := n4_; have HO232 := n5_; have HO237 := n6_; have HTop := n7_; have HB := n8_; clear n0_ n1_ n2_ n3_ n4_ n5_ n6_ n7_ n8_; (try clear hb); (try clear hkp); (try clear hy0)) | (go_at_call 34; (with_reducible refine (laws_eqBoolS.calls k _ _ t226 _ _ t215 true _ ?side1 ?side2 ?side3 ?side4 A20.out).mono ?_); (case side1 => repeat (first | exact (Kd.R_reads' HO230.out).2.2 | (with_reducible refine Kd.C_alloc ?_ _) | (with_reducible refine Kd.C_drewN ?_ _) | (with_reducible refine Kd.C_drew ?_))); (case side2 => exact (Kd.R_reads' HO230.out).2.1); (case side3 => repeat (first | exact (Kd.R_reads' HO219.out).2.2 | (with_reducible refine Kd.C_alloc ?_ _) | (with_reducible refine Kd.C_drewN ?_ _) | (with_reducible refine Kd.C_drew ?_))); (case side4 => exact (Kd.R_reads' HO219.out).2.1); rintro e w' ⟨rfl, ⟨nd, rfl⟩⟩) | (go_at_call 15; (with_reducible refine (laws_eqIntSS.calls k _ _ t227 _ _ t216 true _ ?side1 ?side2 ?side3 ?side4 A22.out).mono ?_); (case side1 => repeat (first | exact (Kd.S_reads' HO232.out).2.2 | (with_reducible refine Kd.C_alloc ?_ _) | (with_reducible refine Kd.C_drewN ?_ _) | (with_reducible refine Kd.C_drew ?_))); (case side2 => exact (Kd.S_reads' HO232.out).2.1); (case side3 => repeat (first | exact (Kd.S_reads' HO221.out).2.2 | (with_reducible refine Kd.C_alloc ?_ _) | (with_reducible refine Kd.C_drewN ?_ _) | (with_reducible refine Kd.C_drew ?_))); (case side4 => exact (Kd.S_reads' HO221.out).2.1); rintro e w' ⟨rfl, ⟨nd, rfl⟩⟩) | ((with_reducible refine gate_callee (f := 35) rfl ?_); refine goesL_ (some 100) rfl rfl Try.func35 (by kernel_rfl) rfl #[.slice Ao50 t226.length co50, .int .i64 1] rfl (by (try simp only [List.map_toArray, List.map_cons, List.map_nil]); first | done | rfl | (simp only [List.length_drop, List.length_take]; rfl)) ?_; (with_reducible refine (laws_markBoolS.calls k (fun k_ => some k_ = (.slice Ao50 t226.length co50 : Value).ownBlock) (.slice Ao50 t226.length co50) t226 1 t243 t244 w _ ?side1 ?side2 A24.out).mono ?_); (case side1 => repeat (first | (with_reducible first | exact HB.out | apply below_alloc | apply pw_below_drewN | apply below_drew1) | exact HB.out)); (case side2 => exact Kd.R_tight rfl (by (with_reducible repeat (first | apply Kd.R_alloc | apply Kd.R_drewN | apply Kd.R_drew)); exact HO230.out)); rintro e w57 ⟨rfl, hy0, hb, hkp⟩; refine ⟨_, rfl, ?_⟩; have n0_ := Aside0.mk (Kd.S_kept (by (with_reducible repeat (first | apply Kd.S_alloc | apply Kd.S_drewN | apply Kd.S_drew)); exact HO213.out) hkp (fun k_ hk_ hs_ => by have a_ : lo1 ≤ k_ ∧ k_ < hi1 := hk_; have b_ : lo4 ≤ k_ ∧ k_ < hi4 := HO230.out.1 k_ hs_.symm; have z1_ := OR1.out; have z2_ := OR2.out; have z3_ := OR3.out; have z4_ := OR4.out; have z5_ := OR5.out; omega)); have n1_ := Aside0.mk (Kd.R_kept (by (with_reducible repeat (first | apply Kd.R_alloc | apply Kd.R_drewN | apply Kd.R_drew)); exact HO219.out) hkp (fun k_ hk_ hs_ => by have a_ : lo2 ≤ k_ ∧ k_ < hi2 := hk_; have b_ : lo4 ≤ k_ ∧ k_ < hi4 := HO230.out.1 k_ hs_.symm; have z1_ := OR1.out; have z2_ := OR2.out; have z3_ := OR3.out; have z4_ := OR4.out; have z5_ := OR5.out; omega)); have n2_ := Aside0.mk (Kd.S_kept (by (with_reducible repeat (first | apply Kd.S_alloc | apply Kd.S_drewN | apply Kd.S_drew)); exact HO221.out) hkp (fun k_ hk_ hs_ => by have a_ : lo2 ≤ k_ ∧ k_ < hi2 := hk_; have b_ : lo4 ≤ k_ ∧ k_ < hi4 := HO230.out.1 k_ hs_.symm; have z1_ := OR1.out; have z2_ := OR2.out; have z3_ := OR3.out; have z4_ := OR4.out; have z5_ := OR5.out; omega)); have n3_ := Aside0.mk (Kd.S_kept (by (with_reducible repeat (first | apply Kd.S_alloc | apply Kd.S_drewN | apply Kd.S_drew)); exact HO224.out) hkp (fun k_ hk_ hs_ => by have a_ : lo3 ≤ k_ ∧ k_ < hi3 := hk_; have b_ : lo4 ≤ k_ ∧ k_ < hi4 := HO230.out.1 k_ hs_.symm; have z1_ := OR1.out; have z2_ := OR2.out; have z3_ := OR3.out; have z4_ := OR4.out; have z5_ := OR5.out; omega)); have n4_ := Aside0.mk (Kd.R_reok rfl hy0 (fun k_ e_ => HO230.out.1 k_ e_)); have n5_ := Aside0.mk (Kd.S_mono (Kd.S_kept (Kd.S_apart' (by (with_reducible repeat (first | apply Kd.S_alloc | apply Kd.S_drewN | apply Kd.S_drew)); exact HO232.out) (Kd.R_typed HO230.out) (by decide)) hkp (fun k_ hk_ hs_ => hk_.2 hs_)) (fun _ hk_ => hk_.1)); have n6_ := Aside0.mk (Kd.S_kept (by (with_reducible repeat (first | apply Kd.S_alloc | apply Kd.S_drewN | apply Kd.S_drew)); exact HO237.out) hkp (fun k_ hk_ hs_ => by have a_ : lo5 ≤ k_ ∧ k_ < hi5 := hk_; have b_ : lo4 ≤ k_ ∧ k_ < hi4 := HO230.out.1 k_ hs_.symm; have z1_ := OR1.out; have z2_ := OR2.out; have z3_ := OR3.out; have z4_ := OR4.out; have z5_ := OR5.out; omega)); have n7_ := Aside0.mk (Nat.le_trans HTop.out hkp.1); have n8_ := Aside0.mk (hb); clear HO213; clear HO219; clear HO221; clear HO224; clear HO230; clear HO232; clear HO237; clear HTop; clear HB; have HO213 := n0_; have HO219 := n1_; have HO221 := n2_; have HO224 := n3_; have HO230 := n4_; have HO232 := n5_; have HO237 := n6_; have HTop := n7_; have HB := n8_; clear n0_ n1_ n2_ n3_ n4_ n5_ n6_ n7_ n8_; (try clear hb); (try clear hkp); (try clear hy0)) | ((with_reducible refine gate_callee (f := 19) rfl ?_); refine goesL_ (some 103) rfl rfl Try.func19 (by kernel_rfl) rfl #[.slice Ao52 t227.length co52, .int .i64 t243] rfl (by (try simp only [List.map_toArray, List.map_cons, List.map_nil]); first | done | rfl | (simp only [List.length_drop, List.length_take]; rfl)) ?_; (with_reducible refine (laws_markIntSS.calls k (fun k_ => (lo4 ≤ k_ ∧ k_ < hi4) ∧ some k_ ≠ (.slice Ao50 t226.length co50 : Value).ownBlock) (.slice Ao52 t227.length co52) t227 t243 t245 t246 w _ ?side1 ?side2 A25.out).mono ?_); (case side1 => repeat (first | (with_reducible first | exact HB.out | apply below_alloc | apply pw_below_drewN | apply below_drew1) | exact HB.out)); (case side2 => exact Kd.S_apart' (by (with_reducible repeat (first | apply Kd.S_alloc | apply Kd.S_drewN | apply Kd.S_drew)); exact HO232.out) (Kd.R_typed HO230.out) (by decide)); rintro e w58 ⟨rfl, hy0, hb, hkp⟩; refine ⟨_, rfl, ?_⟩; have n0_ := Aside0.mk (Kd.S_kept (by (with_reducible repeat (first | apply Kd.S_alloc | apply Kd.S_drewN | apply Kd.S_drew)); exact HO213.out) hkp (fun k_ hk_ hs_ => by have a_ : lo1 ≤ k_ ∧ k_ < hi1 := hk_; have b_ : lo4 ≤ k_ ∧ k_ < hi4 := hs_.1; have z1_ := OR1.out; have z2_ := OR2.out; have z3_ := OR3.out; have z4_ := OR4.out; have z5_ := OR5.out; omega)); have n1_ := Aside0.mk (Kd.R_kept (by (with_reducible repeat (first | apply Kd.R_alloc | apply Kd.R_drewN | apply Kd.R_drew)); exact HO219.out) hkp (fun k_ hk_ hs_ => by have a_ : lo2 ≤ k_ ∧ k_ < hi2 := hk_; have b_ : lo4 ≤ k_ ∧ k_ < hi4 := hs_.1; have z1_ := OR1.out; have z2_ := OR2.out; have z3_ := OR3.out; have z4_ := OR4.out; have z5_ := OR5.out; omega)); have n2_ := Aside0.mk (Kd.S_kept (by (with_reducible repeat (first | apply Kd.S_alloc | apply Kd.S_drewN | apply Kd.S_drew)); exact HO221.out) hkp (fun k_ hk_ hs_ => by have a_ : lo2 ≤ k_ ∧ k_ < hi2 := hk_; have b_ : lo4 ≤ k_ ∧ k_ < hi4 := hs_.1; have z1_ := OR1.out; have z2_ := OR2.out; have z3_ := OR3.out; have z4_ := OR4.out; have z5_ := OR5.out; omega)); have n3_ := Aside0.mk (Kd.S_kept (by (with_reducible repeat (first | apply Kd.S_alloc | apply Kd.S_drewN | apply Kd.S_drew)); exact HO224.out) hkp (fun k_ hk_ hs_ => by have a_ : lo3 ≤ k_ ∧ k_ < hi3 := hk_; have b_ : lo4 ≤ k_ ∧ k_ < hi4 := hs_.1; have z1_ := OR1.out; have z2_ := OR2.out; have z3_ := OR3.out; have z4_ := OR4.out; have z5_ := OR5.out; omega)); have n4_ := Aside0.mk (Kd.R_mono (Kd.R_kept (Kd.R_tight rfl (by (with_reducible repeat (first | apply Kd.R_alloc | apply Kd.R_drewN | apply Kd.R_drew)); exact HO230.out)) hkp (fun k_ hk_ hs_ => hs_.2 hk_)) (fun k_ hk_ => HO230.out.1 k_ hk_.symm)); have n5_ := Aside0.mk (Kd.S_mono hy0 (fun _ hk_ => hk_.1)); have n6_ := Aside0.mk (Kd.S_kept (by (with_reducible repeat (first | apply Kd.S_alloc | apply Kd.S_drewN | apply Kd.S_drew)); exact HO237.out) hkp (fun k_ hk_ hs_ => by have a_ : lo5 ≤ k_ ∧ k_ < hi5 := hk_; have b_ : lo4 ≤ k_ ∧ k_ < hi4 := hs_.1; have z1_ := OR1.out; have z2_ := OR2.out; have z3_ := OR3.out; have z4_ := OR4.out; have z5_ := OR5.out; omega)); have n7_ := Aside0.mk (Nat.le_trans HTop.out hkp.1); have n8_ := Aside0.mk (hb); clear HO213; clear HO219; clear HO221; clear HO224; clear HO230; clear HO232; clear HO237; clear HTop; clear HB; have HO213 := n0_; have HO219 := n1_; have HO221 := n2_; have HO224 := n3_; have HO230 := n4_; have HO232 := n5_; have HO237 := n6_; have HTop := n7_; have HB := n8_; clear n0_ n1_ n2_ n3_ n4_ n5_ n6_ n7_ n8_; (try clear hb); (try clear hkp); (try clear hy0)) | ((with_reducible refine gate_callee (f := 36) rfl ?_); refine goesL_ (some 106) rfl rfl Try.func36 (by kernel_rfl) rfl #[.slice Ao50 t244.length co50, .int .i64 1] rfl (by (try simp only [List.map_toArray, List.map_cons, List.map_nil]); first | done | (rw [show t244.length = t226.length from (Kd.R_reads' HO230.out).1.symm] <;> rfl) | rfl | (simp only [List.length_drop, List.length_take]; rfl)) ?_; (with_reducible refine (laws_heldBoolS.calls k _ _ t244 1 t247 _ ?side1 ?side2 A26.out).mono ?_); (case side1 => repeat (first | exact (Kd.R_reads' HO230.out).2.2 | (with_reducible refine Kd.C_alloc ?_ _) | (with_reducible refine Kd.C_drewN ?_ _) | (with_reducible refine Kd.C_drew ?_))); (case side2 => rw [show t244.length = t226.length from (Kd.R_reads' HO230.out).1.symm]; exact (Kd.R_reads' HO230.out).2.1); rintro e w' ⟨rfl, ⟨nd, rfl⟩⟩; refine ⟨_, rfl, ?_⟩) | ((with_reducible refine gate_callee (f := 27) rfl ?_); refine goesL_ (some 111) rfl rfl Try.func27 (by kernel_rfl) rfl #[.slice Ao52 t246.length co52, .int .i64 t247] rfl (by (try simp only [List.map_toArray, List.map_cons, List.map_nil]); first | done | (rw [show t246.length = t227.length from (Kd.S_reads' HO232.out).1.symm] <;> rfl) | rfl | (simp only [List.length_drop, List.length_take]; rfl)) ?_; (with_reducible refine (laws_heldIntSS.calls k _ _ t246 t247 t248 _ ?side1 ?side2 A28.out).mono ?_); (case side1 => repeat (first | exact (Kd.S_reads' HO232.out).2.2 | (with_reducible refine Kd.C_alloc ?_ _) | (with_reducible refine Kd.C_drewN ?_ _) | (with_reducible refine Kd.C_drew ?_))); (case side2 => rw [show t246.length = t227.length from (Kd.S_reads' HO232.out).1.symm]; exact (Kd.S_reads' HO232.out).2.1); rintro e w' ⟨rfl, ⟨nd, rfl⟩⟩; refine ⟨_, rfl, ?_⟩) | ((with_reducible refine gate_callee (f := 13) rfl ?_); refine goesL_ (some 120) rfl rfl Try.func13 (by kernel_rfl) rfl #[.slice A1 l1.length c1] rfl (by (try simp only [List.map_toArray, List.map_cons, List.map_nil]); first | done | rfl | (simp only [List.length_drop, List.length_take]; rfl)) ?_; (with_reducible refine (laws_toIntSS.calls k _ _ l1 t249 _ ?side1 ?side2 A31.out).mono ?_); (case side1 => repeat (first | exact (Kd.C_below HR1.out (by repeat (first | (with_reducible first | exact HB.out | apply below_alloc | apply pw_below_drewN | apply below_drew1) | exact HB.out))) | (with_reducible refine Kd.C_alloc ?_ _) | (with_reducible refine Kd.C_drewN ?_ _) | (with_reducible refine Kd.C_drew ?_))); (case side2 => exact HC1.out); rintro e w59 ⟨v250, rfl, ho0, hb⟩; refine ⟨_, rfl, ?_⟩; obtain ⟨lo6, hi6, EL6, EH6, LE6⟩ := iv_ hb; have OR6 := Aside0.mk (show hi5 ≤ lo6 ∧ lo6 ≤ hi6 from ⟨Nat.le_trans HTop.out (Nat.le_of_eq EL6), LE6⟩); have n0_ := Aside0.mk (Kd.S_below (by (with_reducible repeat (first | apply Kd.S_alloc | apply Kd.S_drewN | apply Kd.S_drew)); exact HO213.out) hb); have n1_ := Aside0.mk (Kd.R_below (by (with_reducible repeat (first | apply Kd.R_alloc | apply Kd.R_drewN | apply Kd.R_drew)); exact HO219.out) hb); have n2_ := Aside0.mk (Kd.S_below (by (with_reducible repeat (first | apply Kd.S_alloc | apply Kd.S_drewN | apply Kd.S_drew)); exact HO221.out) hb); have n3_ := Aside0.mk (Kd.S_below (by (with_reducible repeat (first | apply Kd.S_alloc | apply Kd.S_drewN | apply Kd.S_drew)); exact HO224.out) hb); have n4_ := Aside0.mk (Kd.R_below (by (with_reducible repeat (first | apply Kd.R_alloc | apply Kd.R_drewN | apply Kd.R_drew)); exact HO230.out) hb); have n5_ := Aside0.mk (Kd.S_below (by (with_reducible repeat (first | apply Kd.S_alloc | apply Kd.S_drewN | apply Kd.S_drew)); exact HO232.out) hb); have n6_ := Aside0.mk (Kd.S_below (by (with_reducible repeat (first | apply Kd.S_alloc | apply Kd.S_drewN | apply Kd.S_drew)); exact HO237.out) hb); have n7_ := Aside0.mk (Kd.S_mono (ok' := fun k_ => lo6 ≤ k_ ∧ k_ < hi6) (Kd.S_lower (Kd.S_bound ho0) (below_size (by repeat (first | (with_reducible first | exact HB.out | apply below_alloc | apply pw_below_drewN | apply below_drew1) | exact HB.out)))) (fun k_ hk_ => by have a_ := hk_.2.1; have b_ := hk_.2.2.1; omega)); have n8_ := Aside0.mk (Nat.le_of_eq EH6.symm); have n9_ := Aside0.mk (below_step (by repeat (first | (with_reducible first | exact HB.out | apply below_alloc | apply pw_below_drewN | apply below_drew1) | exact HB.out)) hb); clear HO213; clear HO219; clear HO221; clear HO224; clear HO230; clear HO232; clear HO237; clear HTop; clear HB; have HO213 := n0_; have HO219 := n1_; have HO221 := n2_; have HO224 := n3_; have HO230 := n4_; have HO232 := n5_; have HO237 := n6_; have HO251 := n7_; have HTop := n8_; have HB := n9_; clear n0_ n1_ n2_ n3_ n4_ n5_ n6_ n7_ n8_ n9_; (try clear hb); (try clear hb2); (try clear hk); (try clear hi); (try clear ho0); (try clear EL6); (try clear EH6); (try clear LE6); obtain ⟨Ao60, co60, eo60⟩ := Kd.S_slice HO251.out; subst eo60) | ((with_reducible refine gate_callee (f := 33) rfl ?_); refine goesL_ (some 121) rfl rfl Try.func33 (by kernel_rfl) rfl #[.int .i64 a0, .slice Ao60 t249.length co60] rfl (by (try simp only [List.map_toArray, List.map_cons, List.map_nil]); first | done | rfl | (simp only [List.length_drop, List.length_take]; rfl)) ?_; (with_reducible refine (impl_Solve.calls k a0 _ _ t249 t252 t253 t254 t255 _ ?side1 ?side2 A32.out).mono ?_); (case side1 => repeat (first | exact (Kd.S_reads' HO251.out).2.2 | (with_reducible refine Kd.C_alloc ?_ _) | (with_reducible refine Kd.C_drewN ?_ _) | (with_reducible refine Kd.C_drew ?_))); (case side2 => exact (Kd.S_reads' HO251.out).2.1); rintro e w61 ⟨v256, v258, rfl, ho0, ho1, hb⟩; refine ⟨_, rfl, ?_⟩; obtain ⟨lo7, hi7, EL7, EH7, LE7⟩ := iv_ hb; have OR7 := Aside0.mk (show hi6 ≤ lo7 ∧ lo7 ≤ hi7 from ⟨Nat.le_trans HTop.out (Nat.le_of_eq EL7), LE7⟩); have n0_ := Aside0.mk (Kd.S_below (by (with_reducible repeat (first | apply Kd.S_alloc | apply Kd.S_drewN | apply Kd.S_drew)); exact HO213.out) hb); have n1_ := Aside0.mk (Kd.R_below (by (with_reducible repeat (first | apply Kd.R_alloc | apply Kd.R_drewN | apply Kd.R_drew)); exact HO219.out) hb); have n2_ := Aside0.mk (Kd.S_below (by (with_reducible repeat (first | apply Kd.S_alloc | apply Kd.S_drewN | apply Kd.S_drew)); exact HO221.out) hb); have n3_ := Aside0.mk (Kd.S_below (by (with_reducible repeat (first | apply Kd.S_alloc | apply Kd.S_drewN | apply Kd.S_drew)); exact HO224.out) hb); have n4_ := Aside0.mk (Kd.R_below (by (with_reducible repeat (first | apply Kd.R_alloc | apply Kd.R_drewN | apply Kd.R_drew)); exact HO230.out) hb); have n5_ := Aside0.mk (Kd.S_below (by (with_reducible repeat (first | apply Kd.S_alloc | apply Kd.S_drewN | apply Kd.S_drew)); exact HO232.out) hb); have n6_ := Aside0.mk (Kd.S_below (by (with_reducible repeat (first | apply Kd.S_alloc | apply Kd.S_drewN | apply Kd.S_drew)); exact HO237.out) hb); have n7_ := Aside0.mk (Kd.S_below (by (with_reducible repeat (first | apply Kd.S_alloc | apply Kd.S_drewN | apply Kd.S_drew)); exact HO251.out) hb); have n8_ := Aside0.mk (Kd.R_mono (ok' := fun k_ => lo7 ≤ k_ ∧ k_ < hi7) (Kd.R_lower (Kd.R_bound ho0) (below_size (by repeat (first | (with_reducible first | exact HB.out | apply below_alloc | apply pw_below_drewN | apply below_drew1) | exact HB.out)))) (fun k_ hk_ => by have a_ := hk_.2.1; have b_ := hk_.2.2.1; omega)); have n9_ := Aside0.mk (Kd.S_mono (ok' := fun k_ => lo7 ≤ k_ ∧ k_ < hi7) (Kd.S_lower (Kd.S_bound ho1) (below_size (by repeat (first | (with_reducible first | exact HB.out | apply below_alloc | apply pw_below_drewN | apply below_drew1) | exact HB.out)))) (fun k_ hk_ => by have a_ := hk_.2.1; have b_ := hk_.2.2.1; omega)); have n10_ := Aside0.mk (Nat.le_of_eq EH7.symm); have n11_ := Aside0.mk (below_step (by repeat (first | (with_reducible first | exact HB.out | apply below_alloc | apply pw_below_drewN | apply below_drew1) | exact HB.out)) hb); clear HO213; clear HO219; clear HO221; clear HO224; clear HO230; clear HO232; clear HO237; clear HO251; clear HTop; clear HB; have HO213 := n0_; have HO219 := n1_; have HO221 := n2_; have HO224 := n3_; have HO230 := n4_; have HO232 := n5_; have HO237 := n6_; have HO251 := n7_; have HO257 := n8_; have HO259 := n9_; have HTop := n10_; have HB := n11_; clear n0_ n1_ n2_ n3_ n4_ n5_ n6_ n7_ n8_ n9_ n10_ n11_; (try clear hb); (try clear hb2); (try clear hk); (try clear hi); (try clear ho0); (try clear ho1); (try clear EL7); (try clear EH7); (try clear LE7); obtain ⟨Ao62, co62, eo62⟩ := Kd.R_slice HO257.out; subst eo62) | (go_at_call 34; (with_reducible refine (laws_eqBoolS.calls k _ _ t253 _ _ t215 true _ ?side1 ?side2 ?side3 ?side4 A34.out).mono ?_); (case side1 => repeat (first | exact (Kd.R_reads' HO257.out).2.2 | (with_reducible refine Kd.C_alloc ?_ _) | (with_reducible refine Kd.C_drewN ?_ _) | (with_reducible refine Kd.C_drew ?_))); (case side2 => exact (Kd.R_reads' HO257.out).2.1); (case side3 => repeat (first | exact (Kd.R_reads' HO219.out).2.2 | (with_reducible refine Kd.C_alloc ?_ _) | (with_reducible refine Kd.C_drewN ?_ _) | (with_reducible refine Kd.C_drew ?_))); (case side4 => exact (Kd.R_reads' HO219.out).2.1); rintro e w' ⟨rfl, ⟨nd, rfl⟩⟩; obtain ⟨Ao63, co63, eo63⟩ := Kd.S_slice HO259.out; subst eo63) | (go_at_call 15; (with_reducible refine (laws_eqIntSS.calls k _ _ t254 _ _ t216 true _ ?side1 ?side2 ?side3 ?side4 A36.out).mono ?_); (case side1 => repeat (first | exact (Kd.S_reads' HO259.out).2.2 | (with_reducible refine Kd.C_alloc ?_ _) | (with_reducible refine Kd.C_drewN ?_ _) | (with_reducible refine Kd.C_drew ?_))); (case side2 => exact (Kd.S_reads' HO259.out).2.1); (case side3 => repeat (first | exact (Kd.S_reads' HO221.out).2.2 | (with_reducible refine Kd.C_alloc ?_ _) | (with_reducible refine Kd.C_drewN ?_ _) | (with_reducible refine Kd.C_drew ?_))); (case side4 => exact (Kd.S_reads' HO221.out).2.1); rintro e w' ⟨rfl, ⟨nd, rfl⟩⟩) | ((with_reducible refine gate_callee (f := 36) rfl ?_); refine goesL_ (some 148) rfl rfl Try.func36 (by kernel_rfl) rfl #[.slice Ao50 t244.length co50, .int .i64 1] rfl (by (try simp only [List.map_toArray, List.map_cons, List.map_nil]); first | done | (rw [show t244.length = t226.length from (Kd.R_reads' HO230.out).1.symm] <;> rfl) | rfl | (simp only [List.length_drop, List.length_take]; rfl)) ?_; (with_reducible refine (laws_heldBoolS.calls k _ _ t244 1 t262 _ ?side1 ?side2 A39.out).mono ?_); (case side1 => repeat (first | exact (Kd.R_reads' HO230.out).2.2 | (with_reducible refine Kd.C_alloc ?_ _) | (with_reducible refine Kd.C_drewN ?_ _) | (with_reducible refine Kd.C_drew ?_))); (case side2 => rw [show t244.length = t226.length from (Kd.R_reads' HO230.out).1.symm]; exact (Kd.R_reads' HO230.out).2.1); rintro e w' ⟨rfl, ⟨nd, rfl⟩⟩; refine ⟨_, rfl, ?_⟩) | ((with_reducible refine gate_callee (f := 27) rfl ?_); refine goesL_ (some 153) rfl rfl Try.func27 (by kernel_rfl) rfl #[.slice Ao52 t246.length co52, .int .i64 t262] rfl (by (try simp only [List.map_toArray, List.map_cons, List.map_nil]); first | done | (rw [show t246.length = t227.length from (Kd.S_reads' HO232.out).1.symm] <;> rfl) | rfl | (simp only [List.length_drop, List.length_take]; rfl)) ?_; (with_reducible refine (laws_heldIntSS.calls k _ _ t246 t262 t263 _ ?side1 ?side2 A41.out).mono ?_); (case side1 => repeat (first | exact (Kd.S_reads' HO232.out).2.2 | (with_reducible refine Kd.C_alloc ?_ _) | (with_reducible refine Kd.C_drewN ?_ _) | (with_reducible refine Kd.C_drew ?_))); (case side2 => rw [show t246.length = t227.length from (Kd.S_reads' HO232.out).1.symm]; exact (Kd.S_reads' HO232.out).2.1); rintro e w' ⟨rfl, ⟨nd, rfl⟩⟩; refine ⟨_, rfl, ?_⟩))
                                        go_ret
                                        exact ⟨by first | rfl | (simp [errW_none, errW_some] <;> rfl) | (simp [*, errW_none, errW_some] <;> rfl), by repeat (first | (with_reducible first | exact HB.out | apply below_alloc | apply pw_below_drewN | apply below_drew1) | exact HB.out)⟩
                                      · rw [if_neg c43] at H
                                        exact absurd H (by simp)
                              · replace c37 := Bool.eq_false_iff.mpr c37
                                subst c37
                                have H1 : (none) = some r := by rw [if_neg (show ¬ (false = true) by decide)] at H; exact H
                                clear H
                                have H := H1
                                clear H1
                                exact absurd H (by simp)
                            · replace c35 := Bool.eq_false_iff.mpr c35
                              subst c35
                              have H1 : (none) = some r := by rw [if_neg (show ¬ (false = true) by decide)] at H; exact H
                              clear H
                              have H := H1
                              clear H1
                              exact absurd H (by simp)
                        · rw [if_neg c30] at H
                          exact absurd H (by simp)
                  · replace c23 := Bool.eq_false_iff.mpr c23
                    subst c23
                    have H1 : (none) = some r := by rw [if_neg (show ¬ (false = true) by decide)] at H; exact H
                    clear H
                    have H := H1
                    clear H1
                    exact absurd H (by simp)
                · replace c21 := Bool.eq_false_iff.mpr c21
                  subst c21
                  have H1 : (none) = some r := by rw [if_neg (show ¬ (false = true) by decide)] at H; exact H
                  clear H
                  have H := H1
                  clear H1
                  exact absurd H (by simp)
            · replace c17 := Bool.eq_false_iff.mpr c17
              subst c17
              have H1 : (none) = some r := by rw [if_neg (show ¬ (false = true) by decide)] at H; exact H
              clear H
              have H := H1
              clear H1
              exact absurd H (by simp)
        · replace c13 := Bool.eq_false_iff.mpr c13
          subst c13
          have H1 : (none) = some r := by rw [if_neg (show ¬ (false = true) by decide)] at H; exact H
          clear H
          have H := H1
          clear H1
          exact absurd H (by simp)
      · replace c11 := Bool.eq_false_iff.mpr c11
        subst c11
        have H1 : (none) = some r := by rw [if_neg (show ¬ (false = true) by decide)] at H; exact H
        clear H
        have H := H1
        clear H1
        exact absurd H (by simp)

/-- The one pure statement of laws_FnExactSolve. -/
def laws_FnExactSolve.Pure : Prop := ∀ (a0 : Int) (l1 : List (List Int)), (Lit.int .i64 a0).wf = true → (l1.length ≤ maxLen ∧ ∀ y_ ∈ l1, (y_.length ≤ maxLen ∧ ∀ z_ ∈ y_, (Lit.int .i64 z_).wf = true)) → ∃ k, laws_FnExactSolve.f k a0 l1 = some true
theorem laws_FnExactSolve.walk : True := trivial

end Go.Proofs.Ytafffpbagdoniaa.PFnExactSolve
