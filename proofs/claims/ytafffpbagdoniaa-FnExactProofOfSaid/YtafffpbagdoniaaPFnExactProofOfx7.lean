-- Made by a program of this session (wip/tools), which leans on the kit's print: checked by Lean alone.
import Derived.Test.YtafffpbagdoniaaPFnExactProofOfx0
import Derived.Test.YtafffpbagdoniaaPFnExactProofOfx1
import Derived.Test.YtafffpbagdoniaaPFnExactProofOfx2
import Derived.Test.YtafffpbagdoniaaPFnExactProofOfx4
import Derived.Test.YtafffpbagdoniaaPFnExactProofOfx5
import Derived.Test.YtafffpbagdoniaaPFnExactProofOfx6
namespace Go.Proofs.Ytafffpbagdoniaa.PFnExactProofOf
open Go.RowKit Go.Proofs.YtafffpbagdoniaaW.PrintWords Go.Proofs.YtafffpbagdoniaaW.PrintLast Go.Proofs.YtafffpbagdoniaaW.PrintMore
attribute [local go_sem] max2_int min2_int max_two min_two max_three min_three max_four min_four   -- for this text's walks alone
set_option linter.unusedVariables false
set_option linter.unusedSimpArgs false

/-! ### impl_Solve: function 33 -/
def impl_Solve.f (k : Nat) (a0 : Int) (l1 : List (List Int)) : Option (Bool × List Bool × (List (List Int)) × Bool) := (impl_GoodClauses.f a0 l1).bind fun t205 => (if t205 = true then ((impl_solve.f k a0 l1).bind fun bt206 => (some (bt206.1, bt206.2.1, bt206.2.2.1, bt206.2.2.2))) else (some (false, ([] : List Bool), ([] : List (List Int)), false)))
theorem impl_Solve.mono : ∀ a0 a1 k, LeO (impl_Solve.f k a0 a1) (impl_Solve.f (k + 1) a0 a1) := by
  intro a0 a1 k
  unfold impl_Solve.f
  repeat' first
      | (with_reducible exact impl_solve.mono _ _ _)
      | (with_reducible exact LeO.refl _)
      | (with_reducible exact LeO.none _)
      | (with_reducible refine LeO.ite ?_ ?_)
      | (with_reducible refine LeO.bind ?_ (fun _ => ?_))
      | exact impl_solve.mono _ _ _
      | exact LeO.none _
      | refine LeO.ite ?_ ?_
      | refine LeO.bind ?_ (fun _ => ?_)
set_option maxHeartbeats 8000000 in
set_option maxRecDepth 100000 in
theorem impl_Solve.calls (k : Nat) (a0 : Int) (A1 : Option Addr) (c1 : Nat) (l1 : List (List Int)) (r1 : Bool) (r2 : List Bool) (r3 : List (List Int)) (r4 : Bool) (w : World) (hr1 : Kd.C (Kd.slice 3 (Kd.int .i64)) w A1 l1.length l1) (hc1 : l1.length ≤ c1) (h : impl_Solve.f k a0 l1 = some (r1, r2, r3, r4)) :
    Calls Try.prog 33 #[.int .i64 a0, .slice A1 l1.length c1] w fun e w' => ∃ v1_ v2_ : Value, e = .returned (.tuple #[.bool r1, v1_, v2_, .bool r4]) ∧ Kd.R Kd.bool 4 w' w.heap.size (fun _ => True) v1_ r2 ∧ Kd.S (Kd.slice 3 (Kd.int .i64)) 29 w' w.heap.size (fun _ => True) v2_ r3 ∧ Below w.heap.size w w' := by
  have HR1 := Aside0.mk hr1
  have HC1 := Aside0.mk hc1
  clear hr1 hc1
  have HB := Aside0.mk (Below.refl w.heap.size w)
  have H : ((impl_GoodClauses.f a0 l1).bind fun t205 => (if t205 = true then ((impl_solve.f k a0 l1).bind fun bt206 => (some (bt206.1, bt206.2.1, bt206.2.2.1, bt206.2.2.2))) else (some (false, ([] : List Bool), ([] : List (List Int)), false)))) = some (r1, r2, r3, r4) := h
  clear h
  replace H := Option.bind_eq_some_iff.mp H
  obtain ⟨t205, A30, H⟩ := H
  replace H : (if t205 = true then ((impl_solve.f k a0 l1).bind fun bt206 => (some (bt206.1, bt206.2.1, bt206.2.2.1, bt206.2.2.2))) else (some (false, ([] : List Bool), ([] : List (List Int)), false))) = some (r1, r2, r3, r4) := H
  have A3 := Aside0.mk A30
  clear A30
  by_cases c4 : t205 = true
  · subst c4
    have H1 : ((impl_solve.f k a0 l1).bind fun bt206 => (some (bt206.1, bt206.2.1, bt206.2.2.1, bt206.2.2.2))) = some (r1, r2, r3, r4) := by rw [if_pos rfl] at H; exact H
    clear H
    have H := H1
    clear H1
    replace H := Option.bind_eq_some_iff.mp H
    obtain ⟨⟨t206, t207, t208, t209⟩, A50, H⟩ := H
    replace H : (some (t206, t207, t208, t209)) = some (r1, r2, r3, r4) := H
    have A5 := Aside0.mk A50
    clear A50
    simp only [Option.some.injEq, Prod.mk.injEq] at H
    obtain ⟨rfl, rfl, rfl, rfl⟩ := H
    go_enter Try.func33, Try.ntmps33
    go_wp2_with (first | ((with_reducible refine gate_callee (f := 50) rfl ?_); refine goesL_ (some 10) rfl rfl Try.func50 (by kernel_rfl) rfl #[.int .i64 a0, .slice A1 l1.length c1] rfl (by (try simp only [List.map_toArray, List.map_cons, List.map_nil]); first | done | rfl | (simp only [List.length_drop, List.length_take]; rfl)) ?_; (with_reducible refine (impl_GoodClauses.calls a0 _ _ l1 true _ ?side1 ?side2 A3.out).mono ?_); (case side1 => repeat (first | exact HR1.out | (with_reducible refine Kd.C_alloc ?_ _) | (with_reducible refine Kd.C_drewN ?_ _) | (with_reducible refine Kd.C_drew ?_))); (case side2 => exact HC1.out); rintro e w6 ⟨rfl, hb⟩; refine ⟨_, rfl, ?_⟩; have n0_ := Aside0.mk (below_step (by repeat (first | (with_reducible first | exact HB.out | apply below_alloc | apply pw_below_drewN | apply below_drew1) | exact HB.out)) hb); clear HB; have HB := n0_; clear n0_; (try clear hb); (try clear hb2); (try clear hk); (try clear hi)) | ((with_reducible refine gate_callee (f := 54) rfl ?_); refine goesL_ (some 14) rfl rfl Try.func54 (by kernel_rfl) rfl #[.int .i64 a0, .slice A1 l1.length c1] rfl (by (try simp only [List.map_toArray, List.map_cons, List.map_nil]); first | done | rfl | (simp only [List.length_drop, List.length_take]; rfl)) ?_; (with_reducible refine (impl_solve.calls k a0 _ _ l1 t206 t207 t208 t209 _ ?side1 ?side2 A5.out).mono ?_); (case side1 => repeat (first | exact (Kd.C_below HR1.out HB.out) | (with_reducible refine Kd.C_alloc ?_ _) | (with_reducible refine Kd.C_drewN ?_ _) | (with_reducible refine Kd.C_drew ?_))); (case side2 => exact HC1.out); rintro e w7 ⟨v210, v212, rfl, ho0, ho1, hb⟩; refine ⟨_, rfl, ?_⟩; have n0_ := Aside0.mk (Kd.R_lower ho0 (below_size (by repeat (first | (with_reducible first | exact HB.out | apply below_alloc | apply pw_below_drewN | apply below_drew1) | exact HB.out)))); have n1_ := Aside0.mk (Kd.S_lower ho1 (below_size (by repeat (first | (with_reducible first | exact HB.out | apply below_alloc | apply pw_below_drewN | apply below_drew1) | exact HB.out)))); have n2_ := Aside0.mk (below_step (by repeat (first | (with_reducible first | exact HB.out | apply below_alloc | apply pw_below_drewN | apply below_drew1) | exact HB.out)) hb); clear HB; have HO211 := n0_; have HO213 := n1_; have HB := n2_; clear n0_ n1_ n2_; (try clear hb); (try clear hb2); (try clear hk); (try clear hi); (try clear ho0); (try clear ho1)))
    refine bodyPost_ret (results_list (rs := [.tmp 4, .tmp 5, .tmp 6, .tmp 7]) rfl (by simp) (.tmp (.tmp (.tmp (.tmp .nil))))) rfl ?_
    exact ⟨_, _, by first | rfl | (simp [errW_none, errW_some] <;> rfl) | (simp [*, errW_none, errW_some] <;> rfl), by (with_reducible repeat (first | apply Kd.R_alloc | apply Kd.R_drewN | apply Kd.R_drew)); exact HO211.out, by (with_reducible repeat (first | apply Kd.S_alloc | apply Kd.S_drewN | apply Kd.S_drew)); exact HO213.out, by repeat (first | (with_reducible first | exact HB.out | apply below_alloc | apply pw_below_drewN | apply below_drew1) | exact HB.out)⟩
  · replace c4 := Bool.eq_false_iff.mpr c4
    subst c4
    have H1 : (some (false, ([] : List Bool), ([] : List (List Int)), false)) = some (r1, r2, r3, r4) := by rw [if_neg (show ¬ (false = true) by decide)] at H; exact H
    clear H
    have H := H1
    clear H1
    simp only [Option.some.injEq, Prod.mk.injEq] at H
    obtain ⟨rfl, rfl, rfl, rfl⟩ := H
    go_enter Try.func33, Try.ntmps33
    go_wp2_with (first | ((with_reducible refine gate_callee (f := 50) rfl ?_); refine goesL_ (some 10) rfl rfl Try.func50 (by kernel_rfl) rfl #[.int .i64 a0, .slice A1 l1.length c1] rfl (by (try simp only [List.map_toArray, List.map_cons, List.map_nil]); first | done | rfl | (simp only [List.length_drop, List.length_take]; rfl)) ?_; (with_reducible refine (impl_GoodClauses.calls a0 _ _ l1 false _ ?side1 ?side2 A3.out).mono ?_); (case side1 => repeat (first | exact HR1.out | (with_reducible refine Kd.C_alloc ?_ _) | (with_reducible refine Kd.C_drewN ?_ _) | (with_reducible refine Kd.C_drew ?_))); (case side2 => exact HC1.out); rintro e w8 ⟨rfl, hb⟩; refine ⟨_, rfl, ?_⟩; have n0_ := Aside0.mk (below_step (by repeat (first | (with_reducible first | exact HB.out | apply below_alloc | apply pw_below_drewN | apply below_drew1) | exact HB.out)) hb); clear HB; have HB := n0_; clear n0_; (try clear hb); (try clear hb2); (try clear hk); (try clear hi)))
    refine bodyPost_ret (results_list (rs := [.tmp 4, .tmp 5, .tmp 6, .tmp 7]) rfl (by simp) (.tmp (.tmp (.tmp (.tmp .nil))))) rfl ?_
    exact ⟨_, _, by first | rfl | (simp [errW_none, errW_some] <;> rfl) | (simp [*, errW_none, errW_some] <;> rfl), by first | exact Kd.R_nil _ _ _ _ _ | exact Kd.N_nil _ _ _ _ _ | exact Kd.V_nil _ _ _ _ _ | exact Kd.Q_nil _ _ _ _ _ | exact Kd.S_nil _ _ _ _ _, by first | exact Kd.S_nil _ _ _ _ _ | exact Kd.N_nil _ _ _ _ _ | exact Kd.V_nil _ _ _ _ _ | exact Kd.Q_nil _ _ _ _ _ | exact Kd.R_nil _ _ _ _ _, by repeat (first | (with_reducible first | exact HB.out | apply below_alloc | apply pw_below_drewN | apply below_drew1) | exact HB.out)⟩

/-! ### impl_ProofOf: function 29 -/
def impl_ProofOf.f (k : Nat) (a0 : Int) (l1 : List (List Int)) : Option ((List (List Int)) × Bool) := (impl_Solve.f k a0 l1).bind fun bt214 => (if bt214.2.2.2 = true then (if bt214.1 = true then (some (([] : List (List Int)), false)) else (some (bt214.2.2.1, true))) else (some (([] : List (List Int)), false)))
theorem impl_ProofOf.mono : ∀ a0 a1 k, LeO (impl_ProofOf.f k a0 a1) (impl_ProofOf.f (k + 1) a0 a1) := by
  intro a0 a1 k
  unfold impl_ProofOf.f
  repeat' first
      | (with_reducible exact impl_Solve.mono _ _ _)
      | (with_reducible exact LeO.refl _)
      | (with_reducible exact LeO.none _)
      | (with_reducible refine LeO.ite ?_ ?_)
      | (with_reducible refine LeO.bind ?_ (fun _ => ?_))
      | exact impl_Solve.mono _ _ _
      | exact LeO.none _
      | refine LeO.ite ?_ ?_
      | refine LeO.bind ?_ (fun _ => ?_)
set_option maxHeartbeats 8000000 in
set_option maxRecDepth 100000 in
theorem impl_ProofOf.calls (k : Nat) (a0 : Int) (A1 : Option Addr) (c1 : Nat) (l1 : List (List Int)) (r1 : List (List Int)) (r2 : Bool) (w : World) (hr1 : Kd.C (Kd.slice 3 (Kd.int .i64)) w A1 l1.length l1) (hc1 : l1.length ≤ c1) (h : impl_ProofOf.f k a0 l1 = some (r1, r2)) :
    Calls Try.prog 29 #[.int .i64 a0, .slice A1 l1.length c1] w fun e w' => ∃ v0_ : Value, e = .returned (.tuple #[v0_, .bool r2]) ∧ Kd.S (Kd.slice 3 (Kd.int .i64)) 29 w' w.heap.size (fun _ => True) v0_ r1 ∧ Below w.heap.size w w' := by
  have HR1 := Aside0.mk hr1
  have HC1 := Aside0.mk hc1
  clear hr1 hc1
  have HB := Aside0.mk (Below.refl w.heap.size w)
  have H : ((impl_Solve.f k a0 l1).bind fun bt214 => (if bt214.2.2.2 = true then (if bt214.1 = true then (some (([] : List (List Int)), false)) else (some (bt214.2.2.1, true))) else (some (([] : List (List Int)), false)))) = some (r1, r2) := h
  clear h
  replace H := Option.bind_eq_some_iff.mp H
  obtain ⟨⟨t214, t215, t216, t217⟩, A30, H⟩ := H
  replace H : (if t217 = true then (if t214 = true then (some (([] : List (List Int)), false)) else (some (t216, true))) else (some (([] : List (List Int)), false))) = some (r1, r2) := H
  have A3 := Aside0.mk A30
  clear A30
  by_cases c4 : t217 = true
  · subst c4
    have H1 : (if t214 = true then (some (([] : List (List Int)), false)) else (some (t216, true))) = some (r1, r2) := by rw [if_pos rfl] at H; exact H
    clear H
    have H := H1
    clear H1
    by_cases c5 : t214 = true
    · subst c5
      have H1 : (some (([] : List (List Int)), false)) = some (r1, r2) := by rw [if_pos rfl] at H; exact H
      clear H
      have H := H1
      clear H1
      simp only [Option.some.injEq, Prod.mk.injEq] at H
      obtain ⟨rfl, rfl⟩ := H
      go_enter Try.func29, Try.ntmps29
      go_wp2_with (first | ((with_reducible refine gate_callee (f := 33) rfl ?_); refine goesL_ (some 13) rfl rfl Try.func33 (by kernel_rfl) rfl #[.int .i64 a0, .slice A1 l1.length c1] rfl (by (try simp only [List.map_toArray, List.map_cons, List.map_nil]); first | done | rfl | (simp only [List.length_drop, List.length_take]; rfl)) ?_; (with_reducible refine (impl_Solve.calls k a0 _ _ l1 true t215 t216 true _ ?side1 ?side2 A3.out).mono ?_); (case side1 => repeat (first | exact HR1.out | (with_reducible refine Kd.C_alloc ?_ _) | (with_reducible refine Kd.C_drewN ?_ _) | (with_reducible refine Kd.C_drew ?_))); (case side2 => exact HC1.out); rintro e w6 ⟨v218, v220, rfl, ho0, ho1, hb⟩; refine ⟨_, rfl, ?_⟩; have n0_ := Aside0.mk (Kd.R_lower ho0 (below_size (by repeat (first | (with_reducible first | exact HB.out | apply below_alloc | apply pw_below_drewN | apply below_drew1) | exact HB.out)))); have n1_ := Aside0.mk (Kd.S_lower ho1 (below_size (by repeat (first | (with_reducible first | exact HB.out | apply below_alloc | apply pw_below_drewN | apply below_drew1) | exact HB.out)))); have n2_ := Aside0.mk (below_step (by repeat (first | (with_reducible first | exact HB.out | apply below_alloc | apply pw_below_drewN | apply below_drew1) | exact HB.out)) hb); clear HB; have HO219 := n0_; have HO221 := n1_; have HB := n2_; clear n0_ n1_ n2_; (try clear hb); (try clear hb2); (try clear hk); (try clear hi); (try clear ho0); (try clear ho1)))
      go_ret2
      exact ⟨_, by first | rfl | (simp [errW_none, errW_some] <;> rfl) | (simp [*, errW_none, errW_some] <;> rfl), by first | exact Kd.S_nil _ _ _ _ _ | exact Kd.N_nil _ _ _ _ _ | exact Kd.V_nil _ _ _ _ _ | exact Kd.Q_nil _ _ _ _ _ | exact Kd.R_nil _ _ _ _ _, by repeat (first | (with_reducible first | exact HB.out | apply below_alloc | apply pw_below_drewN | apply below_drew1) | exact HB.out)⟩
    · replace c5 := Bool.eq_false_iff.mpr c5
      subst c5
      have H1 : (some (t216, true)) = some (r1, r2) := by rw [if_neg (show ¬ (false = true) by decide)] at H; exact H
      clear H
      have H := H1
      clear H1
      simp only [Option.some.injEq, Prod.mk.injEq] at H
      obtain ⟨rfl, rfl⟩ := H
      go_enter Try.func29, Try.ntmps29
      go_wp2_with (first | ((with_reducible refine gate_callee (f := 33) rfl ?_); refine goesL_ (some 13) rfl rfl Try.func33 (by kernel_rfl) rfl #[.int .i64 a0, .slice A1 l1.length c1] rfl (by (try simp only [List.map_toArray, List.map_cons, List.map_nil]); first | done | rfl | (simp only [List.length_drop, List.length_take]; rfl)) ?_; (with_reducible refine (impl_Solve.calls k a0 _ _ l1 false t215 t216 true _ ?side1 ?side2 A3.out).mono ?_); (case side1 => repeat (first | exact HR1.out | (with_reducible refine Kd.C_alloc ?_ _) | (with_reducible refine Kd.C_drewN ?_ _) | (with_reducible refine Kd.C_drew ?_))); (case side2 => exact HC1.out); rintro e w7 ⟨v218, v220, rfl, ho0, ho1, hb⟩; refine ⟨_, rfl, ?_⟩; have n0_ := Aside0.mk (Kd.R_lower ho0 (below_size (by repeat (first | (with_reducible first | exact HB.out | apply below_alloc | apply pw_below_drewN | apply below_drew1) | exact HB.out)))); have n1_ := Aside0.mk (Kd.S_lower ho1 (below_size (by repeat (first | (with_reducible first | exact HB.out | apply below_alloc | apply pw_below_drewN | apply below_drew1) | exact HB.out)))); have n2_ := Aside0.mk (below_step (by repeat (first | (with_reducible first | exact HB.out | apply below_alloc | apply pw_below_drewN | apply below_drew1) | exact HB.out)) hb); clear HB; have HO219 := n0_; have HO221 := n1_; have HB := n2_; clear n0_ n1_ n2_; (try clear hb); (try clear hb2); (try clear hk); (try clear hi); (try clear ho0); (try clear ho1)))
      go_ret2
      exact ⟨_, by first | rfl | (simp [errW_none, errW_some] <;> rfl) | (simp [*, errW_none, errW_some] <;> rfl), by (with_reducible repeat (first | apply Kd.S_alloc | apply Kd.S_drewN | apply Kd.S_drew)); exact HO221.out, by repeat (first | (with_reducible first | exact HB.out | apply below_alloc | apply pw_below_drewN | apply below_drew1) | exact HB.out)⟩
  · replace c4 := Bool.eq_false_iff.mpr c4
    subst c4
    have H1 : (some (([] : List (List Int)), false)) = some (r1, r2) := by rw [if_neg (show ¬ (false = true) by decide)] at H; exact H
    clear H
    have H := H1
    clear H1
    simp only [Option.some.injEq, Prod.mk.injEq] at H
    obtain ⟨rfl, rfl⟩ := H
    go_enter Try.func29, Try.ntmps29
    go_wp2_with (first | ((with_reducible refine gate_callee (f := 33) rfl ?_); refine goesL_ (some 13) rfl rfl Try.func33 (by kernel_rfl) rfl #[.int .i64 a0, .slice A1 l1.length c1] rfl (by (try simp only [List.map_toArray, List.map_cons, List.map_nil]); first | done | rfl | (simp only [List.length_drop, List.length_take]; rfl)) ?_; (with_reducible refine (impl_Solve.calls k a0 _ _ l1 t214 t215 t216 false _ ?side1 ?side2 A3.out).mono ?_); (case side1 => repeat (first | exact HR1.out | (with_reducible refine Kd.C_alloc ?_ _) | (with_reducible refine Kd.C_drewN ?_ _) | (with_reducible refine Kd.C_drew ?_))); (case side2 => exact HC1.out); rintro e w8 ⟨v218, v220, rfl, ho0, ho1, hb⟩; refine ⟨_, rfl, ?_⟩; have n0_ := Aside0.mk (Kd.R_lower ho0 (below_size (by repeat (first | (with_reducible first | exact HB.out | apply below_alloc | apply pw_below_drewN | apply below_drew1) | exact HB.out)))); have n1_ := Aside0.mk (Kd.S_lower ho1 (below_size (by repeat (first | (with_reducible first | exact HB.out | apply below_alloc | apply pw_below_drewN | apply below_drew1) | exact HB.out)))); have n2_ := Aside0.mk (below_step (by repeat (first | (with_reducible first | exact HB.out | apply below_alloc | apply pw_below_drewN | apply below_drew1) | exact HB.out)) hb); clear HB; have HO219 := n0_; have HO221 := n1_; have HB := n2_; clear n0_ n1_ n2_; (try clear hb); (try clear hb2); (try clear hk); (try clear hi); (try clear ho0); (try clear ho1)))
    go_ret2
    exact ⟨_, by first | rfl | (simp [errW_none, errW_some] <;> rfl) | (simp [*, errW_none, errW_some] <;> rfl), by first | exact Kd.S_nil _ _ _ _ _ | exact Kd.N_nil _ _ _ _ _ | exact Kd.V_nil _ _ _ _ _ | exact Kd.Q_nil _ _ _ _ _ | exact Kd.R_nil _ _ _ _ _, by repeat (first | (with_reducible first | exact HB.out | apply below_alloc | apply pw_below_drewN | apply below_drew1) | exact HB.out)⟩

/-! ### laws_FnExactProofOf: function 7 -/
def laws_FnExactProofOf.f (k : Nat) (a0 : Int) (l1 : List (List Int)) : Option (Bool) := (laws_szIntSS.f k l1 1048576).bind fun t222 => (if t222 < 0 then (some true) else ((laws_toIntSS.f k l1).bind fun t223 => ((spec_ProofOf.f k a0 t223).bind fun bt226 => ((laws_toIntSS.f k l1).bind fun t230 => ((impl_ProofOf.f k a0 t230).bind fun bt233 => ((laws_eqIntSS.f k bt233.1 bt226.1).bind fun t237 => (if t237 = true then (if (bt233.2 != bt226.2) = true then (none) else ((laws_toIntSS.f k l1).bind fun t238 => ((laws_eqIntSS.f k t230 t238).bind fun t241 => (if t241 = true then ((laws_markIntSS.f k t230 1).bind fun bt242 => (if bt242.1 < 0 then (none) else ((laws_eqIntSS.f k bt233.1 bt226.1).bind fun t244 => (if t244 = true then ((laws_markIntSS.f k bt233.1 1).bind fun bt245 => ((laws_heldIntSS.f k bt245.2 1).bind fun t247 => (if t247 < 0 then (none) else (if t247 = bt245.1 then ((laws_toIntSS.f k l1).bind fun t248 => ((impl_ProofOf.f k a0 t248).bind fun bt251 => ((laws_eqIntSS.f k bt251.1 bt226.1).bind fun t255 => (if t255 = true then (if (bt251.2 != bt226.2) = true then (none) else ((laws_heldIntSS.f k bt245.2 1).bind fun t256 => (if t256 < 0 then (none) else (if t256 = bt245.1 then (some true) else (none))))) else (none))))) else (none))))) else (none))))) else (none))))) else (none))))))))
theorem laws_FnExactProofOf.mono : ∀ a0 a1 k, LeO (laws_FnExactProofOf.f k a0 a1) (laws_FnExactProofOf.f (k + 1) a0 a1) := by
  intro a0 a1 k
  unfold laws_FnExactProofOf.f
  repeat' first
      | (with_reducible exact impl_ProofOf.mono _ _ _)
      | (with_reducible exact laws_eqIntSS.mono _ _ _)
      | (with_reducible exact laws_heldIntSS.mono _ _ _)
      | (with_reducible exact laws_markIntSS.mono _ _ _)
      | (with_reducible exact laws_szIntSS.mono _ _ _)
      | (with_reducible exact laws_toIntSS.mono _ _)
      | (with_reducible exact spec_ProofOf.mono _ _ _)
      | (with_reducible exact LeO.refl _)
      | (with_reducible exact LeO.none _)
      | (with_reducible refine LeO.ite ?_ ?_)
      | (with_reducible refine LeO.bind ?_ (fun _ => ?_))
      | exact impl_ProofOf.mono _ _ _
      | exact laws_eqIntSS.mono _ _ _
      | exact laws_heldIntSS.mono _ _ _
      | exact laws_markIntSS.mono _ _ _
      | exact laws_szIntSS.mono _ _ _
      | exact laws_toIntSS.mono _ _
      | exact spec_ProofOf.mono _ _ _
      | exact LeO.none _
      | refine LeO.ite ?_ ?_
      | refine LeO.bind ?_ (fun _ => ?_)
set_option maxHeartbeats 8000000 in
set_option maxRecDepth 100000 in
theorem laws_FnExactProofOf.calls (k : Nat) (a0 : Int) (A1 : Option Addr) (c1 : Nat) (l1 : List (List Int)) (r : Bool) (w : World) (hr1 : Kd.C (Kd.slice 3 (Kd.int .i64)) w A1 l1.length l1) (hc1 : l1.length ≤ c1) (h : laws_FnExactProofOf.f k a0 l1 = some r) :
    Calls Try.prog 7 #[.int .i64 a0, .slice A1 l1.length c1] w fun e w' => e = .returned (.bool r) ∧ Below w.heap.size w w' := by
  have HR1 := Aside0.mk hr1
  have HC1 := Aside0.mk hc1
  clear hr1 hc1
  have HB := Aside0.mk (Below.refl w.heap.size w)
  have HTop := Aside0.mk (Nat.zero_le w.heap.size)
  have H : ((laws_szIntSS.f k l1 1048576).bind fun t222 => (if t222 < 0 then (some true) else ((laws_toIntSS.f k l1).bind fun t223 => ((spec_ProofOf.f k a0 t223).bind fun bt226 => ((laws_toIntSS.f k l1).bind fun t230 => ((impl_ProofOf.f k a0 t230).bind fun bt233 => ((laws_eqIntSS.f k bt233.1 bt226.1).bind fun t237 => (if t237 = true then (if (bt233.2 != bt226.2) = true then (none) else ((laws_toIntSS.f k l1).bind fun t238 => ((laws_eqIntSS.f k t230 t238).bind fun t241 => (if t241 = true then ((laws_markIntSS.f k t230 1).bind fun bt242 => (if bt242.1 < 0 then (none) else ((laws_eqIntSS.f k bt233.1 bt226.1).bind fun t244 => (if t244 = true then ((laws_markIntSS.f k bt233.1 1).bind fun bt245 => ((laws_heldIntSS.f k bt245.2 1).bind fun t247 => (if t247 < 0 then (none) else (if t247 = bt245.1 then ((laws_toIntSS.f k l1).bind fun t248 => ((impl_ProofOf.f k a0 t248).bind fun bt251 => ((laws_eqIntSS.f k bt251.1 bt226.1).bind fun t255 => (if t255 = true then (if (bt251.2 != bt226.2) = true then (none) else ((laws_heldIntSS.f k bt245.2 1).bind fun t256 => (if t256 < 0 then (none) else (if t256 = bt245.1 then (some true) else (none))))) else (none))))) else (none))))) else (none))))) else (none))))) else (none))))))))) = some r := h
  clear h
  replace H := Option.bind_eq_some_iff.mp H
  obtain ⟨t222, A30, H⟩ := H
  replace H : (if t222 < 0 then (some true) else ((laws_toIntSS.f k l1).bind fun t223 => ((spec_ProofOf.f k a0 t223).bind fun bt226 => ((laws_toIntSS.f k l1).bind fun t230 => ((impl_ProofOf.f k a0 t230).bind fun bt233 => ((laws_eqIntSS.f k bt233.1 bt226.1).bind fun t237 => (if t237 = true then (if (bt233.2 != bt226.2) = true then (none) else ((laws_toIntSS.f k l1).bind fun t238 => ((laws_eqIntSS.f k t230 t238).bind fun t241 => (if t241 = true then ((laws_markIntSS.f k t230 1).bind fun bt242 => (if bt242.1 < 0 then (none) else ((laws_eqIntSS.f k bt233.1 bt226.1).bind fun t244 => (if t244 = true then ((laws_markIntSS.f k bt233.1 1).bind fun bt245 => ((laws_heldIntSS.f k bt245.2 1).bind fun t247 => (if t247 < 0 then (none) else (if t247 = bt245.1 then ((laws_toIntSS.f k l1).bind fun t248 => ((impl_ProofOf.f k a0 t248).bind fun bt251 => ((laws_eqIntSS.f k bt251.1 bt226.1).bind fun t255 => (if t255 = true then (if (bt251.2 != bt226.2) = true then (none) else ((laws_heldIntSS.f k bt245.2 1).bind fun t256 => (if t256 < 0 then (none) else (if t256 = bt245.1 then (some true) else (none))))) else (none))))) else (none))))) else (none))))) else (none))))) else (none)))))))) = some r := H
  have A3 := Aside0.mk A30
  clear A30
  by_cases c4 : t222 < 0
  · rw [if_pos c4] at H
    have c4b0 : decide (t222 < 0) = true := decide_eq_true c4
    clear c4
    obtain rfl := Option.some.inj H
    go_enter Try.func7, Try.ntmps7
    go_wp2_with (first | ((with_reducible refine gate_callee (f := 11) rfl ?_); refine goesL_ (some 18) rfl rfl Try.func11 (by kernel_rfl) rfl #[.slice A1 l1.length c1, .int .i64 1048576] rfl (by (try simp only [List.map_toArray, List.map_cons, List.map_nil]); first | done | rfl | (simp only [List.length_drop, List.length_take]; rfl)) ?_; (with_reducible refine (laws_szIntSS.calls k _ _ l1 1048576 t222 _ ?side1 ?side2 A3.out).mono ?_); (case side1 => repeat (first | exact HR1.out | (with_reducible refine Kd.C_alloc ?_ _) | (with_reducible refine Kd.C_drewN ?_ _) | (with_reducible refine Kd.C_drew ?_))); (case side2 => exact HC1.out); rintro e w' ⟨rfl, ⟨nd, rfl⟩⟩; refine ⟨_, rfl, ?_⟩))
    go_ret
    exact ⟨by first | rfl | (simp [errW_none, errW_some] <;> rfl) | (simp [*, errW_none, errW_some] <;> rfl), by repeat (first | (with_reducible first | exact HB.out | apply below_alloc | apply pw_below_drewN | apply below_drew1) | exact HB.out)⟩
  · rw [if_neg c4] at H
    have c4b0 : decide (t222 < 0) = false := decide_eq_false c4
    clear c4
    replace H := Option.bind_eq_some_iff.mp H
    obtain ⟨t223, A50, H⟩ := H
    replace H : ((spec_ProofOf.f k a0 t223).bind fun bt226 => ((laws_toIntSS.f k l1).bind fun t230 => ((impl_ProofOf.f k a0 t230).bind fun bt233 => ((laws_eqIntSS.f k bt233.1 bt226.1).bind fun t237 => (if t237 = true then (if (bt233.2 != bt226.2) = true then (none) else ((laws_toIntSS.f k l1).bind fun t238 => ((laws_eqIntSS.f k t230 t238).bind fun t241 => (if t241 = true then ((laws_markIntSS.f k t230 1).bind fun bt242 => (if bt242.1 < 0 then (none) else ((laws_eqIntSS.f k bt233.1 bt226.1).bind fun t244 => (if t244 = true then ((laws_markIntSS.f k bt233.1 1).bind fun bt245 => ((laws_heldIntSS.f k bt245.2 1).bind fun t247 => (if t247 < 0 then (none) else (if t247 = bt245.1 then ((laws_toIntSS.f k l1).bind fun t248 => ((impl_ProofOf.f k a0 t248).bind fun bt251 => ((laws_eqIntSS.f k bt251.1 bt226.1).bind fun t255 => (if t255 = true then (if (bt251.2 != bt226.2) = true then (none) else ((laws_heldIntSS.f k bt245.2 1).bind fun t256 => (if t256 < 0 then (none) else (if t256 = bt245.1 then (some true) else (none))))) else (none))))) else (none))))) else (none))))) else (none))))) else (none)))))) = some r := H
    have A5 := Aside0.mk A50
    clear A50
    replace H := Option.bind_eq_some_iff.mp H
    obtain ⟨⟨t226, t227⟩, A60, H⟩ := H
    replace H : ((laws_toIntSS.f k l1).bind fun t230 => ((impl_ProofOf.f k a0 t230).bind fun bt233 => ((laws_eqIntSS.f k bt233.1 t226).bind fun t237 => (if t237 = true then (if (bt233.2 != t227) = true then (none) else ((laws_toIntSS.f k l1).bind fun t238 => ((laws_eqIntSS.f k t230 t238).bind fun t241 => (if t241 = true then ((laws_markIntSS.f k t230 1).bind fun bt242 => (if bt242.1 < 0 then (none) else ((laws_eqIntSS.f k bt233.1 t226).bind fun t244 => (if t244 = true then ((laws_markIntSS.f k bt233.1 1).bind fun bt245 => ((laws_heldIntSS.f k bt245.2 1).bind fun t247 => (if t247 < 0 then (none) else (if t247 = bt245.1 then ((laws_toIntSS.f k l1).bind fun t248 => ((impl_ProofOf.f k a0 t248).bind fun bt251 => ((laws_eqIntSS.f k bt251.1 t226).bind fun t255 => (if t255 = true then (if (bt251.2 != t227) = true then (none) else ((laws_heldIntSS.f k bt245.2 1).bind fun t256 => (if t256 < 0 then (none) else (if t256 = bt245.1 then (some true) else (none))))) else (none))))) else (none))))) else (none))))) else (none))))) else (none))))) = some r := H
    have A6 := Aside0.mk A60
    clear A60
    replace H := Option.bind_eq_some_iff.mp H
    obtain ⟨t230, A70, H⟩ := H
    replace H : ((impl_ProofOf.f k a0 t230).bind fun bt233 => ((laws_eqIntSS.f k bt233.1 t226).bind fun t237 => (if t237 = true then (if (bt233.2 != t227) = true then (none) else ((laws_toIntSS.f k l1).bind fun t238 => ((laws_eqIntSS.f k t230 t238).bind fun t241 => (if t241 = true then ((laws_markIntSS.f k t230 1).bind fun bt242 => (if bt242.1 < 0 then (none) else ((laws_eqIntSS.f k bt233.1 t226).bind fun t244 => (if t244 = true then ((laws_markIntSS.f k bt233.1 1).bind fun bt245 => ((laws_heldIntSS.f k bt245.2 1).bind fun t247 => (if t247 < 0 then (none) else (if t247 = bt245.1 then ((laws_toIntSS.f k l1).bind fun t248 => ((impl_ProofOf.f k a0 t248).bind fun bt251 => ((laws_eqIntSS.f k bt251.1 t226).bind fun t255 => (if t255 = true then (if (bt251.2 != t227) = true then (none) else ((laws_heldIntSS.f k bt245.2 1).bind fun t256 => (if t256 < 0 then (none) else (if t256 = bt245.1 then (some true) else (none))))) else (none))))) else (none))))) else (none))))) else (none))))) else (none)))) = some r := H
    have A7 := Aside0.mk A70
    clear A70
    replace H := Option.bind_eq_some_iff.mp H
    obtain ⟨⟨t233, t234⟩, A80, H⟩ := H
    replace H : ((laws_eqIntSS.f k t233 t226).bind fun t237 => (if t237 = true then (if (t234 != t227) = true then (none) else ((laws_toIntSS.f k l1).bind fun t238 => ((laws_eqIntSS.f k t230 t238).bind fun t241 => (if t241 = true then ((laws_markIntSS.f k t230 1).bind fun bt242 => (if bt242.1 < 0 then (none) else ((laws_eqIntSS.f k t233 t226).bind fun t244 => (if t244 = true then ((laws_markIntSS.f k t233 1).bind fun bt245 => ((laws_heldIntSS.f k bt245.2 1).bind fun t247 => (if t247 < 0 then (none) else (if t247 = bt245.1 then ((laws_toIntSS.f k l1).bind fun t248 => ((impl_ProofOf.f k a0 t248).bind fun bt251 => ((laws_eqIntSS.f k bt251.1 t226).bind fun t255 => (if t255 = true then (if (bt251.2 != t227) = true then (none) else ((laws_heldIntSS.f k bt245.2 1).bind fun t256 => (if t256 < 0 then (none) else (if t256 = bt245.1 then (some true) else (none))))) else (none))))) else (none))))) else (none))))) else (none))))) else (none))) = some r := H
    have A8 := Aside0.mk A80
    clear A80
    replace H := Option.bind_eq_some_iff.mp H
    obtain ⟨t237, A90, H⟩ := H
    replace H : (if t237 = true then (if (t234 != t227) = true then (none) else ((laws_toIntSS.f k l1).bind fun t238 => ((laws_eqIntSS.f k t230 t238).bind fun t241 => (if t241 = true then ((laws_markIntSS.f k t230 1).bind fun bt242 => (if bt242.1 < 0 then (none) else ((laws_eqIntSS.f k t233 t226).bind fun t244 => (if t244 = true then ((laws_markIntSS.f k t233 1).bind fun bt245 => ((laws_heldIntSS.f k bt245.2 1).bind fun t247 => (if t247 < 0 then (none) else (if t247 = bt245.1 then ((laws_toIntSS.f k l1).bind fun t248 => ((impl_ProofOf.f k a0 t248).bind fun bt251 => ((laws_eqIntSS.f k bt251.1 t226).bind fun t255 => (if t255 = true then (if (bt251.2 != t227) = true then (none) else ((laws_heldIntSS.f k bt245.2 1).bind fun t256 => (if t256 < 0 then (none) else (if t256 = bt245.1 then (some true) else (none))))) else (none))))) else (none))))) else (none))))) else (none))))) else (none)) = some r := H
    have A9 := Aside0.mk A90
    clear A90
    by_cases c10 : t237 = true
    · subst c10
      have H1 : (if (t234 != t227) = true then (none) else ((laws_toIntSS.f k l1).bind fun t238 => ((laws_eqIntSS.f k t230 t238).bind fun t241 => (if t241 = true then ((laws_markIntSS.f k t230 1).bind fun bt242 => (if bt242.1 < 0 then (none) else ((laws_eqIntSS.f k t233 t226).bind fun t244 => (if t244 = true then ((laws_markIntSS.f k t233 1).bind fun bt245 => ((laws_heldIntSS.f k bt245.2 1).bind fun t247 => (if t247 < 0 then (none) else (if t247 = bt245.1 then ((laws_toIntSS.f k l1).bind fun t248 => ((impl_ProofOf.f k a0 t248).bind fun bt251 => ((laws_eqIntSS.f k bt251.1 t226).bind fun t255 => (if t255 = true then (if (bt251.2 != t227) = true then (none) else ((laws_heldIntSS.f k bt245.2 1).bind fun t256 => (if t256 < 0 then (none) else (if t256 = bt245.1 then (some true) else (none))))) else (none))))) else (none))))) else (none))))) else (none))))) = some r := by rw [if_pos rfl] at H; exact H
      clear H
      have H := H1
      clear H1
      by_cases c11 : (t234 != t227) = true
      · rw [if_pos c11] at H
        exact absurd H (by simp)
      · rw [if_neg c11] at H
        have c11b0 : (t234 != t227) = false := by simpa using c11
        (try (have c11b1 : decide (t234 = t227) = true := by simpa using c11))
        (try (have c11b2 : (t234 == t227) = true := by simpa using c11))
        clear c11
        replace H := Option.bind_eq_some_iff.mp H
        obtain ⟨t238, A120, H⟩ := H
        replace H : ((laws_eqIntSS.f k t230 t238).bind fun t241 => (if t241 = true then ((laws_markIntSS.f k t230 1).bind fun bt242 => (if bt242.1 < 0 then (none) else ((laws_eqIntSS.f k t233 t226).bind fun t244 => (if t244 = true then ((laws_markIntSS.f k t233 1).bind fun bt245 => ((laws_heldIntSS.f k bt245.2 1).bind fun t247 => (if t247 < 0 then (none) else (if t247 = bt245.1 then ((laws_toIntSS.f k l1).bind fun t248 => ((impl_ProofOf.f k a0 t248).bind fun bt251 => ((laws_eqIntSS.f k bt251.1 t226).bind fun t255 => (if t255 = true then (if (bt251.2 != t227) = true then (none) else ((laws_heldIntSS.f k bt245.2 1).bind fun t256 => (if t256 < 0 then (none) else (if t256 = bt245.1 then (some true) else (none))))) else (none))))) else (none))))) else (none))))) else (none))) = some r := H
        have A12 := Aside0.mk A120
        clear A120
        replace H := Option.bind_eq_some_iff.mp H
        obtain ⟨t241, A130, H⟩ := H
        replace H : (if t241 = true then ((laws_markIntSS.f k t230 1).bind fun bt242 => (if bt242.1 < 0 then (none) else ((laws_eqIntSS.f k t233 t226).bind fun t244 => (if t244 = true then ((laws_markIntSS.f k t233 1).bind fun bt245 => ((laws_heldIntSS.f k bt245.2 1).bind fun t247 => (if t247 < 0 then (none) else (if t247 = bt245.1 then ((laws_toIntSS.f k l1).bind fun t248 => ((impl_ProofOf.f k a0 t248).bind fun bt251 => ((laws_eqIntSS.f k bt251.1 t226).bind fun t255 => (if t255 = true then (if (bt251.2 != t227) = true then (none) else ((laws_heldIntSS.f k bt245.2 1).bind fun t256 => (if t256 < 0 then (none) else (if t256 = bt245.1 then (some true) else (none))))) else (none))))) else (none))))) else (none))))) else (none)) = some r := H
        have A13 := Aside0.mk A130
        clear A130
        by_cases c14 : t241 = true
        · subst c14
          have H1 : ((laws_markIntSS.f k t230 1).bind fun bt242 => (if bt242.1 < 0 then (none) else ((laws_eqIntSS.f k t233 t226).bind fun t244 => (if t244 = true then ((laws_markIntSS.f k t233 1).bind fun bt245 => ((laws_heldIntSS.f k bt245.2 1).bind fun t247 => (if t247 < 0 then (none) else (if t247 = bt245.1 then ((laws_toIntSS.f k l1).bind fun t248 => ((impl_ProofOf.f k a0 t248).bind fun bt251 => ((laws_eqIntSS.f k bt251.1 t226).bind fun t255 => (if t255 = true then (if (bt251.2 != t227) = true then (none) else ((laws_heldIntSS.f k bt245.2 1).bind fun t256 => (if t256 < 0 then (none) else (if t256 = bt245.1 then (some true) else (none))))) else (none))))) else (none))))) else (none))))) = some r := by rw [if_pos rfl] at H; exact H
          clear H
          have H := H1
          clear H1
          replace H := Option.bind_eq_some_iff.mp H
          obtain ⟨⟨t242, t243⟩, A150, H⟩ := H
          replace H : (if t242 < 0 then (none) else ((laws_eqIntSS.f k t233 t226).bind fun t244 => (if t244 = true then ((laws_markIntSS.f k t233 1).bind fun bt245 => ((laws_heldIntSS.f k bt245.2 1).bind fun t247 => (if t247 < 0 then (none) else (if t247 = bt245.1 then ((laws_toIntSS.f k l1).bind fun t248 => ((impl_ProofOf.f k a0 t248).bind fun bt251 => ((laws_eqIntSS.f k bt251.1 t226).bind fun t255 => (if t255 = true then (if (bt251.2 != t227) = true then (none) else ((laws_heldIntSS.f k bt245.2 1).bind fun t256 => (if t256 < 0 then (none) else (if t256 = bt245.1 then (some true) else (none))))) else (none))))) else (none))))) else (none)))) = some r := H
          have A15 := Aside0.mk A150
          clear A150
          by_cases c16 : t242 < 0
          · rw [if_pos c16] at H
            exact absurd H (by simp)
          · rw [if_neg c16] at H
            have c16b0 : decide (t242 < 0) = false := decide_eq_false c16
            clear c16
            replace H := Option.bind_eq_some_iff.mp H
            obtain ⟨t244, A170, H⟩ := H
            replace H : (if t244 = true then ((laws_markIntSS.f k t233 1).bind fun bt245 => ((laws_heldIntSS.f k bt245.2 1).bind fun t247 => (if t247 < 0 then (none) else (if t247 = bt245.1 then ((laws_toIntSS.f k l1).bind fun t248 => ((impl_ProofOf.f k a0 t248).bind fun bt251 => ((laws_eqIntSS.f k bt251.1 t226).bind fun t255 => (if t255 = true then (if (bt251.2 != t227) = true then (none) else ((laws_heldIntSS.f k bt245.2 1).bind fun t256 => (if t256 < 0 then (none) else (if t256 = bt245.1 then (some true) else (none))))) else (none))))) else (none))))) else (none)) = some r := H
            have A17 := Aside0.mk A170
            clear A170
            by_cases c18 : t244 = true
            · subst c18
              have H1 : ((laws_markIntSS.f k t233 1).bind fun bt245 => ((laws_heldIntSS.f k bt245.2 1).bind fun t247 => (if t247 < 0 then (none) else (if t247 = bt245.1 then ((laws_toIntSS.f k l1).bind fun t248 => ((impl_ProofOf.f k a0 t248).bind fun bt251 => ((laws_eqIntSS.f k bt251.1 t226).bind fun t255 => (if t255 = true then (if (bt251.2 != t227) = true then (none) else ((laws_heldIntSS.f k bt245.2 1).bind fun t256 => (if t256 < 0 then (none) else (if t256 = bt245.1 then (some true) else (none))))) else (none))))) else (none))))) = some r := by rw [if_pos rfl] at H; exact H
              clear H
              have H := H1
              clear H1
              replace H := Option.bind_eq_some_iff.mp H
              obtain ⟨⟨t245, t246⟩, A190, H⟩ := H
              replace H : ((laws_heldIntSS.f k t246 1).bind fun t247 => (if t247 < 0 then (none) else (if t247 = t245 then ((laws_toIntSS.f k l1).bind fun t248 => ((impl_ProofOf.f k a0 t248).bind fun bt251 => ((laws_eqIntSS.f k bt251.1 t226).bind fun t255 => (if t255 = true then (if (bt251.2 != t227) = true then (none) else ((laws_heldIntSS.f k t246 1).bind fun t256 => (if t256 < 0 then (none) else (if t256 = t245 then (some true) else (none))))) else (none))))) else (none)))) = some r := H
              have A19 := Aside0.mk A190
              clear A190
              replace H := Option.bind_eq_some_iff.mp H
              obtain ⟨t247, A200, H⟩ := H
              replace H : (if t247 < 0 then (none) else (if t247 = t245 then ((laws_toIntSS.f k l1).bind fun t248 => ((impl_ProofOf.f k a0 t248).bind fun bt251 => ((laws_eqIntSS.f k bt251.1 t226).bind fun t255 => (if t255 = true then (if (bt251.2 != t227) = true then (none) else ((laws_heldIntSS.f k t246 1).bind fun t256 => (if t256 < 0 then (none) else (if t256 = t245 then (some true) else (none))))) else (none))))) else (none))) = some r := H
              have A20 := Aside0.mk A200
              clear A200
              by_cases c21 : t247 < 0
              · rw [if_pos c21] at H
                exact absurd H (by simp)
              · rw [if_neg c21] at H
                have c21b0 : decide (t247 < 0) = false := decide_eq_false c21
                clear c21
                by_cases c22 : t247 = t245
                · rw [if_pos c22] at H
                  have c22b0 : (t247 == t245) = true := beq_iff_eq.mpr c22
                  have c22b1 : (t247 != t245) = false := bne_eq_false_iff_eq.mpr c22
                  clear c22
                  replace H := Option.bind_eq_some_iff.mp H
                  obtain ⟨t248, A230, H⟩ := H
                  replace H : ((impl_ProofOf.f k a0 t248).bind fun bt251 => ((laws_eqIntSS.f k bt251.1 t226).bind fun t255 => (if t255 = true then (if (bt251.2 != t227) = true then (none) else ((laws_heldIntSS.f k t246 1).bind fun t256 => (if t256 < 0 then (none) else (if t256 = t245 then (some true) else (none))))) else (none)))) = some r := H
                  have A23 := Aside0.mk A230
                  clear A230
                  replace H := Option.bind_eq_some_iff.mp H
                  obtain ⟨⟨t251, t252⟩, A240, H⟩ := H
                  replace H : ((laws_eqIntSS.f k t251 t226).bind fun t255 => (if t255 = true then (if (t252 != t227) = true then (none) else ((laws_heldIntSS.f k t246 1).bind fun t256 => (if t256 < 0 then (none) else (if t256 = t245 then (some true) else (none))))) else (none))) = some r := H
                  have A24 := Aside0.mk A240
                  clear A240
                  replace H := Option.bind_eq_some_iff.mp H
                  obtain ⟨t255, A250, H⟩ := H
                  replace H : (if t255 = true then (if (t252 != t227) = true then (none) else ((laws_heldIntSS.f k t246 1).bind fun t256 => (if t256 < 0 then (none) else (if t256 = t245 then (some true) else (none))))) else (none)) = some r := H
                  have A25 := Aside0.mk A250
                  clear A250
                  by_cases c26 : t255 = true
                  · subst c26
                    have H1 : (if (t252 != t227) = true then (none) else ((laws_heldIntSS.f k t246 1).bind fun t256 => (if t256 < 0 then (none) else (if t256 = t245 then (some true) else (none))))) = some r := by rw [if_pos rfl] at H; exact H
                    clear H
                    have H := H1
                    clear H1
                    by_cases c27 : (t252 != t227) = true
                    · rw [if_pos c27] at H
                      exact absurd H (by simp)
                    · rw [if_neg c27] at H
                      have c27b0 : (t252 != t227) = false := by simpa using c27
                      (try (have c27b1 : decide (t252 = t227) = true := by simpa using c27))
                      (try (have c27b2 : (t252 == t227) = true := by simpa using c27))
                      clear c27
                      replace H := Option.bind_eq_some_iff.mp H
                      obtain ⟨t256, A280, H⟩ := H
                      replace H : (if t256 < 0 then (none) else (if t256 = t245 then (some true) else (none))) = some r := H
                      have A28 := Aside0.mk A280
                      clear A280
                      by_cases c29 : t256 < 0
                      · rw [if_pos c29] at H
                        exact absurd H (by simp)
                      · rw [if_neg c29] at H
                        have c29b0 : decide (t256 < 0) = false := decide_eq_false c29
                        clear c29
                        by_cases c30 : t256 = t245
                        · rw [if_pos c30] at H
                          have c30b0 : (t256 == t245) = true := beq_iff_eq.mpr c30
                          have c30b1 : (t256 != t245) = false := bne_eq_false_iff_eq.mpr c30
                          clear c30
                          obtain rfl := Option.some.inj H
                          go_enter Try.func7, Try.ntmps7
                          go_wp2_with (first | ((with_reducible refine gate_callee (f := 11) rfl ?_); refine goesL_ (some 18) rfl rfl Try.func11 (by kernel_rfl) rfl #[.slice A1 l1.length c1, .int .i64 1048576] rfl (by (try simp only [List.map_toArray, List.map_cons, List.map_nil]); first | done | rfl | (simp only [List.length_drop, List.length_take]; rfl)) ?_; (with_reducible refine (laws_szIntSS.calls k _ _ l1 1048576 t222 _ ?side1 ?side2 A3.out).mono ?_); (case side1 => repeat (first | exact HR1.out | (with_reducible refine Kd.C_alloc ?_ _) | (with_reducible refine Kd.C_drewN ?_ _) | (with_reducible refine Kd.C_drew ?_))); (case side2 => exact HC1.out); rintro e w' ⟨rfl, ⟨nd, rfl⟩⟩; refine ⟨_, rfl, ?_⟩) | ((with_reducible refine gate_callee (f := 13) rfl ?_); refine goesL_ (some 24) rfl rfl Try.func13 (by kernel_rfl) rfl #[.slice A1 l1.length c1] rfl (by (try simp only [List.map_toArray, List.map_cons, List.map_nil]); first | done | rfl | (simp only [List.length_drop, List.length_take]; rfl)) ?_; (with_reducible refine (laws_toIntSS.calls k _ _ l1 t223 _ ?side1 ?side2 A5.out).mono ?_); (case side1 => repeat (first | exact HR1.out | (with_reducible refine Kd.C_alloc ?_ _) | (with_reducible refine Kd.C_drewN ?_ _) | (with_reducible refine Kd.C_drew ?_))); (case side2 => exact HC1.out); rintro e w31 ⟨v224, rfl, ho0, hb⟩; refine ⟨_, rfl, ?_⟩; obtain ⟨lo1, hi1, EL1, EH1, LE1⟩ := iv_ hb; have OR1 := Aside0.mk (show 0 ≤ lo1 ∧ lo1 ≤ hi1 from ⟨Nat.le_trans HTop.out (Nat.le_of_eq EL1), LE1⟩); have n0_ := Aside0.mk (Kd.S_mono (ok' := fun k_ => lo1 ≤ k_ ∧ k_ < hi1) (Kd.S_lower (Kd.S_bound ho0) (below_size (by repeat (first | (with_reducible first | exact HB.out | apply below_alloc | apply pw_below_drewN | apply below_drew1) | exact HB.out)))) (fun k_ hk_ => by have a_ := hk_.2.1; have b_ := hk_.2.2.1; omega)); have n1_ := Aside0.mk (Nat.le_of_eq EH1.symm); have n2_ := Aside0.mk (below_step (by repeat (first | (with_reducible first | exact HB.out | apply below_alloc | apply pw_below_drewN | apply below_drew1) | exact HB.out)) hb); clear HTop; clear HB; have HO225 := n0_; have HTop := n1_; have HB := n2_; clear n0_ n1_ n2_; (try clear hb); (try clear hb2); (try clear hk); (try clear hi); (try clear ho0); (try clear EL1); (try clear EH1); (try clear LE1); obtain ⟨Ao32, co32, eo32⟩ := Kd.S_slice HO225.out; subst eo32) | ((with_reducible refine gate_callee (f := 28) rfl ?_); refine goesL_ (some 25) rfl rfl Try.func28 (by kernel_rfl) rfl #[.int .i64 a0, .slice Ao32 t223.length co32] rfl (by (try simp only [List.map_toArray, List.map_cons, List.map_nil]); first | done | rfl | (simp only [List.length_drop, List.length_take]; rfl)) ?_; (with_reducible refine (spec_ProofOf.calls k a0 _ _ t223 t226 t227 _ ?side1 ?side2 A6.out).mono ?_); (case side1 => repeat (first | exact (Kd.S_reads' HO225.out).2.2 | (with_reducible refine Kd.C_alloc ?_ _) | (with_reducible refine Kd.C_drewN ?_ _) | (with_reducible refine Kd.C_drew ?_))); (case side2 => exact (Kd.S_reads' HO225.out).2.1); rintro e w33 ⟨v228, rfl, ho0, hb⟩; refine ⟨_, rfl, ?_⟩; obtain ⟨lo2, hi2, EL2, EH2, LE2⟩ := iv_ hb; have OR2 := Aside0.mk (show hi1 ≤ lo2 ∧ lo2 ≤ hi2 from ⟨Nat.le_trans HTop.out (Nat.le_of_eq EL2), LE2⟩); have n0_ := Aside0.mk (Kd.S_below (by (with_reducible repeat (first | apply Kd.S_alloc | apply Kd.S_drewN | apply Kd.S_drew)); exact HO225.out) hb); have n1_ := Aside0.mk (Kd.S_mono (ok' := fun k_ => lo2 ≤ k_ ∧ k_ < hi2) (Kd.S_lower (Kd.S_bound ho0) (below_size (by repeat (first | (with_reducible first | exact HB.out | apply below_alloc | apply pw_below_drewN | apply below_drew1) | exact HB.out)))) (fun k_ hk_ => by have a_ := hk_.2.1; have b_ := hk_.2.2.1; omega)); have n2_ := Aside0.mk (Nat.le_of_eq EH2.symm); have n3_ := Aside0.mk (below_step (by repeat (first | (with_reducible first | exact HB.out | apply below_alloc | apply pw_below_drewN | apply below_drew1) | exact HB.out)) hb); clear HO225; clear HTop; clear HB; have HO225 := n0_; have HO229 := n1_; have HTop := n2_; have HB := n3_; clear n0_ n1_ n2_ n3_; (try clear hb); (try clear hb2); (try clear hk); (try clear hi); (try clear ho0); (try clear EL2); (try clear EH2); (try clear LE2)) | ((with_reducible refine gate_callee (f := 13) rfl ?_); refine goesL_ (some 29) rfl rfl Try.func13 (by kernel_rfl) rfl #[.slice A1 l1.length c1] rfl (by (try simp only [List.map_toArray, List.map_cons, List.map_nil]); first | done | rfl | (simp only [List.length_drop, List.length_take]; rfl)) ?_; (with_reducible refine (laws_toIntSS.calls k _ _ l1 t230 _ ?side1 ?side2 A7.out).mono ?_); (case side1 => repeat (first | exact (Kd.C_below HR1.out HB.out) | (with_reducible refine Kd.C_alloc ?_ _) | (with_reducible refine Kd.C_drewN ?_ _) | (with_reducible refine Kd.C_drew ?_))); (case side2 => exact HC1.out); rintro e w34 ⟨v231, rfl, ho0, hb⟩; refine ⟨_, rfl, ?_⟩; obtain ⟨lo3, hi3, EL3, EH3, LE3⟩ := iv_ hb; have OR3 := Aside0.mk (show hi2 ≤ lo3 ∧ lo3 ≤ hi3 from ⟨Nat.le_trans HTop.out (Nat.le_of_eq EL3), LE3⟩); have n0_ := Aside0.mk (Kd.S_below (by (with_reducible repeat (first | apply Kd.S_alloc | apply Kd.S_drewN | apply Kd.S_drew)); exact HO225.out) hb); have n1_ := Aside0.mk (Kd.S_below (by (with_reducible repeat (first | apply Kd.S_alloc | apply Kd.S_drewN | apply Kd.S_drew)); exact HO229.out) hb); have n2_ := Aside0.mk (Kd.S_mono (ok' := fun k_ => lo3 ≤ k_ ∧ k_ < hi3) (Kd.S_lower (Kd.S_bound ho0) (below_size (by repeat (first | (with_reducible first | exact HB.out | apply below_alloc | apply pw_below_drewN | apply below_drew1) | exact HB.out)))) (fun k_ hk_ => by have a_ := hk_.2.1; have b_ := hk_.2.2.1; omega)); have n3_ := Aside0.mk (Nat.le_of_eq EH3.symm); have n4_ := Aside0.mk (below_step (by repeat (first | (with_reducible first | exact HB.out | apply below_alloc | apply pw_below_drewN | apply below_drew1) | exact HB.out)) hb); clear HO225; clear HO229; clear HTop; clear HB; have HO225 := n0_; have HO229 := n1_; have HO232 := n2_; have HTop := n3_; have HB := n4_; clear n0_ n1_ n2_ n3_ n4_; (try clear hb); (try clear hb2); (try clear hk); (try clear hi); (try clear ho0); (try clear EL3); (try clear EH3); (try clear LE3); obtain ⟨Ao35, co35, eo35⟩ := Kd.S_slice HO232.out; subst eo35) | ((with_reducible refine gate_callee (f := 29) rfl ?_); refine goesL_ (some 33) rfl rfl Try.func29 (by kernel_rfl) rfl #[.int .i64 a0, .slice Ao35 t230.length co35] rfl (by (try simp only [List.map_toArray, List.map_cons, List.map_nil]); first | done | rfl | (simp only [List.length_drop, List.length_take]; rfl)) ?_; (with_reducible refine (impl_ProofOf.calls k a0 _ _ t230 t233 t234 _ ?side1 ?side2 A8.out).mono ?_); (case side1 => repeat (first | exact (Kd.S_reads' HO232.out).2.2 | (with_reducible refine Kd.C_alloc ?_ _) | (with_reducible refine Kd.C_drewN ?_ _) | (with_reducible refine Kd.C_drew ?_))); (case side2 => exact (Kd.S_reads' HO232.out).2.1); rintro e w36 ⟨v235, rfl, ho0, hb⟩; refine ⟨_, rfl, ?_⟩; obtain ⟨lo4, hi4, EL4, EH4, LE4⟩ := iv_ hb; have OR4 := Aside0.mk (show hi3 ≤ lo4 ∧ lo4 ≤ hi4 from ⟨Nat.le_trans HTop.out (Nat.le_of_eq EL4), LE4⟩); have n0_ := Aside0.mk (Kd.S_below (by (with_reducible repeat (first | apply Kd.S_alloc | apply Kd.S_drewN | apply Kd.S_drew)); exact HO225.out) hb); have n1_ := Aside0.mk (Kd.S_below (by (with_reducible repeat (first | apply Kd.S_alloc | apply Kd.S_drewN | apply Kd.S_drew)); exact HO229.out) hb); have n2_ := Aside0.mk (Kd.S_below (by (with_reducible repeat (first | apply Kd.S_alloc | apply Kd.S_drewN | apply Kd.S_drew)); exact HO232.out) hb); have n3_ := Aside0.mk (Kd.S_mono (ok' := fun k_ => lo4 ≤ k_ ∧ k_ < hi4) (Kd.S_lower (Kd.S_bound ho0) (below_size (by repeat (first | (with_reducible first | exact HB.out | apply below_alloc | apply pw_below_drewN | apply below_drew1) | exact HB.out)))) (fun k_ hk_ => by have a_ := hk_.2.1; have b_ := hk_.2.2.1; omega)); have n4_ := Aside0.mk (Nat.le_of_eq EH4.symm); have n5_ := Aside0.mk (below_step (by repeat (first | (with_reducible first | exact HB.out | apply below_alloc | apply pw_below_drewN | apply below_drew1) | exact HB.out)) hb); clear HO225; clear HO229; clear HO232; clear HTop; clear HB; have HO225 := n0_; have HO229 := n1_; have HO232 := n2_; have HO236 := n3_; have HTop := n4_; have HB := n5_; clear n0_ n1_ n2_ n3_ n4_ n5_; (try clear hb); (try clear hb2); (try clear hk); (try clear hi); (try clear ho0); (try clear EL4); (try clear EH4); (try clear LE4); obtain ⟨Ao37, co37, eo37⟩ := Kd.S_slice HO236.out; subst eo37; obtain ⟨Ao38, co38, eo38⟩ := Kd.S_slice HO229.out; subst eo38) | ((with_reducible refine gate_callee (f := 15) rfl ?_); refine goesL_ (some 38) rfl rfl Try.func15 (by kernel_rfl) rfl #[.slice Ao37 t233.length co37, .slice Ao38 t226.length co38] rfl (by (try simp only [List.map_toArray, List.map_cons, List.map_nil]); first | done | rfl | (simp only [List.length_drop, List.length_take]; rfl)) ?_; (with_reducible refine (laws_eqIntSS.calls k _ _ t233 _ _ t226 true _ ?side1 ?side2 ?side3 ?side4 A9.out).mono ?_); (case side1 => repeat (first | exact (Kd.S_reads' HO236.out).2.2 | (with_reducible refine Kd.C_alloc ?_ _) | (with_reducible refine Kd.C_drewN ?_ _) | (with_reducible refine Kd.C_drew ?_))); (case side2 => exact (Kd.S_reads' HO236.out).2.1); (case side3 => repeat (first | exact (Kd.S_reads' HO229.out).2.2 | (with_reducible refine Kd.C_alloc ?_ _) | (with_reducible refine Kd.C_drewN ?_ _) | (with_reducible refine Kd.C_drew ?_))); (case side4 => exact (Kd.S_reads' HO229.out).2.1); rintro e w' ⟨rfl, ⟨nd, rfl⟩⟩; refine ⟨_, rfl, ?_⟩) | ((with_reducible refine gate_callee (f := 13) rfl ?_); refine goesL_ (some 47) rfl rfl Try.func13 (by kernel_rfl) rfl #[.slice A1 l1.length c1] rfl (by (try simp only [List.map_toArray, List.map_cons, List.map_nil]); first | done | rfl | (simp only [List.length_drop, List.length_take]; rfl)) ?_; (with_reducible refine (laws_toIntSS.calls k _ _ l1 t238 _ ?side1 ?side2 A12.out).mono ?_); (case side1 => repeat (first | exact (Kd.C_below HR1.out (by repeat (first | (with_reducible first | exact HB.out | apply below_alloc | apply pw_below_drewN | apply below_drew1) | exact HB.out))) | (with_reducible refine Kd.C_alloc ?_ _) | (with_reducible refine Kd.C_drewN ?_ _) | (with_reducible refine Kd.C_drew ?_))); (case side2 => exact HC1.out); rintro e w39 ⟨v239, rfl, ho0, hb⟩; refine ⟨_, rfl, ?_⟩; obtain ⟨lo5, hi5, EL5, EH5, LE5⟩ := iv_ hb; have OR5 := Aside0.mk (show hi4 ≤ lo5 ∧ lo5 ≤ hi5 from ⟨Nat.le_trans HTop.out (Nat.le_of_eq EL5), LE5⟩); have n0_ := Aside0.mk (Kd.S_below (by (with_reducible repeat (first | apply Kd.S_alloc | apply Kd.S_drewN | apply Kd.S_drew)); exact HO225.out) hb); have n1_ := Aside0.mk (Kd.S_below (by (with_reducible repeat (first | apply Kd.S_alloc | apply Kd.S_drewN | apply Kd.S_drew)); exact HO229.out) hb); have n2_ := Aside0.mk (Kd.S_below (by (with_reducible repeat (first | apply Kd.S_alloc | apply Kd.S_drewN | apply Kd.S_drew)); exact HO232.out) hb); have n3_ := Aside0.mk (Kd.S_below (by (with_reducible repeat (first | apply Kd.S_alloc | apply Kd.S_drewN | apply Kd.S_drew)); exact HO236.out) hb); have n4_ := Aside0.mk (Kd.S_mono (ok' := fun k_ => lo5 ≤ k_ ∧ k_ < hi5) (Kd.S_lower (Kd.S_bound ho0) (below_size (by repeat (first | (with_reducible first | exact HB.out | apply below_alloc | apply pw_below_drewN | apply below_drew1) | exact HB.out)))) (fun k_ hk_ => by have a_ := hk_.2.1; have b_ := hk_.2.2.1; omega)); have n5_ := Aside0.mk (Nat.le_of_eq EH5.symm); have n6_ := Aside0.mk (below_step (by repeat (first | (with_reducible first | exact HB.out | apply below_alloc | apply pw_below_drewN | apply below_drew1) | exact HB.out)) hb); clear HO225; clear HO229; clear HO232; clear HO236; clear HTop; clear HB; have HO225 := n0_; have HO229 := n1_; have HO232 := n2_; have HO236 := n3_; have HO240 := n4_; have HTop := n5_; have HB := n6_; clear n0_ n1_ n2_ n3_ n4_ n5_ n6_; (try clear hb); (try clear hb2); (try clear hk); (try clear hi); (try clear ho0); (try clear EL5); (try clear EH5); (try clear LE5); obtain ⟨Ao40, co40, eo40⟩ := Kd.S_slice HO240.out; subst eo40) | ((with_reducible refine gate_callee (f := 15) rfl ?_); refine goesL_ (some 48) rfl rfl Try.func15 (by kernel_rfl) rfl #[.slice Ao35 t230.length co35, .slice Ao40 t238.length co40] rfl (by (try simp only [List.map_toArray, List.map_cons, List.map_nil]); first | done | rfl | (simp only [List.length_drop, List.length_take]; rfl)) ?_; (with_reducible refine (laws_eqIntSS.calls k _ _ t230 _ _ t238 true _ ?side1 ?side2 ?side3 ?side4 A13.out).mono ?_); (case side1 => repeat (first | exact (Kd.S_reads' HO232.out).2.2 | (with_reducible refine Kd.C_alloc ?_ _) | (with_reducible refine Kd.C_drewN ?_ _) | (with_reducible refine Kd.C_drew ?_))); (case side2 => exact (Kd.S_reads' HO232.out).2.1); (case side3 => repeat (first | exact (Kd.S_reads' HO240.out).2.2 | (with_reducible refine Kd.C_alloc ?_ _) | (with_reducible refine Kd.C_drewN ?_ _) | (with_reducible refine Kd.C_drew ?_))); (case side4 => exact (Kd.S_reads' HO240.out).2.1); rintro e w' ⟨rfl, ⟨nd, rfl⟩⟩; refine ⟨_, rfl, ?_⟩) | ((with_reducible refine gate_callee (f := 19) rfl ?_); refine goesL_ (some 52) rfl rfl Try.func19 (by kernel_rfl) rfl #[.slice Ao35 t230.length co35, .int .i64 1] rfl (by (try simp only [List.map_toArray, List.map_cons, List.map_nil]); first | done | rfl | (simp only [List.length_drop, List.length_take]; rfl)) ?_; (with_reducible refine (laws_markIntSS.calls k (fun k_ => lo3 ≤ k_ ∧ k_ < hi3) (.slice Ao35 t230.length co35) t230 1 t242 t243 w _ ?side1 ?side2 A15.out).mono ?_); (case side1 => repeat (first | (with_reducible first | exact HB.out | apply below_alloc | apply pw_below_drewN | apply below_drew1) | exact HB.out)); (case side2 => exact by (with_reducible repeat (first | apply Kd.S_alloc | apply Kd.S_drewN | apply Kd.S_drew)); exact HO232.out); rintro e w41 ⟨rfl, hy0, hb, hkp⟩; refine ⟨_, rfl, ?_⟩; have n0_ := Aside0.mk (Kd.S_kept (by (with_reducible repeat (first | apply Kd.S_alloc | apply Kd.S_drewN | apply Kd.S_drew)); exact HO225.out) hkp (fun k_ hk_ hs_ => by have a_ : lo1 ≤ k_ ∧ k_ < hi1 := hk_; have b_ : lo3 ≤ k_ ∧ k_ < hi3 := hs_; have z1_ := OR1.out; have z2_ := OR2.out; have z3_ := OR3.out; have z4_ := OR4.out; have z5_ := OR5.out; omega)); have n1_ := Aside0.mk (Kd.S_kept (by (with_reducible repeat (first | apply Kd.S_alloc | apply Kd.S_drewN | apply Kd.S_drew)); exact HO229.out) hkp (fun k_ hk_ hs_ => by have a_ : lo2 ≤ k_ ∧ k_ < hi2 := hk_; have b_ : lo3 ≤ k_ ∧ k_ < hi3 := hs_; have z1_ := OR1.out; have z2_ := OR2.out; have z3_ := OR3.out; have z4_ := OR4.out; have z5_ := OR5.out; omega)); have n2_ := Aside0.mk (hy0); have n3_ := Aside0.mk (Kd.S_kept (by (with_reducible repeat (first | apply Kd.S_alloc | apply Kd.S_drewN | apply Kd.S_drew)); exact HO236.out) hkp (fun k_ hk_ hs_ => by have a_ : lo4 ≤ k_ ∧ k_ < hi4 := hk_; have b_ : lo3 ≤ k_ ∧ k_ < hi3 := hs_; have z1_ := OR1.out; have z2_ := OR2.out; have z3_ := OR3.out; have z4_ := OR4.out; have z5_ := OR5.out; omega)); have n4_ := Aside0.mk (Kd.S_kept (by (with_reducible repeat (first | apply Kd.S_alloc | apply Kd.S_drewN | apply Kd.S_drew)); exact HO240.out) hkp (fun k_ hk_ hs_ => by have a_ : lo5 ≤ k_ ∧ k_ < hi5 := hk_; have b_ : lo3 ≤ k_ ∧ k_ < hi3 := hs_; have z1_ := OR1.out; have z2_ := OR2.out; have z3_ := OR3.out; have z4_ := OR4.out; have z5_ := OR5.out; omega)); have n5_ := Aside0.mk (Nat.le_trans HTop.out hkp.1); have n6_ := Aside0.mk (hb); clear HO225; clear HO229; clear HO232; clear HO236; clear HO240; clear HTop; clear HB; have HO225 := n0_; have HO229 := n1_; have HO232 := n2_; have HO236 := n3_; have HO240 := n4_; have HTop := n5_; have HB := n6_; clear n0_ n1_ n2_ n3_ n4_ n5_ n6_; (try clear hb); (try clear hkp); (try clear hy0)) | (go_at_call 15; (with_reducible refine (laws_eqIntSS.calls k _ _ t233 _ _ t226 true _ ?side1 ?side2 ?side3 ?side4 A17.out).mono ?_); (case side1 => repeat (first | exact (Kd.S_reads' HO236.out).2.2 | (with_reducible refine Kd.C_alloc ?_ _) | (with_reducible refine Kd.C_drewN ?_ _) | (with_reducible refine Kd.C_drew ?_))); (case side2 => exact (Kd.S_reads' HO236.out).2.1); (case side3 => repeat (first | exact (Kd.S_reads' HO229.out).2.2 | (with_reducible refine Kd.C_alloc ?_ _) | (with_reducible refine Kd.C_drewN ?_ _) | (with_reducible refine Kd.C_drew ?_))); (case side4 => exact (Kd.S_reads' HO229.out).2.1); rintro e w' ⟨rfl, ⟨nd, rfl⟩⟩) | ((with_reducible refine gate_callee (f := 19) rfl ?_); refine goesL_ (some 68) rfl rfl Try.func19 (by kernel_rfl) rfl #[.slice Ao37 t233.length co37, .int .i64 1] rfl (by (try simp only [List.map_toArray, List.map_cons, List.map_nil]); first | done | rfl | (simp only [List.length_drop, List.length_take]; rfl)) ?_; (with_reducible refine (laws_markIntSS.calls k (fun k_ => lo4 ≤ k_ ∧ k_ < hi4) (.slice Ao37 t233.length co37) t233 1 t245 t246 w _ ?side1 ?side2 A19.out).mono ?_); (case side1 => repeat (first | (with_reducible first | exact HB.out | apply below_alloc | apply pw_below_drewN | apply below_drew1) | exact HB.out)); (case side2 => exact by (with_reducible repeat (first | apply Kd.S_alloc | apply Kd.S_drewN | apply Kd.S_drew)); exact HO236.out); rintro e w42 ⟨rfl, hy0, hb, hkp⟩; refine ⟨_, rfl, ?_⟩; have n0_ := Aside0.mk (Kd.S_kept (by (with_reducible repeat (first | apply Kd.S_alloc | apply Kd.S_drewN | apply Kd.S_drew)); exact HO225.out) hkp (fun k_ hk_ hs_ => by have a_ : lo1 ≤ k_ ∧ k_ < hi1 := hk_; have b_ : lo4 ≤ k_ ∧ k_ < hi4 := hs_; have z1_ := OR1.out; have z2_ := OR2.out; have z3_ := OR3.out; have z4_ := OR4.out; have z5_ := OR5.out; omega)); have n1_ := Aside0.mk (Kd.S_kept (by (with_reducible repeat (first | apply Kd.S_alloc | apply Kd.S_drewN | apply Kd.S_drew)); exact HO229.out) hkp (fun k_ hk_ hs_ => by have a_ : lo2 ≤ k_ ∧ k_ < hi2 := hk_; have b_ : lo4 ≤ k_ ∧ k_ < hi4 := hs_; have z1_ := OR1.out; have z2_ := OR2.out; have z3_ := OR3.out; have z4_ := OR4.out; have z5_ := OR5.out; omega)); have n2_ := Aside0.mk (Kd.S_kept (by (with_reducible repeat (first | apply Kd.S_alloc | apply Kd.S_drewN | apply Kd.S_drew)); exact HO232.out) hkp (fun k_ hk_ hs_ => by have a_ : lo3 ≤ k_ ∧ k_ < hi3 := hk_; have b_ : lo4 ≤ k_ ∧ k_ < hi4 := hs_; have z1_ := OR1.out; have z2_ := OR2.out; have z3_ := OR3.out; have z4_ := OR4.out; have z5_ := OR5.out; omega)); have n3_ := Aside0.mk (hy0); have n4_ := Aside0.mk (Kd.S_kept (by (with_reducible repeat (first | apply Kd.S_alloc | apply Kd.S_drewN | apply Kd.S_drew)); exact HO240.out) hkp (fun k_ hk_ hs_ => by have a_ : lo5 ≤ k_ ∧ k_ < hi5 := hk_; have b_ : lo4 ≤ k_ ∧ k_ < hi4 := hs_; have z1_ := OR1.out; have z2_ := OR2.out; have z3_ := OR3.out; have z4_ := OR4.out; have z5_ := OR5.out; omega)); have n5_ := Aside0.mk (Nat.le_trans HTop.out hkp.1); have n6_ := Aside0.mk (hb); clear HO225; clear HO229; clear HO232; clear HO236; clear HO240; clear HTop; clear HB; have HO225 := n0_; have HO229 := n1_; have HO232 := n2_; have HO236 := n3_; have HO240 := n4_; have HTop := n5_; have HB := n6_; clear n0_ n1_ n2_ n3_ n4_ n5_ n6_; (try clear hb); (try clear hkp); (try clear hy0)) | ((with_reducible refine gate_callee (f := 27) rfl ?_); refine goesL_ (some 71) rfl rfl Try.func27 (by kernel_rfl) rfl #[.slice Ao37 t246.length co37, .int .i64 1] rfl (by (try simp only [List.map_toArray, List.map_cons, List.map_nil]); first | done | (rw [show t246.length = t233.length from (Kd.S_reads' HO236.out).1.symm] <;> rfl) | rfl | (simp only [List.length_drop, List.length_take]; rfl)) ?_; (with_reducible refine (laws_heldIntSS.calls k _ _ t246 1 t247 _ ?side1 ?side2 A20.out).mono ?_); (case side1 => repeat (first | exact (Kd.S_reads' HO236.out).2.2 | (with_reducible refine Kd.C_alloc ?_ _) | (with_reducible refine Kd.C_drewN ?_ _) | (with_reducible refine Kd.C_drew ?_))); (case side2 => rw [show t246.length = t233.length from (Kd.S_reads' HO236.out).1.symm]; exact (Kd.S_reads' HO236.out).2.1); rintro e w' ⟨rfl, ⟨nd, rfl⟩⟩; refine ⟨_, rfl, ?_⟩) | ((with_reducible refine gate_callee (f := 13) rfl ?_); refine goesL_ (some 80) rfl rfl Try.func13 (by kernel_rfl) rfl #[.slice A1 l1.length c1] rfl (by (try simp only [List.map_toArray, List.map_cons, List.map_nil]); first | done | rfl | (simp only [List.length_drop, List.length_take]; rfl)) ?_; (with_reducible refine (laws_toIntSS.calls k _ _ l1 t248 _ ?side1 ?side2 A23.out).mono ?_); (case side1 => repeat (first | exact (Kd.C_below HR1.out (by repeat (first | (with_reducible first | exact HB.out | apply below_alloc | apply pw_below_drewN | apply below_drew1) | exact HB.out))) | (with_reducible refine Kd.C_alloc ?_ _) | (with_reducible refine Kd.C_drewN ?_ _) | (with_reducible refine Kd.C_drew ?_))); (case side2 => exact HC1.out); rintro e w43 ⟨v249, rfl, ho0, hb⟩; refine ⟨_, rfl, ?_⟩; obtain ⟨lo6, hi6, EL6, EH6, LE6⟩ := iv_ hb; have OR6 := Aside0.mk (show hi5 ≤ lo6 ∧ lo6 ≤ hi6 from ⟨Nat.le_trans HTop.out (Nat.le_of_eq EL6), LE6⟩); have n0_ := Aside0.mk (Kd.S_below (by (with_reducible repeat (first | apply Kd.S_alloc | apply Kd.S_drewN | apply Kd.S_drew)); exact HO225.out) hb); have n1_ := Aside0.mk (Kd.S_below (by (with_reducible repeat (first | apply Kd.S_alloc | apply Kd.S_drewN | apply Kd.S_drew)); exact HO229.out) hb); have n2_ := Aside0.mk (Kd.S_below (by (with_reducible repeat (first | apply Kd.S_alloc | apply Kd.S_drewN | apply Kd.S_drew)); exact HO232.out) hb); have n3_ := Aside0.mk (Kd.S_below (by (with_reducible repeat (first | apply Kd.S_alloc | apply Kd.S_drewN | apply Kd.S_drew)); exact HO236.out) hb); have n4_ := Aside0.mk (Kd.S_below (by (with_reducible repeat (first | apply Kd.S_alloc | apply Kd.S_drewN | apply Kd.S_drew)); exact HO240.out) hb); have n5_ := Aside0.mk (Kd.S_mono (ok' := fun k_ => lo6 ≤ k_ ∧ k_ < hi6) (Kd.S_lower (Kd.S_bound ho0) (below_size (by repeat (first | (with_reducible first | exact HB.out | apply below_alloc | apply pw_below_drewN | apply below_drew1) | exact HB.out)))) (fun k_ hk_ => by have a_ := hk_.2.1; have b_ := hk_.2.2.1; omega)); have n6_ := Aside0.mk (Nat.le_of_eq EH6.symm); have n7_ := Aside0.mk (below_step (by repeat (first | (with_reducible first | exact HB.out | apply below_alloc | apply pw_below_drewN | apply below_drew1) | exact HB.out)) hb); clear HO225; clear HO229; clear HO232; clear HO236; clear HO240; clear HTop; clear HB; have HO225 := n0_; have HO229 := n1_; have HO232 := n2_; have HO236 := n3_; have HO240 := n4_; have HO250 := n5_; have HTop := n6_; have HB := n7_; clear n0_ n1_ n2_ n3_ n4_ n5_ n6_ n7_; (try clear hb); (try clear hb2); (try clear hk); (try clear hi); (try clear ho0); (try clear EL6); (try clear EH6); (try clear LE6); obtain ⟨Ao44, co44, eo44⟩ := Kd.S_slice HO250.out; subst eo44) | ((with_reducible refine gate_callee (f := 29) rfl ?_); refine goesL_ (some 81) rfl rfl Try.func29 (by kernel_rfl) rfl #[.int .i64 a0, .slice Ao44 t248.length co44] rfl (by (try simp only [List.map_toArray, List.map_cons, List.map_nil]); first | done | rfl | (simp only [List.length_drop, List.length_take]; rfl)) ?_; (with_reducible refine (impl_ProofOf.calls k a0 _ _ t248 t251 t252 _ ?side1 ?side2 A24.out).mono ?_); (case side1 => repeat (first | exact (Kd.S_reads' HO250.out).2.2 | (with_reducible refine Kd.C_alloc ?_ _) | (with_reducible refine Kd.C_drewN ?_ _) | (with_reducible refine Kd.C_drew ?_))); (case side2 => exact (Kd.S_reads' HO250.out).2.1); rintro e w45 ⟨v253, rfl, ho0, hb⟩; refine ⟨_, rfl, ?_⟩; obtain ⟨lo7, hi7, EL7, EH7, LE7⟩ := iv_ hb; have OR7 := Aside0.mk (show hi6 ≤ lo7 ∧ lo7 ≤ hi7 from ⟨Nat.le_trans HTop.out (Nat.le_of_eq EL7), LE7⟩); have n0_ := Aside0.mk (Kd.S_below (by (with_reducible repeat (first | apply Kd.S_alloc | apply Kd.S_drewN | apply Kd.S_drew)); exact HO225.out) hb); have n1_ := Aside0.mk (Kd.S_below (by (with_reducible repeat (first | apply Kd.S_alloc | apply Kd.S_drewN | apply Kd.S_drew)); exact HO229.out) hb); have n2_ := Aside0.mk (Kd.S_below (by (with_reducible repeat (first | apply Kd.S_alloc | apply Kd.S_drewN | apply Kd.S_drew)); exact HO232.out) hb); have n3_ := Aside0.mk (Kd.S_below (by (with_reducible repeat (first | apply Kd.S_alloc | apply Kd.S_drewN | apply Kd.S_drew)); exact HO236.out) hb); have n4_ := Aside0.mk (Kd.S_below (by (with_reducible repeat (first | apply Kd.S_alloc | apply Kd.S_drewN | apply Kd.S_drew)); exact HO240.out) hb); have n5_ := Aside0.mk (Kd.S_below (by (with_reducible repeat (first | apply Kd.S_alloc | apply Kd.S_drewN | apply Kd.S_drew)); exact HO250.out) hb); have n6_ := Aside0.mk (Kd.S_mono (ok' := fun k_ => lo7 ≤ k_ ∧ k_ < hi7) (Kd.S_lower (Kd.S_bound ho0) (below_size (by repeat (first | (with_reducible first | exact HB.out | apply below_alloc | apply pw_below_drewN | apply below_drew1) | exact HB.out)))) (fun k_ hk_ => by have a_ := hk_.2.1; have b_ := hk_.2.2.1; omega)); have n7_ := Aside0.mk (Nat.le_of_eq EH7.symm); have n8_ := Aside0.mk (below_step (by repeat (first | (with_reducible first | exact HB.out | apply below_alloc | apply pw_below_drewN | apply below_drew1) | exact HB.out)) hb); clear HO225; clear HO229; clear HO232; clear HO236; clear HO240; clear HO250; clear HTop; clear HB; have HO225 := n0_; have HO229 := n1_; have HO232 := n2_; have HO236 := n3_; have HO240 := n4_; have HO250 := n5_; have HO254 := n6_; have HTop := n7_; have HB := n8_; clear n0_ n1_ n2_ n3_ n4_ n5_ n6_ n7_ n8_; (try clear hb); (try clear hb2); (try clear hk); (try clear hi); (try clear ho0); (try clear EL7); (try clear EH7); (try clear LE7); obtain ⟨Ao46, co46, eo46⟩ := Kd.S_slice HO254.out; subst eo46) | ((with_reducible refine gate_callee (f := 15) rfl ?_); refine goesL_ (some 86) rfl rfl Try.func15 (by kernel_rfl) rfl #[.slice Ao46 t251.length co46, .slice Ao38 t226.length co38] rfl (by (try simp only [List.map_toArray, List.map_cons, List.map_nil]); first | done | rfl | (simp only [List.length_drop, List.length_take]; rfl)) ?_; (with_reducible refine (laws_eqIntSS.calls k _ _ t251 _ _ t226 true _ ?side1 ?side2 ?side3 ?side4 A25.out).mono ?_); (case side1 => repeat (first | exact (Kd.S_reads' HO254.out).2.2 | (with_reducible refine Kd.C_alloc ?_ _) | (with_reducible refine Kd.C_drewN ?_ _) | (with_reducible refine Kd.C_drew ?_))); (case side2 => exact (Kd.S_reads' HO254.out).2.1); (case side3 => repeat (first | exact (Kd.S_reads' HO229.out).2.2 | (with_reducible refine Kd.C_alloc ?_ _) | (with_reducible refine Kd.C_drewN ?_ _) | (with_reducible refine Kd.C_drew ?_))); (case side4 => exact (Kd.S_reads' HO229.out).2.1); rintro e w' ⟨rfl, ⟨nd, rfl⟩⟩; refine ⟨_, rfl, ?_⟩) | ((with_reducible refine gate_callee (f := 27) rfl ?_); refine goesL_ (some 95) rfl rfl Try.func27 (by kernel_rfl) rfl #[.slice Ao37 t246.length co37, .int .i64 1] rfl (by (try simp only [List.map_toArray, List.map_cons, List.map_nil]); first | done | (rw [show t246.length = t233.length from (Kd.S_reads' HO236.out).1.symm] <;> rfl) | rfl | (simp only [List.length_drop, List.length_take]; rfl)) ?_; (with_reducible refine (laws_heldIntSS.calls k _ _ t246 1 t256 _ ?side1 ?side2 A28.out).mono ?_); (case side1 => repeat (first | exact (Kd.S_reads' HO236.out).2.2 | (with_reducible refine Kd.C_alloc ?_ _) | (with_reducible refine Kd.C_drewN ?_ _) | (with_reducible refine Kd.C_drew ?_))); (case side2 => rw [show t246.length = t233.length from (Kd.S_reads' HO236.out).1.symm]; exact (Kd.S_reads' HO236.out).2.1); rintro e w' ⟨rfl, ⟨nd, rfl⟩⟩; refine ⟨_, rfl, ?_⟩))
                          go_ret
                          exact ⟨by first | rfl | (simp [errW_none, errW_some] <;> rfl) | (simp [*, errW_none, errW_some] <;> rfl), by repeat (first | (with_reducible first | exact HB.out | apply below_alloc | apply pw_below_drewN | apply below_drew1) | exact HB.out)⟩
                        · rw [if_neg c30] at H
                          exact absurd H (by simp)
                  · replace c26 := Bool.eq_false_iff.mpr c26
                    subst c26
                    have H1 : (none) = some r := by rw [if_neg (show ¬ (false = true) by decide)] at H; exact H
                    clear H
                    have H := H1
                    clear H1
                    exact absurd H (by simp)
                · rw [if_neg c22] at H
                  exact absurd H (by simp)
            · replace c18 := Bool.eq_false_iff.mpr c18
              subst c18
              have H1 : (none) = some r := by rw [if_neg (show ¬ (false = true) by decide)] at H; exact H
              clear H
              have H := H1
              clear H1
              exact absurd H (by simp)
        · replace c14 := Bool.eq_false_iff.mpr c14
          subst c14
          have H1 : (none) = some r := by rw [if_neg (show ¬ (false = true) by decide)] at H; exact H
          clear H
          have H := H1
          clear H1
          exact absurd H (by simp)
    · replace c10 := Bool.eq_false_iff.mpr c10
      subst c10
      have H1 : (none) = some r := by rw [if_neg (show ¬ (false = true) by decide)] at H; exact H
      clear H
      have H := H1
      clear H1
      exact absurd H (by simp)

/-- The one pure statement of laws_FnExactProofOf. -/
def laws_FnExactProofOf.Pure : Prop := ∀ (a0 : Int) (l1 : List (List Int)), (Lit.int .i64 a0).wf = true → (l1.length ≤ maxLen ∧ ∀ y_ ∈ l1, (y_.length ≤ maxLen ∧ ∀ z_ ∈ y_, (Lit.int .i64 z_).wf = true)) → ∃ k, laws_FnExactProofOf.f k a0 l1 = some true
theorem laws_FnExactProofOf.walk : True := trivial

end Go.Proofs.Ytafffpbagdoniaa.PFnExactProofOf
