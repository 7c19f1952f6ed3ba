-- Made by a program of this session (wip/tools), which leans on the kit's print: checked by Lean alone.
import Derived.Test.YtemgmpbionkjhaaPFnExactReducex0
import Derived.Test.YtemgmpbionkjhaaPFnExactReducex2
namespace Go.Proofs.Ytemgmpbionkjhaa.PFnExactReduce
open Go.RowKit Go.Proofs.YtemgmpbionkjhaaW.PrintWords Go.Proofs.YtemgmpbionkjhaaW.PrintLast Go.Proofs.YtemgmpbionkjhaaW.PrintMore
attribute [local go_sem] max2_int min2_int max_two min_two max_three min_three max_four min_four   -- for this text's walks alone
set_option linter.unusedVariables false
set_option linter.unusedSimpArgs false

/-! ### spec_l4Reduce: function 75 -/
mutual
def spec_l4Reduce.l0 : Nat → List Int → List (List Int) → List (List Int) → Int → Int → Option ((List (List Int)))
  | 0, _, _, _, _, _ => none
  | k + 1, x1, x5, x12, x13, x14 => if x14 < x13 then (if 0 ≤ x14 then (if x14 < (x12.length : Int) then (spec_l4Reduce.l1 k x1 x5 false ([] : List Int) x12 x13 x14 (rd_L1 x12 x14) ((rd_L1 x12 x14).length : Int) 0) else (none)) else (none)) else (some x5)
def spec_l4Reduce.l1 : Nat → List Int → List (List Int) → Bool → List Int → List (List Int) → Int → Int → List Int → Int → Int → Option ((List (List Int)))
  | 0, _, _, _, _, _, _, _, _, _, _ => none
  | k + 1, x1, x5, x8, x9, x12, x13, x14, x18, x19, x20 => if x20 < x19 then (if 0 ≤ x20 then (if x20 < (x18.length : Int) then (if x8 = true then ((spec_l1Has.f k x1 (wrap64 (-(rd x18 x20)))).bind fun t139 => (if t139 = true then (spec_l4Reduce.l1 k x1 x5 true x9 x12 x13 x14 x18 x19 (wrap64 (x20 + 1))) else (if x9.length < 17592186044416 then (spec_l4Reduce.l1 k x1 x5 true (x9 ++ [rd x18 x20]) x12 x13 x14 x18 x19 (wrap64 (x20 + 1))) else (none)))) else ((spec_l1Has.f k x1 (rd x18 x20)).bind fun t143 => ((spec_l1Has.f k x1 (wrap64 (-(rd x18 x20)))).bind fun t144 => (if t144 = true then (spec_l4Reduce.l1 k x1 x5 t143 x9 x12 x13 x14 x18 x19 (wrap64 (x20 + 1))) else (if x9.length < 17592186044416 then (spec_l4Reduce.l1 k x1 x5 t143 (x9 ++ [rd x18 x20]) x12 x13 x14 x18 x19 (wrap64 (x20 + 1))) else (none)))))) else (none)) else (none)) else (if x8 = true then (spec_l4Reduce.l0 k x1 x5 x12 x13 (wrap64 (x14 + 1))) else (if x5.length < 5864062014805 then (spec_l4Reduce.l0 k x1 (x5 ++ [x9]) x12 x13 (wrap64 (x14 + 1))) else (none)))
end
def spec_l4Reduce.f (k : Nat) (l0 : List (List Int)) (l1 : List Int) : Option ((List (List Int))) := spec_l4Reduce.l0 k l1 ([] : List (List Int)) l0 (l0.length : Int) 0
theorem spec_l4Reduce.mono_l : ∀ k, (∀ y0 y1 y2 y3 y4, LeO (spec_l4Reduce.l0 k y0 y1 y2 y3 y4) (spec_l4Reduce.l0 (k + 1) y0 y1 y2 y3 y4)) ∧ (∀ y0 y1 y2 y3 y4 y5 y6 y7 y8 y9, LeO (spec_l4Reduce.l1 k y0 y1 y2 y3 y4 y5 y6 y7 y8 y9) (spec_l4Reduce.l1 (k + 1) y0 y1 y2 y3 y4 y5 y6 y7 y8 y9))
  | 0 => ⟨fun _ _ _ _ _ r h => by simp [spec_l4Reduce.l0] at h, fun _ _ _ _ _ _ _ _ _ _ r h => by simp [spec_l4Reduce.l1] at h⟩
  | k + 1 => by
    obtain ⟨ih0, ih1⟩ := spec_l4Reduce.mono_l k
    refine ⟨?_, ?_⟩
    · intro y0 y1 y2 y3 y4
      unfold spec_l4Reduce.l0
      repeat' first
      | (with_reducible exact ih0 _ _ _ _ _)
      | (with_reducible exact ih1 _ _ _ _ _ _ _ _ _ _)
      | (with_reducible exact spec_l1Has.mono _ _ _)
      | (with_reducible exact LeO.refl _)
      | (with_reducible exact LeO.none _)
      | (with_reducible refine LeO.ite ?_ ?_)
      | (with_reducible refine LeO.bind ?_ (fun _ => ?_))
      | exact ih0 _ _ _ _ _
      | exact ih1 _ _ _ _ _ _ _ _ _ _
      | exact spec_l1Has.mono _ _ _
      | exact LeO.none _
      | refine LeO.ite ?_ ?_
      | refine LeO.bind ?_ (fun _ => ?_)
    · intro y0 y1 y2 y3 y4 y5 y6 y7 y8 y9
      unfold spec_l4Reduce.l1
      repeat' first
      | (with_reducible exact ih0 _ _ _ _ _)
      | (with_reducible exact ih1 _ _ _ _ _ _ _ _ _ _)
      | (with_reducible exact spec_l1Has.mono _ _ _)
      | (with_reducible exact LeO.refl _)
      | (with_reducible exact LeO.none _)
      | (with_reducible refine LeO.ite ?_ ?_)
      | (with_reducible refine LeO.bind ?_ (fun _ => ?_))
      | exact ih0 _ _ _ _ _
      | exact ih1 _ _ _ _ _ _ _ _ _ _
      | exact spec_l1Has.mono _ _ _
      | exact LeO.none _
      | refine LeO.ite ?_ ?_
      | refine LeO.bind ?_ (fun _ => ?_)
theorem spec_l4Reduce.mono : ∀ a0 a1 k, LeO (spec_l4Reduce.f k a0 a1) (spec_l4Reduce.f (k + 1) a0 a1) := by
  intro a0 a1 k
  obtain ⟨ih0, ih1⟩ := spec_l4Reduce.mono_l k
  unfold spec_l4Reduce.f
  repeat' first
      | (with_reducible exact ih0 _ _ _ _ _)
      | (with_reducible exact ih1 _ _ _ _ _ _ _ _ _ _)
      | (with_reducible exact spec_l1Has.mono _ _ _)
      | (with_reducible exact LeO.refl _)
      | (with_reducible exact LeO.none _)
      | (with_reducible refine LeO.ite ?_ ?_)
      | (with_reducible refine LeO.bind ?_ (fun _ => ?_))
      | exact ih0 _ _ _ _ _
      | exact ih1 _ _ _ _ _ _ _ _ _ _
      | exact spec_l1Has.mono _ _ _
      | exact LeO.none _
      | refine LeO.ite ?_ ?_
      | refine LeO.bind ?_ (fun _ => ?_)
set_option maxHeartbeats 8000000 in
set_option maxRecDepth 100000 in
theorem spec_l4Reduce.calls (k : Nat) (A0 : Option Addr) (c0 : Nat) (l0 : List (List Int)) (A1 : Option Addr) (c1 : Nat) (l1 : List Int) (r : List (List Int)) (w : World) (hr0 : Kd.C (Kd.slice 3 (Kd.int .i64)) w A0 l0.length l0) (hc0 : l0.length ≤ c0) (hr1 : Kd.C (Kd.int .i64) w A1 l1.length l1) (hc1 : l1.length ≤ c1) (h : spec_l4Reduce.f k l0 l1 = some r) :
    Calls Try.prog 75 #[.slice A0 l0.length c0, .slice A1 l1.length c1] w fun e w' => ∃ v0_ : Value, e = .returned (v0_) ∧ Kd.S (Kd.slice 3 (Kd.int .i64)) 27 w' w.heap.size (fun _ => True) v0_ r ∧ Below w.heap.size w w' := by
  have HR0 := Aside0.mk hr0
  have HC0 := Aside0.mk hc0
  clear hr0 hc0
  have HR1 := Aside0.mk hr1
  have HC1 := Aside0.mk hc1
  clear hr1 hc1
  have HB := Aside0.mk (Below.refl w.heap.size w)
  have H : (spec_l4Reduce.l0 k l1 ([] : List (List Int)) l0 (l0.length : Int) 0) = some r := h
  clear h
  have H' := Aside0.mk H
  clear H
  go_enter Try.func75, Try.ntmps75
  go_wp2
  go_loopg [5, 14] k (fun kq v5 v14 w' => ∃ (x5_1 : List (List Int)) (x14_1 : Int), v14 = .int .i64 x14_1 ∧ Aside0 (spec_l4Reduce.l0 kq l1 x5_1 l0 (l0.length : Int) x14_1 = some r) ∧ Aside0 (kq ≤ k) ∧ Aside0 (Kd.S (Kd.slice 3 (Kd.int .i64)) 27 w' w.heap.size (fun _ => True) v5 x5_1) ∧ Aside0 (Below w.heap.size w w'))
  case atStart => exact ⟨(([] : List (List Int))), (0), (by first | rfl | (simp; done) | (simp [*]; done)), H', ⟨Nat.le_refl _⟩, ⟨by first | exact Kd.S_nil _ _ _ _ _ | exact Kd.N_nil _ _ _ _ _ | exact Kd.V_nil _ _ _ _ _ | exact Kd.Q_nil _ _ _ _ _ | exact Kd.R_nil _ _ _ _ _⟩, ⟨by repeat (first | (with_reducible first | exact HB.out | apply below_alloc | apply pw_below_drewN | apply below_drew1) | exact HB.out)⟩⟩
  case round =>
    clear H'
    try clear c1
    try clear p2
    obtain ⟨x5_1, x14_1, rfl, HA, HK1, HO_5, HB⟩ := hrel
    cases gk with
    | zero => exact absurd HA.out (by simp [spec_l4Reduce.l0])
    | succ k1 =>
      have H := HA.out
      clear HA
      simp only [spec_l4Reduce.l0] at H
      by_cases c3 : x14_1 < (l0.length : Int)
      · rw [if_pos c3] at H
        have c3b0 : decide (x14_1 < (l0.length : Int)) = true := decide_eq_true c3
        clear c3
        by_cases c4 : 0 ≤ x14_1
        · rw [if_pos c4] at H
          have c4b0 : decide (0 ≤ x14_1) = true := decide_eq_true c4
          clear c4
          by_cases c5 : x14_1 < (l0.length : Int)
          · rw [if_pos c5] at H
            have c5b0 : decide (x14_1 < (l0.length : Int)) = true := decide_eq_true c5
            clear c5
            have H' := Aside0.mk H
            clear H
            have p134 : 0 ≤ (x14_1 : Int) := of_decide_eq_true (by first | (with_reducible assumption) | assumption)
            have q134 : x14_1 < (l0.length : Int) := of_decide_eq_true (by first | (with_reducible assumption) | assumption)
            obtain ⟨ad134, A134_0, c134_0, e134, hx134_0, hl134_0, hi134_0⟩ := at_L1 HR0.out x14_1 p134 q134
            cases e134
            replace hx134_0 := (HB.out.cell (World.block_lt_of_cell? w _ hx134_0)).trans hx134_0
            have HR134_0 := Aside0.mk hi134_0
            have HC134_0 := Aside0.mk hl134_0
            clear hi134_0 hl134_0
            replace p134 := eq_true p134
            replace q134 := eq_true q134
            go_wp2
            go_loopg [8, 9, 20] k1 (fun kq v8 v9 v20 w' => ∃ (x8_2 : Bool) (x9_2 : List Int) (x20_2 : Int), v8 = .bool x8_2 ∧ v20 = .int .i64 x20_2 ∧ Aside0 (spec_l4Reduce.l1 kq l1 x5_1 x8_2 x9_2 l0 (l0.length : Int) x14_1 (rd_L1 l0 x14_1) ((rd_L1 l0 x14_1).length : Int) x20_2 = some r) ∧ Aside0 (kq ≤ k1) ∧ Aside0 (Kd.S (Kd.slice 3 (Kd.int .i64)) 27 w' w.heap.size (fun k_ => some k_ ≠ (v9 : Value).ownBlock) u5 x5_1) ∧ Aside0 (Kd.R (Kd.int .i64) 3 w' w.heap.size (fun _ => True) v9 x9_2) ∧ Aside0 (Below w.heap.size w w'))
            case atStart => exact ⟨(false), (([] : List Int)), (0), (by first | rfl | (simp; done) | (simp [*]; done)), (by first | rfl | (simp; done) | (simp [*]; done)), H', ⟨Nat.le_refl _⟩, ⟨by (with_reducible repeat (first | apply Kd.S_alloc | apply Kd.S_drewN | apply Kd.S_drew)); exact Kd.S_mono HO_5.out (fun _ hk => (by simp [Value.ownBlock]))⟩, ⟨by first | exact Kd.R_nil _ _ _ _ _ | exact Kd.N_nil _ _ _ _ _ | exact Kd.V_nil _ _ _ _ _ | exact Kd.Q_nil _ _ _ _ _ | exact Kd.S_nil _ _ _ _ _⟩, ⟨by repeat (first | (with_reducible first | exact HB.out | apply below_alloc | apply pw_below_drewN | apply below_drew1) | exact HB.out)⟩⟩
            case round =>
              clear H'
              try clear c1
              try clear p1
              try clear q1
              try clear hx1
              try clear p2
              try clear c3
              try clear c3b0
              try clear c4
              try clear c4b0
              try clear c5
              try clear c5b0
              try clear hx134_0
              try clear p134
              try clear p2
              try clear q134
              obtain ⟨x8_2, x9_2, x20_2, rfl, rfl, HA, HK2, HO_5, HO_9, HB⟩ := hrel
              cases gk with
              | zero => exact absurd HA.out (by simp [spec_l4Reduce.l1])
              | succ k2 =>
                have H := HA.out
                clear HA
                simp only [spec_l4Reduce.l1] at H
                by_cases c6 : x20_2 < ((rd_L1 l0 x14_1).length : Int)
                · rw [if_pos c6] at H
                  have c6b0 : decide (x20_2 < ((rd_L1 l0 x14_1).length : Int)) = true := decide_eq_true c6
                  clear c6
                  by_cases c7 : 0 ≤ x20_2
                  · rw [if_pos c7] at H
                    have c7b0 : decide (0 ≤ x20_2) = true := decide_eq_true c7
                    clear c7
                    by_cases c8 : x20_2 < ((rd_L1 l0 x14_1).length : Int)
                    · rw [if_pos c8] at H
                      have c8b0 : decide (x20_2 < ((rd_L1 l0 x14_1).length : Int)) = true := decide_eq_true c8
                      clear c8
                      by_cases c9 : x8_2 = true
                      · subst c9
                        have H1 : ((spec_l1Has.f k2 l1 (wrap64 (-(rd (rd_L1 l0 x14_1) x20_2)))).bind fun t139 => (if t139 = true then (spec_l4Reduce.l1 k2 l1 x5_1 true x9_2 l0 (l0.length : Int) x14_1 (rd_L1 l0 x14_1) ((rd_L1 l0 x14_1).length : Int) (wrap64 (x20_2 + 1))) else (if x9_2.length < 17592186044416 then (spec_l4Reduce.l1 k2 l1 x5_1 true (x9_2 ++ [rd (rd_L1 l0 x14_1) x20_2]) l0 (l0.length : Int) x14_1 (rd_L1 l0 x14_1) ((rd_L1 l0 x14_1).length : Int) (wrap64 (x20_2 + 1))) else (none)))) = some r := by rw [if_pos rfl] at H; exact H
                        clear H
                        have H := H1
                        clear H1
                        replace H := Option.bind_eq_some_iff.mp H
                        obtain ⟨t139, A100, H⟩ := H
                        replace H : (if t139 = true then (spec_l4Reduce.l1 k2 l1 x5_1 true x9_2 l0 (l0.length : Int) x14_1 (rd_L1 l0 x14_1) ((rd_L1 l0 x14_1).length : Int) (wrap64 (x20_2 + 1))) else (if x9_2.length < 17592186044416 then (spec_l4Reduce.l1 k2 l1 x5_1 true (x9_2 ++ [rd (rd_L1 l0 x14_1) x20_2]) l0 (l0.length : Int) x14_1 (rd_L1 l0 x14_1) ((rd_L1 l0 x14_1).length : Int) (wrap64 (x20_2 + 1))) else (none))) = some r := H
                        have A10 := Aside0.mk A100
                        clear A100
                        by_cases c11 : t139 = true
                        · subst c11
                          have H1 : (spec_l4Reduce.l1 k2 l1 x5_1 true x9_2 l0 (l0.length : Int) x14_1 (rd_L1 l0 x14_1) ((rd_L1 l0 x14_1).length : Int) (wrap64 (x20_2 + 1))) = some r := by rw [if_pos rfl] at H; exact H
                          clear H
                          have H := H1
                          clear H1
                          have H' := Aside0.mk H
                          clear H
                          have p138 : 0 ≤ (x20_2 : Int) := of_decide_eq_true (by first | (with_reducible assumption) | assumption)
                          have q138 : x20_2 < ((rd_L1 l0 x14_1).length : Int) := of_decide_eq_true (by first | (with_reducible assumption) | assumption)
                          obtain ⟨ad138, e138, hx138_0⟩ := Kd.at_int HR134_0.out x20_2 p138 q138
                          cases e138
                          replace hx138_0 := (HB.out.cell (World.block_lt_of_cell? w _ hx138_0)).trans hx138_0
                          replace p138 := eq_true p138
                          replace q138 := eq_true q138
                          go_wp2_with (first | ((with_reducible refine gate_callee (f := 58) rfl ?_); refine goesL_ (some 33) rfl rfl Try.func58 (by kernel_rfl) rfl #[.slice A1 l1.length c1, .int .i64 (wrap64 (-(rd (rd_L1 l0 x14_1) x20_2)))] rfl (by (try simp only [List.map_toArray, List.map_cons, List.map_nil]); first | done | rfl | (simp only [List.length_drop, List.length_take]; rfl)) ?_; (with_reducible refine (spec_l1Has.calls k2 _ _ l1 (wrap64 (-(rd (rd_L1 l0 x14_1) x20_2))) true _ ?side1 ?side2 A10.out).mono ?_); (case side1 => repeat (first | exact (Kd.C_below HR1.out HB.out) | (with_reducible refine Kd.C_alloc ?_ _) | (with_reducible refine Kd.C_drewN ?_ _) | (with_reducible refine Kd.C_drew ?_))); (case side2 => exact HC1.out); rintro e w' ⟨rfl, ⟨nd, rfl⟩⟩; refine ⟨_, rfl, ?_⟩))
                          go_roundg k2
                          case measure => have := HK1.out; have := HK2.out; omega
                          case rel => exact ⟨(true), (x9_2), (wrap64 (x20_2 + 1)), (by first | rfl | (simp; done) | (simp [*]; done)), (by first | rfl | (simp; done) | (simp [*]; done)), H', ⟨by have := HK1.out; have := HK2.out; omega⟩, ⟨by (with_reducible repeat (first | apply Kd.S_alloc | apply Kd.S_drewN | apply Kd.S_drew)); exact HO_5.out⟩, ⟨by (with_reducible repeat (first | apply Kd.R_alloc | apply Kd.R_drewN | apply Kd.R_drew)); exact HO_9.out⟩, ⟨by repeat (first | (with_reducible first | exact HB.out | apply below_alloc | apply pw_below_drewN | apply below_drew1) | exact HB.out)⟩⟩
                        · replace c11 := Bool.eq_false_iff.mpr c11
                          subst c11
                          have H1 : (if x9_2.length < 17592186044416 then (spec_l4Reduce.l1 k2 l1 x5_1 true (x9_2 ++ [rd (rd_L1 l0 x14_1) x20_2]) l0 (l0.length : Int) x14_1 (rd_L1 l0 x14_1) ((rd_L1 l0 x14_1).length : Int) (wrap64 (x20_2 + 1))) else (none)) = some r := by rw [if_neg (show ¬ (false = true) by decide)] at H; exact H
                          clear H
                          have H := H1
                          clear H1
                          by_cases c12 : x9_2.length < 17592186044416
                          · rw [if_pos c12] at H
                            have LMc12 := Aside0.mk c12
                            clear c12
                            obtain ⟨y140, hy140⟩ : ∃ y_ : List Int, y_ = (x9_2 ++ [rd (rd_L1 l0 x14_1) x20_2]) := ⟨_, rfl⟩
                            replace H : (spec_l4Reduce.l1 k2 l1 x5_1 true y140 l0 (l0.length : Int) x14_1 (rd_L1 l0 x14_1) ((rd_L1 l0 x14_1).length : Int) (wrap64 (x20_2 + 1))) = some r := by first | (rw [hy140]; with_reducible exact H) | (have H2_ := (Option.bind_some _ _).symm.trans H; rw [hy140]; with_reducible exact H2_) | (have H2_ := (Option.bind_some _ _).symm.trans H; with_reducible exact H2_) | with_reducible exact H | (rw [hy140]; exact H) | exact H
                            have Ny140 := Aside0.mk hy140
                            clear hy140
                            have H' := Aside0.mk H
                            clear H
                            have p138 : 0 ≤ (x20_2 : Int) := of_decide_eq_true (by first | (with_reducible assumption) | assumption)
                            have q138 : x20_2 < ((rd_L1 l0 x14_1).length : Int) := of_decide_eq_true (by first | (with_reducible assumption) | assumption)
                            obtain ⟨ad138, e138, hx138_0⟩ := Kd.at_int HR134_0.out x20_2 p138 q138
                            cases e138
                            replace hx138_0 := (HB.out.cell (World.block_lt_of_cell? w _ hx138_0)).trans hx138_0
                            replace p138 := eq_true p138
                            replace q138 := eq_true q138
                            go_wp2_with (first | ((with_reducible refine gate_callee (f := 58) rfl ?_); refine goesL_ (some 33) rfl rfl Try.func58 (by kernel_rfl) rfl #[.slice A1 l1.length c1, .int .i64 (wrap64 (-(rd (rd_L1 l0 x14_1) x20_2)))] rfl (by (try simp only [List.map_toArray, List.map_cons, List.map_nil]); first | done | rfl | (simp only [List.length_drop, List.length_take]; rfl)) ?_; (with_reducible refine (spec_l1Has.calls k2 _ _ l1 (wrap64 (-(rd (rd_L1 l0 x14_1) x20_2))) false _ ?side1 ?side2 A10.out).mono ?_); (case side1 => repeat (first | exact (Kd.C_below HR1.out HB.out) | (with_reducible refine Kd.C_alloc ?_ _) | (with_reducible refine Kd.C_drewN ?_ _) | (with_reducible refine Kd.C_drew ?_))); (case side2 => exact HC1.out); rintro e w' ⟨rfl, ⟨nd, rfl⟩⟩; refine ⟨_, rfl, ?_⟩) | ((with_reducible refine gate_builtin (b := .append) (xs := #[.tmp 35, .tmp 37]) rfl ?_); at_builtin; refine Kd.R_append (Kd.int .i64) (w0 := w) w.heap.size rfl (.tmp 35) (.tmp 37) 27 3 (.int .i64 0) 8 rfl Try.underlying27 info3 rfl (by decide) (by omega) u9 x9_2 (rd (rd_L1 l0 x14_1) x20_2) [.int .i64 (rd (rd_L1 l0 x14_1) x20_2)] (fun _ => True) (fun _ => False) rfl rfl ?aP (fun _ hk => hk.elim) ?aF ?aO ?aB ?aS ?aL ?_; (case aP => exact rfl); (case aB => exact (by repeat (first | (with_reducible first | exact HB.out | apply below_alloc | apply pw_below_drewN | apply below_drew1) | exact HB.out))); (case aF => exact (fun _ _ => trivial)); (case aO => exact (by (with_reducible repeat (first | apply Kd.R_alloc | apply Kd.R_drewN | apply Kd.R_drew)); exact HO_9.out)); (case aS => exact (below_size (by repeat (first | (with_reducible first | exact HB.out | apply below_alloc | apply pw_below_drewN | apply below_drew1) | exact HB.out)))); (case aL => have := LMc12.out; omega); intro v141 w13 ho hb hg hat; rw [← Ny140.out] at ho; have n0_ := Aside0.mk (Kd.S_after (ok := (fun _ => True)) (by (with_reducible repeat (first | apply Kd.S_alloc | apply Kd.S_drewN | apply Kd.S_drew)); exact Kd.S_mono HO_5.out (fun _ hk => ⟨trivial, hk⟩)) hg hat); have n1_ := Aside0.mk (hb); have n2_ := Aside0.mk (ho); clear HO_5; clear HB; clear HO_9; have HO_5 := n0_; have HB := n1_; have HO142 := n2_; clear n0_ n1_ n2_; clear ho hb hg hat))
                            go_roundg k2
                            case measure => have := HK1.out; have := HK2.out; omega
                            case rel => exact ⟨(true), (y140), (wrap64 (x20_2 + 1)), (by first | rfl | (simp; done) | (simp [*]; done)), (by first | rfl | (simp; done) | (simp [*]; done)), H', ⟨by have := HK1.out; have := HK2.out; omega⟩, ⟨by (with_reducible repeat (first | apply Kd.S_alloc | apply Kd.S_drewN | apply Kd.S_drew)); exact Kd.S_mono HO_5.out (fun _ hk => hk.2)⟩, ⟨by (with_reducible repeat (first | apply Kd.R_alloc | apply Kd.R_drewN | apply Kd.R_drew)); exact HO142.out⟩, ⟨by repeat (first | (with_reducible first | exact HB.out | apply below_alloc | apply pw_below_drewN | apply below_drew1) | exact HB.out)⟩⟩
                          · rw [if_neg c12] at H
                            exact absurd H (by simp)
                      · replace c9 := Bool.eq_false_iff.mpr c9
                        subst c9
                        have H1 : ((spec_l1Has.f k2 l1 (rd (rd_L1 l0 x14_1) x20_2)).bind fun t143 => ((spec_l1Has.f k2 l1 (wrap64 (-(rd (rd_L1 l0 x14_1) x20_2)))).bind fun t144 => (if t144 = true then (spec_l4Reduce.l1 k2 l1 x5_1 t143 x9_2 l0 (l0.length : Int) x14_1 (rd_L1 l0 x14_1) ((rd_L1 l0 x14_1).length : Int) (wrap64 (x20_2 + 1))) else (if x9_2.length < 17592186044416 then (spec_l4Reduce.l1 k2 l1 x5_1 t143 (x9_2 ++ [rd (rd_L1 l0 x14_1) x20_2]) l0 (l0.length : Int) x14_1 (rd_L1 l0 x14_1) ((rd_L1 l0 x14_1).length : Int) (wrap64 (x20_2 + 1))) else (none))))) = some r := by rw [if_neg (show ¬ (false = true) by decide)] at H; exact H
                        clear H
                        have H := H1
                        clear H1
                        replace H := Option.bind_eq_some_iff.mp H
                        obtain ⟨t143, A140, H⟩ := H
                        replace H : ((spec_l1Has.f k2 l1 (wrap64 (-(rd (rd_L1 l0 x14_1) x20_2)))).bind fun t144 => (if t144 = true then (spec_l4Reduce.l1 k2 l1 x5_1 t143 x9_2 l0 (l0.length : Int) x14_1 (rd_L1 l0 x14_1) ((rd_L1 l0 x14_1).length : Int) (wrap64 (x20_2 + 1))) else (if x9_2.length < 17592186044416 then (spec_l4Reduce.l1 k2 l1 x5_1 t143 (x9_2 ++ [rd (rd_L1 l0 x14_1) x20_2]) l0 (l0.length : Int) x14_1 (rd_L1 l0 x14_1) ((rd_L1 l0 x14_1).length : Int) (wrap64 (x20_2 + 1))) else (none)))) = some r := H
                        have A14 := Aside0.mk A140
                        clear A140
                        replace H := Option.bind_eq_some_iff.mp H
                        obtain ⟨t144, A150, H⟩ := H
                        replace H : (if t144 = true then (spec_l4Reduce.l1 k2 l1 x5_1 t143 x9_2 l0 (l0.length : Int) x14_1 (rd_L1 l0 x14_1) ((rd_L1 l0 x14_1).length : Int) (wrap64 (x20_2 + 1))) else (if x9_2.length < 17592186044416 then (spec_l4Reduce.l1 k2 l1 x5_1 t143 (x9_2 ++ [rd (rd_L1 l0 x14_1) x20_2]) l0 (l0.length : Int) x14_1 (rd_L1 l0 x14_1) ((rd_L1 l0 x14_1).length : Int) (wrap64 (x20_2 + 1))) else (none))) = some r := H
                        have A15 := Aside0.mk A150
                        clear A150
                        by_cases c16 : t144 = true
                        · subst c16
                          have H1 : (spec_l4Reduce.l1 k2 l1 x5_1 t143 x9_2 l0 (l0.length : Int) x14_1 (rd_L1 l0 x14_1) ((rd_L1 l0 x14_1).length : Int) (wrap64 (x20_2 + 1))) = some r := by rw [if_pos rfl] at H; exact H
                          clear H
                          have H := H1
                          clear H1
                          have H' := Aside0.mk H
                          clear H
                          have p138 : 0 ≤ (x20_2 : Int) := of_decide_eq_true (by first | (with_reducible assumption) | assumption)
                          have q138 : x20_2 < ((rd_L1 l0 x14_1).length : Int) := of_decide_eq_true (by first | (with_reducible assumption) | assumption)
                          obtain ⟨ad138, e138, hx138_0⟩ := Kd.at_int HR134_0.out x20_2 p138 q138
                          cases e138
                          replace hx138_0 := (HB.out.cell (World.block_lt_of_cell? w _ hx138_0)).trans hx138_0
                          replace p138 := eq_true p138
                          replace q138 := eq_true q138
                          go_wp2_with (first | (go_at_call 58; (with_reducible refine (spec_l1Has.calls k2 _ _ l1 (rd (rd_L1 l0 x14_1) x20_2) t143 _ ?side1 ?side2 A14.out).mono ?_); (case side1 => repeat (first | exact (Kd.C_below HR1.out HB.out) | (with_reducible refine Kd.C_alloc ?_ _) | (with_reducible refine Kd.C_drewN ?_ _) | (with_reducible refine Kd.C_drew ?_))); (case side2 => exact HC1.out); rintro e w' ⟨rfl, ⟨nd, rfl⟩⟩) | ((with_reducible refine gate_callee (f := 58) rfl ?_); refine goesL_ (some 33) rfl rfl Try.func58 (by kernel_rfl) rfl #[.slice A1 l1.length c1, .int .i64 (wrap64 (-(rd (rd_L1 l0 x14_1) x20_2)))] rfl (by (try simp only [List.map_toArray, List.map_cons, List.map_nil]); first | done | rfl | (simp only [List.length_drop, List.length_take]; rfl)) ?_; (with_reducible refine (spec_l1Has.calls k2 _ _ l1 (wrap64 (-(rd (rd_L1 l0 x14_1) x20_2))) true _ ?side1 ?side2 A15.out).mono ?_); (case side1 => repeat (first | exact (Kd.C_below HR1.out (by repeat (first | (with_reducible first | exact HB.out | apply below_alloc | apply pw_below_drewN | apply below_drew1) | exact HB.out))) | (with_reducible refine Kd.C_alloc ?_ _) | (with_reducible refine Kd.C_drewN ?_ _) | (with_reducible refine Kd.C_drew ?_))); (case side2 => exact HC1.out); rintro e w' ⟨rfl, ⟨nd, rfl⟩⟩; refine ⟨_, rfl, ?_⟩))
                          go_roundg k2
                          case measure => have := HK1.out; have := HK2.out; omega
                          case rel => exact ⟨(t143), (x9_2), (wrap64 (x20_2 + 1)), (by first | rfl | (simp; done) | (simp [*]; done)), (by first | rfl | (simp; done) | (simp [*]; done)), H', ⟨by have := HK1.out; have := HK2.out; omega⟩, ⟨by (with_reducible repeat (first | apply Kd.S_alloc | apply Kd.S_drewN | apply Kd.S_drew)); exact HO_5.out⟩, ⟨by (with_reducible repeat (first | apply Kd.R_alloc | apply Kd.R_drewN | apply Kd.R_drew)); exact HO_9.out⟩, ⟨by repeat (first | (with_reducible first | exact HB.out | apply below_alloc | apply pw_below_drewN | apply below_drew1) | exact HB.out)⟩⟩
                        · replace c16 := Bool.eq_false_iff.mpr c16
                          subst c16
                          have H1 : (if x9_2.length < 17592186044416 then (spec_l4Reduce.l1 k2 l1 x5_1 t143 (x9_2 ++ [rd (rd_L1 l0 x14_1) x20_2]) l0 (l0.length : Int) x14_1 (rd_L1 l0 x14_1) ((rd_L1 l0 x14_1).length : Int) (wrap64 (x20_2 + 1))) else (none)) = some r := by rw [if_neg (show ¬ (false = true) by decide)] at H; exact H
                          clear H
                          have H := H1
                          clear H1
                          by_cases c17 : x9_2.length < 17592186044416
                          · rw [if_pos c17] at H
                            have LMc17 := Aside0.mk c17
                            clear c17
                            obtain ⟨y145, hy145⟩ : ∃ y_ : List Int, y_ = (x9_2 ++ [rd (rd_L1 l0 x14_1) x20_2]) := ⟨_, rfl⟩
                            replace H : (spec_l4Reduce.l1 k2 l1 x5_1 t143 y145 l0 (l0.length : Int) x14_1 (rd_L1 l0 x14_1) ((rd_L1 l0 x14_1).length : Int) (wrap64 (x20_2 + 1))) = some r := by first | (rw [hy145]; with_reducible exact H) | (have H2_ := (Option.bind_some _ _).symm.trans H; rw [hy145]; with_reducible exact H2_) | (have H2_ := (Option.bind_some _ _).symm.trans H; with_reducible exact H2_) | with_reducible exact H | (rw [hy145]; exact H) | exact H
                            have Ny145 := Aside0.mk hy145
                            clear hy145
                            have H' := Aside0.mk H
                            clear H
                            have p138 : 0 ≤ (x20_2 : Int) := of_decide_eq_true (by first | (with_reducible assumption) | assumption)
                            have q138 : x20_2 < ((rd_L1 l0 x14_1).length : Int) := of_decide_eq_true (by first | (with_reducible assumption) | assumption)
                            obtain ⟨ad138, e138, hx138_0⟩ := Kd.at_int HR134_0.out x20_2 p138 q138
                            cases e138
                            replace hx138_0 := (HB.out.cell (World.block_lt_of_cell? w _ hx138_0)).trans hx138_0
                            replace p138 := eq_true p138
                            replace q138 := eq_true q138
                            go_wp2_with (first | (go_at_call 58; (with_reducible refine (spec_l1Has.calls k2 _ _ l1 (rd (rd_L1 l0 x14_1) x20_2) t143 _ ?side1 ?side2 A14.out).mono ?_); (case side1 => repeat (first | exact (Kd.C_below HR1.out HB.out) | (with_reducible refine Kd.C_alloc ?_ _) | (with_reducible refine Kd.C_drewN ?_ _) | (with_reducible refine Kd.C_drew ?_))); (case side2 => exact HC1.out); rintro e w' ⟨rfl, ⟨nd, rfl⟩⟩) | ((with_reducible refine gate_callee (f := 58) rfl ?_); refine goesL_ (some 33) rfl rfl Try.func58 (by kernel_rfl) rfl #[.slice A1 l1.length c1, .int .i64 (wrap64 (-(rd (rd_L1 l0 x14_1) x20_2)))] rfl (by (try simp only [List.map_toArray, List.map_cons, List.map_nil]); first | done | rfl | (simp only [List.length_drop, List.length_take]; rfl)) ?_; (with_reducible refine (spec_l1Has.calls k2 _ _ l1 (wrap64 (-(rd (rd_L1 l0 x14_1) x20_2))) false _ ?side1 ?side2 A15.out).mono ?_); (case side1 => repeat (first | exact (Kd.C_below HR1.out (by repeat (first | (with_reducible first | exact HB.out | apply below_alloc | apply pw_below_drewN | apply below_drew1) | exact HB.out))) | (with_reducible refine Kd.C_alloc ?_ _) | (with_reducible refine Kd.C_drewN ?_ _) | (with_reducible refine Kd.C_drew ?_))); (case side2 => exact HC1.out); rintro e w' ⟨rfl, ⟨nd, rfl⟩⟩; refine ⟨_, rfl, ?_⟩) | ((with_reducible refine gate_builtin (b := .append) (xs := #[.tmp 35, .tmp 37]) rfl ?_); at_builtin; refine Kd.R_append (Kd.int .i64) (w0 := w) w.heap.size rfl (.tmp 35) (.tmp 37) 27 3 (.int .i64 0) 8 rfl Try.underlying27 info3 rfl (by decide) (by omega) u9 x9_2 (rd (rd_L1 l0 x14_1) x20_2) [.int .i64 (rd (rd_L1 l0 x14_1) x20_2)] (fun _ => True) (fun _ => False) rfl rfl ?aP (fun _ hk => hk.elim) ?aF ?aO ?aB ?aS ?aL ?_; (case aP => exact rfl); (case aB => exact (by repeat (first | (with_reducible first | exact HB.out | apply below_alloc | apply pw_below_drewN | apply below_drew1) | exact HB.out))); (case aF => exact (fun _ _ => trivial)); (case aO => exact (by (with_reducible repeat (first | apply Kd.R_alloc | apply Kd.R_drewN | apply Kd.R_drew)); exact HO_9.out)); (case aS => exact (below_size (by repeat (first | (with_reducible first | exact HB.out | apply below_alloc | apply pw_below_drewN | apply below_drew1) | exact HB.out)))); (case aL => have := LMc17.out; omega); intro v146 w18 ho hb hg hat; rw [← Ny145.out] at ho; have n0_ := Aside0.mk (Kd.S_after (ok := (fun _ => True)) (by (with_reducible repeat (first | apply Kd.S_alloc | apply Kd.S_drewN | apply Kd.S_drew)); exact Kd.S_mono HO_5.out (fun _ hk => ⟨trivial, hk⟩)) hg hat); have n1_ := Aside0.mk (hb); have n2_ := Aside0.mk (ho); clear HO_5; clear HB; clear HO_9; have HO_5 := n0_; have HB := n1_; have HO147 := n2_; clear n0_ n1_ n2_; clear ho hb hg hat))
                            go_roundg k2
                            case measure => have := HK1.out; have := HK2.out; omega
                            case rel => exact ⟨(t143), (y145), (wrap64 (x20_2 + 1)), (by first | rfl | (simp; done) | (simp [*]; done)), (by first | rfl | (simp; done) | (simp [*]; done)), H', ⟨by have := HK1.out; have := HK2.out; omega⟩, ⟨by (with_reducible repeat (first | apply Kd.S_alloc | apply Kd.S_drewN | apply Kd.S_drew)); exact Kd.S_mono HO_5.out (fun _ hk => hk.2)⟩, ⟨by (with_reducible repeat (first | apply Kd.R_alloc | apply Kd.R_drewN | apply Kd.R_drew)); exact HO147.out⟩, ⟨by repeat (first | (with_reducible first | exact HB.out | apply below_alloc | apply pw_below_drewN | apply below_drew1) | exact HB.out)⟩⟩
                          · rw [if_neg c17] at H
                            exact absurd H (by simp)
                    · rw [if_neg c8] at H
                      exact absurd H (by simp)
                  · rw [if_neg c7] at H
                    exact absurd H (by simp)
                · rw [if_neg c6] at H
                  have c6b0 : decide (x20_2 < ((rd_L1 l0 x14_1).length : Int)) = false := decide_eq_false c6
                  clear c6
                  by_cases c19 : x8_2 = true
                  · subst c19
                    have H1 : (spec_l4Reduce.l0 k2 l1 x5_1 l0 (l0.length : Int) (wrap64 (x14_1 + 1))) = some r := by rw [if_pos rfl] at H; exact H
                    clear H
                    have H := H1
                    clear H1
                    have H' := Aside0.mk H
                    clear H
                    go_wp2
                    go_roundg k2
                    case measure => have := HK1.out; have := HK2.out; omega
                    case rel => exact ⟨(x5_1), (wrap64 (x14_1 + 1)), (by first | rfl | (simp; done) | (simp [*]; done)), H', ⟨by have := HK1.out; have := HK2.out; omega⟩, ⟨by (with_reducible repeat (first | apply Kd.S_alloc | apply Kd.S_drewN | apply Kd.S_drew)); exact Kd.S_mono HO_5.out (fun _ hk => trivial)⟩, ⟨by repeat (first | (with_reducible first | exact HB.out | apply below_alloc | apply pw_below_drewN | apply below_drew1) | exact HB.out)⟩⟩
                  · replace c19 := Bool.eq_false_iff.mpr c19
                    subst c19
                    have H1 : (if x5_1.length < 5864062014805 then (spec_l4Reduce.l0 k2 l1 (x5_1 ++ [x9_2]) l0 (l0.length : Int) (wrap64 (x14_1 + 1))) else (none)) = some r := by rw [if_neg (show ¬ (false = true) by decide)] at H; exact H
                    clear H
                    have H := H1
                    clear H1
                    by_cases c20 : x5_1.length < 5864062014805
                    · rw [if_pos c20] at H
                      have LMc20 := Aside0.mk c20
                      clear c20
                      obtain ⟨y135, hy135⟩ : ∃ y_ : List (List Int), y_ = (x5_1 ++ [x9_2]) := ⟨_, rfl⟩
                      replace H : (spec_l4Reduce.l0 k2 l1 y135 l0 (l0.length : Int) (wrap64 (x14_1 + 1))) = some r := by first | (rw [hy135]; with_reducible exact H) | (have H2_ := (Option.bind_some _ _).symm.trans H; rw [hy135]; with_reducible exact H2_) | (have H2_ := (Option.bind_some _ _).symm.trans H; with_reducible exact H2_) | with_reducible exact H | (rw [hy135]; exact H) | exact H
                      have Ny135 := Aside0.mk hy135
                      clear hy135
                      have H' := Aside0.mk H
                      clear H
                      obtain ⟨Ao22, co22, eo22⟩ := Kd.R_slice HO_9.out
                      subst eo22
                      go_wp2_with (first | ((with_reducible refine gate_builtin (b := .append) (xs := #[.tmp 42, .tmp 44]) rfl ?_); at_builtin; refine Kd.S_append (Kd.slice 3 (Kd.int .i64)) (w0 := w) w.heap.size rfl (.tmp 42) (.tmp 44) 22 27 (.slice none 0 0) 24 rfl Try.underlying22 info27 rfl (by decide) (by omega) u5 x5_1 x9_2 [.slice Ao22 x9_2.length co22] (fun _ => True) (fun k_ => some k_ = (.slice Ao22 x9_2.length co22 : Value).ownBlock) rfl rfl ?aP (fun k_ hk_ => ((Kd.R_mono (ok' := fun k_ => ((fun _ => True)) k_ ∧ some k_ ≠ (u5 : Value).ownBlock) (Kd.R_apart' (HO_9.out) (Kd.S_typed HO_5.out) (by decide)) (fun k_ hk => ⟨trivial, hk.2⟩))).1 k_ hk_.symm) ?aF ?aO ?aB ?aS ?aL ?_; (case aP => exact Kd.M_row (Kd.R_mono (Kd.R_tight rfl (Kd.R_mono (ok' := fun k_ => ((fun _ => True)) k_ ∧ some k_ ≠ (u5 : Value).ownBlock) (Kd.R_apart' (HO_9.out) (Kd.S_typed HO_5.out) (by decide)) (fun k_ hk => ⟨trivial, hk.2⟩))) (fun _ h_ => h_))); (case aB => exact (by repeat (first | (with_reducible first | exact HB.out | apply below_alloc | apply pw_below_drewN | apply below_drew1) | exact HB.out))); (case aF => exact (fun _ _ => trivial)); (case aO => exact (by (with_reducible repeat (first | apply Kd.S_alloc | apply Kd.S_drewN | apply Kd.S_drew)); exact Kd.S_mono HO_5.out (fun k_ hk => ⟨trivial, fun e_ => hk e_⟩))); (case aS => exact (below_size (by repeat (first | (with_reducible first | exact HB.out | apply below_alloc | apply pw_below_drewN | apply below_drew1) | exact HB.out)))); (case aL => have := LMc20.out; omega); intro v136 w21 ho hb hg hat; rw [← Ny135.out] at ho; have n0_ := Aside0.mk (hb); have n1_ := Aside0.mk (ho); clear HB; clear HO_5; clear HO_9; have HB := n0_; have HO137 := n1_; clear n0_ n1_; clear ho hb hg hat))
                      go_roundg k2
                      case measure => have := HK1.out; have := HK2.out; omega
                      case rel => exact ⟨(y135), (wrap64 (x14_1 + 1)), (by first | rfl | (simp; done) | (simp [*]; done)), H', ⟨by have := HK1.out; have := HK2.out; omega⟩, ⟨by (with_reducible repeat (first | apply Kd.S_alloc | apply Kd.S_drewN | apply Kd.S_drew)); exact HO137.out⟩, ⟨by repeat (first | (with_reducible first | exact HB.out | apply below_alloc | apply pw_below_drewN | apply below_drew1) | exact HB.out)⟩⟩
                    · rw [if_neg c20] at H
                      exact absurd H (by simp)
          · rw [if_neg c5] at H
            exact absurd H (by simp)
        · rw [if_neg c4] at H
          exact absurd H (by simp)
      · rw [if_neg c3] at H
        have c3b0 : decide (x14_1 < (l0.length : Int)) = false := decide_eq_false c3
        clear c3
        obtain rfl := Option.some.inj H
        go_wp2
        go_ret
        exact ⟨_, by first | rfl | (simp [errW_none, errW_some] <;> rfl) | (simp [*, errW_none, errW_some] <;> rfl), by (with_reducible repeat (first | apply Kd.S_alloc | apply Kd.S_drewN | apply Kd.S_drew)); exact HO_5.out, by repeat (first | (with_reducible first | exact HB.out | apply below_alloc | apply pw_below_drewN | apply below_drew1) | exact HB.out)⟩

/-! ### spec_Reduce: function 37 -/
def spec_Reduce.f (k : Nat) (a0 : Int) (l1 : List (List Int)) (l2 : List Int) : Option ((List (List Int)) × Bool) := (spec_GoodClauses.f k a0 l1).bind fun t148 => (if t148 = true then ((spec_l4Given.f k a0 l2).bind fun t149 => (if t149 = true then ((spec_l4Reduce.f k l1 l2).bind fun t150 => (some (t150, true))) else (some (([] : List (List Int)), false)))) else (some (([] : List (List Int)), false)))
theorem spec_Reduce.mono : ∀ a0 a1 a2 k, LeO (spec_Reduce.f k a0 a1 a2) (spec_Reduce.f (k + 1) a0 a1 a2) := by
  intro a0 a1 a2 k
  unfold spec_Reduce.f
  repeat' first
      | (with_reducible exact spec_GoodClauses.mono _ _ _)
      | (with_reducible exact spec_l4Given.mono _ _ _)
      | (with_reducible exact spec_l4Reduce.mono _ _ _)
      | (with_reducible exact LeO.refl _)
      | (with_reducible exact LeO.none _)
      | (with_reducible refine LeO.ite ?_ ?_)
      | (with_reducible refine LeO.bind ?_ (fun _ => ?_))
      | exact spec_GoodClauses.mono _ _ _
      | exact spec_l4Given.mono _ _ _
      | exact spec_l4Reduce.mono _ _ _
      | exact LeO.none _
      | refine LeO.ite ?_ ?_
      | refine LeO.bind ?_ (fun _ => ?_)
set_option maxHeartbeats 8000000 in
set_option maxRecDepth 100000 in
theorem spec_Reduce.calls (k : Nat) (a0 : Int) (A1 : Option Addr) (c1 : Nat) (l1 : List (List Int)) (A2 : Option Addr) (c2 : Nat) (l2 : List Int) (r1 : List (List Int)) (r2 : Bool) (w : World) (hr1 : Kd.C (Kd.slice 3 (Kd.int .i64)) w A1 l1.length l1) (hc1 : l1.length ≤ c1) (hr2 : Kd.C (Kd.int .i64) w A2 l2.length l2) (hc2 : l2.length ≤ c2) (h : spec_Reduce.f k a0 l1 l2 = some (r1, r2)) :
    Calls Try.prog 37 #[.int .i64 a0, .slice A1 l1.length c1, .slice A2 l2.length c2] w fun e w' => ∃ v0_ : Value, e = .returned (.tuple #[v0_, .bool r2]) ∧ Kd.S (Kd.slice 3 (Kd.int .i64)) 27 w' w.heap.size (fun _ => True) v0_ r1 ∧ Below w.heap.size w w' := by
  have HR1 := Aside0.mk hr1
  have HC1 := Aside0.mk hc1
  clear hr1 hc1
  have HR2 := Aside0.mk hr2
  have HC2 := Aside0.mk hc2
  clear hr2 hc2
  have HB := Aside0.mk (Below.refl w.heap.size w)
  have H : ((spec_GoodClauses.f k a0 l1).bind fun t148 => (if t148 = true then ((spec_l4Given.f k a0 l2).bind fun t149 => (if t149 = true then ((spec_l4Reduce.f k l1 l2).bind fun t150 => (some (t150, true))) else (some (([] : List (List Int)), false)))) else (some (([] : List (List Int)), false)))) = some (r1, r2) := h
  clear h
  replace H := Option.bind_eq_some_iff.mp H
  obtain ⟨t148, A40, H⟩ := H
  replace H : (if t148 = true then ((spec_l4Given.f k a0 l2).bind fun t149 => (if t149 = true then ((spec_l4Reduce.f k l1 l2).bind fun t150 => (some (t150, true))) else (some (([] : List (List Int)), false)))) else (some (([] : List (List Int)), false))) = some (r1, r2) := H
  have A4 := Aside0.mk A40
  clear A40
  by_cases c5 : t148 = true
  · subst c5
    have H1 : ((spec_l4Given.f k a0 l2).bind fun t149 => (if t149 = true then ((spec_l4Reduce.f k l1 l2).bind fun t150 => (some (t150, true))) else (some (([] : List (List Int)), false)))) = some (r1, r2) := by rw [if_pos rfl] at H; exact H
    clear H
    have H := H1
    clear H1
    replace H := Option.bind_eq_some_iff.mp H
    obtain ⟨t149, A60, H⟩ := H
    replace H : (if t149 = true then ((spec_l4Reduce.f k l1 l2).bind fun t150 => (some (t150, true))) else (some (([] : List (List Int)), false))) = some (r1, r2) := H
    have A6 := Aside0.mk A60
    clear A60
    by_cases c7 : t149 = true
    · subst c7
      have H1 : ((spec_l4Reduce.f k l1 l2).bind fun t150 => (some (t150, true))) = some (r1, r2) := by rw [if_pos rfl] at H; exact H
      clear H
      have H := H1
      clear H1
      replace H := Option.bind_eq_some_iff.mp H
      obtain ⟨t150, A80, H⟩ := H
      replace H : (some (t150, true)) = some (r1, r2) := H
      have A8 := Aside0.mk A80
      clear A80
      simp only [Option.some.injEq, Prod.mk.injEq] at H
      obtain ⟨rfl, rfl⟩ := H
      go_enter Try.func37, Try.ntmps37
      go_wp2_with (first | ((with_reducible refine gate_callee (f := 16) rfl ?_); refine goesL_ (some 10) rfl rfl Try.func16 (by kernel_rfl) rfl #[.int .i64 a0, .slice A1 l1.length c1] rfl (by (try simp only [List.map_toArray, List.map_cons, List.map_nil]); first | done | rfl | (simp only [List.length_drop, List.length_take]; rfl)) ?_; (with_reducible refine (spec_GoodClauses.calls k a0 _ _ l1 true _ ?side1 ?side2 A4.out).mono ?_); (case side1 => repeat (first | exact HR1.out | (with_reducible refine Kd.C_alloc ?_ _) | (with_reducible refine Kd.C_drewN ?_ _) | (with_reducible refine Kd.C_drew ?_))); (case side2 => exact HC1.out); rintro e w' ⟨rfl, ⟨nd, rfl⟩⟩; refine ⟨_, rfl, ?_⟩) | (go_at_call 74; (with_reducible refine (spec_l4Given.calls k a0 _ _ l2 true _ ?side1 ?side2 A6.out).mono ?_); (case side1 => repeat (first | exact HR2.out | (with_reducible refine Kd.C_alloc ?_ _) | (with_reducible refine Kd.C_drewN ?_ _) | (with_reducible refine Kd.C_drew ?_))); (case side2 => exact HC2.out); rintro e w' ⟨rfl, ⟨nd, rfl⟩⟩) | ((with_reducible refine gate_callee (f := 75) rfl ?_); refine goesL_ (some 20) rfl rfl Try.func75 (by kernel_rfl) rfl #[.slice A1 l1.length c1, .slice A2 l2.length c2] rfl (by (try simp only [List.map_toArray, List.map_cons, List.map_nil]); first | done | rfl | (simp only [List.length_drop, List.length_take]; rfl)) ?_; (with_reducible refine (spec_l4Reduce.calls k _ _ l1 _ _ l2 t150 _ ?side1 ?side2 ?side3 ?side4 A8.out).mono ?_); (case side1 => repeat (first | exact HR1.out | (with_reducible refine Kd.C_alloc ?_ _) | (with_reducible refine Kd.C_drewN ?_ _) | (with_reducible refine Kd.C_drew ?_))); (case side2 => exact HC1.out); (case side3 => repeat (first | exact HR2.out | (with_reducible refine Kd.C_alloc ?_ _) | (with_reducible refine Kd.C_drewN ?_ _) | (with_reducible refine Kd.C_drew ?_))); (case side4 => exact HC2.out); rintro e w9 ⟨v151, rfl, ho0, hb⟩; refine ⟨_, rfl, ?_⟩; have n0_ := Aside0.mk (Kd.S_lower ho0 (below_size (by repeat (first | (with_reducible first | exact HB.out | apply below_alloc | apply pw_below_drewN | apply below_drew1) | exact HB.out)))); have n1_ := Aside0.mk (below_step (by repeat (first | (with_reducible first | exact HB.out | apply below_alloc | apply pw_below_drewN | apply below_drew1) | exact HB.out)) hb); clear HB; have HO152 := n0_; have HB := n1_; clear n0_ n1_; (try clear hb); (try clear hb2); (try clear hk); (try clear hi); (try clear ho0)))
      go_ret2
      exact ⟨_, by first | rfl | (simp [errW_none, errW_some] <;> rfl) | (simp [*, errW_none, errW_some] <;> rfl), by (with_reducible repeat (first | apply Kd.S_alloc | apply Kd.S_drewN | apply Kd.S_drew)); exact HO152.out, by repeat (first | (with_reducible first | exact HB.out | apply below_alloc | apply pw_below_drewN | apply below_drew1) | exact HB.out)⟩
    · replace c7 := Bool.eq_false_iff.mpr c7
      subst c7
      have H1 : (some (([] : List (List Int)), false)) = some (r1, r2) := by rw [if_neg (show ¬ (false = true) by decide)] at H; exact H
      clear H
      have H := H1
      clear H1
      simp only [Option.some.injEq, Prod.mk.injEq] at H
      obtain ⟨rfl, rfl⟩ := H
      go_enter Try.func37, Try.ntmps37
      go_wp2_with (first | ((with_reducible refine gate_callee (f := 16) rfl ?_); refine goesL_ (some 10) rfl rfl Try.func16 (by kernel_rfl) rfl #[.int .i64 a0, .slice A1 l1.length c1] rfl (by (try simp only [List.map_toArray, List.map_cons, List.map_nil]); first | done | rfl | (simp only [List.length_drop, List.length_take]; rfl)) ?_; (with_reducible refine (spec_GoodClauses.calls k a0 _ _ l1 true _ ?side1 ?side2 A4.out).mono ?_); (case side1 => repeat (first | exact HR1.out | (with_reducible refine Kd.C_alloc ?_ _) | (with_reducible refine Kd.C_drewN ?_ _) | (with_reducible refine Kd.C_drew ?_))); (case side2 => exact HC1.out); rintro e w' ⟨rfl, ⟨nd, rfl⟩⟩; refine ⟨_, rfl, ?_⟩) | (go_at_call 74; (with_reducible refine (spec_l4Given.calls k a0 _ _ l2 false _ ?side1 ?side2 A6.out).mono ?_); (case side1 => repeat (first | exact HR2.out | (with_reducible refine Kd.C_alloc ?_ _) | (with_reducible refine Kd.C_drewN ?_ _) | (with_reducible refine Kd.C_drew ?_))); (case side2 => exact HC2.out); rintro e w' ⟨rfl, ⟨nd, rfl⟩⟩))
      go_ret2
      exact ⟨_, by first | rfl | (simp [errW_none, errW_some] <;> rfl) | (simp [*, errW_none, errW_some] <;> rfl), by first | exact Kd.S_nil _ _ _ _ _ | exact Kd.N_nil _ _ _ _ _ | exact Kd.V_nil _ _ _ _ _ | exact Kd.Q_nil _ _ _ _ _ | exact Kd.R_nil _ _ _ _ _, by repeat (first | (with_reducible first | exact HB.out | apply below_alloc | apply pw_below_drewN | apply below_drew1) | exact HB.out)⟩
  · replace c5 := Bool.eq_false_iff.mpr c5
    subst c5
    have H1 : (some (([] : List (List Int)), false)) = some (r1, r2) := by rw [if_neg (show ¬ (false = true) by decide)] at H; exact H
    clear H
    have H := H1
    clear H1
    simp only [Option.some.injEq, Prod.mk.injEq] at H
    obtain ⟨rfl, rfl⟩ := H
    go_enter Try.func37, Try.ntmps37
    go_wp2_with (first | ((with_reducible refine gate_callee (f := 16) rfl ?_); refine goesL_ (some 10) rfl rfl Try.func16 (by kernel_rfl) rfl #[.int .i64 a0, .slice A1 l1.length c1] rfl (by (try simp only [List.map_toArray, List.map_cons, List.map_nil]); first | done | rfl | (simp only [List.length_drop, List.length_take]; rfl)) ?_; (with_reducible refine (spec_GoodClauses.calls k a0 _ _ l1 false _ ?side1 ?side2 A4.out).mono ?_); (case side1 => repeat (first | exact HR1.out | (with_reducible refine Kd.C_alloc ?_ _) | (with_reducible refine Kd.C_drewN ?_ _) | (with_reducible refine Kd.C_drew ?_))); (case side2 => exact HC1.out); rintro e w' ⟨rfl, ⟨nd, rfl⟩⟩; refine ⟨_, rfl, ?_⟩))
    go_ret2
    exact ⟨_, by first | rfl | (simp [errW_none, errW_some] <;> rfl) | (simp [*, errW_none, errW_some] <;> rfl), by first | exact Kd.S_nil _ _ _ _ _ | exact Kd.N_nil _ _ _ _ _ | exact Kd.V_nil _ _ _ _ _ | exact Kd.Q_nil _ _ _ _ _ | exact Kd.R_nil _ _ _ _ _, by repeat (first | (with_reducible first | exact HB.out | apply below_alloc | apply pw_below_drewN | apply below_drew1) | exact HB.out)⟩

/-! ### impl_in: function 55 -/
def impl_in.f (a0 : Int) (a1 : Int) (a2 : Int) : Option (Bool) := if a0 ≥ a1 then (some (decide (a0 ≤ a2))) else (some false)
set_option maxHeartbeats 8000000 in
set_option maxRecDepth 100000 in
theorem impl_in.calls (a0 : Int) (a1 : Int) (a2 : Int) (r : Bool) (w : World) (h : impl_in.f a0 a1 a2 = some r) :
    Calls Try.prog 55 #[.int .i64 a0, .int .i64 a1, .int .i64 a2] w fun e w' => e = .returned (.bool r) ∧ Drawn0 w w' := by
  have H : (if a0 ≥ a1 then (some (decide (a0 ≤ a2))) else (some false)) = some r := h
  clear h
  by_cases c4 : a0 ≥ a1
  · rw [if_pos c4] at H
    have c4b0 : decide (a1 ≤ a0) = true := decide_eq_true c4
    clear c4
    obtain rfl := Option.some.inj H
    go_enter Try.func55, Try.ntmps55
    go_wp2
    go_ret
    exact ⟨by first | rfl | (simp; done) | (simp [*]; done), by repeat (first | exact Drawn0.refl _ | apply Drawn0.step)⟩
  · rw [if_neg c4] at H
    have c4b0 : decide (a1 ≤ a0) = false := decide_eq_false c4
    clear c4
    obtain rfl := Option.some.inj H
    go_enter Try.func55, Try.ntmps55
    go_wp2
    go_ret
    exact ⟨by first | rfl | (simp; done) | (simp [*]; done), by repeat (first | exact Drawn0.refl _ | apply Drawn0.step)⟩

/-! ### slices_IndexFunc_int_int_90: function 90 -/
def pidx (p : Int → Bool) (l : List Int) : Int := if l.any p = true then (l.findIdx p : Int) else -1
theorem pidx_hit (p : Int → Bool) (l : List Int) (i : Int) (h0 : 0 ≤ i) (h1 : i < (l.length : Int)) (hb : ∀ j : Nat, (j : Int) < i → p (rd l j) = false) (hp : p (rd l i) = true) : pidx p l = i := by
  have hl : i.toNat < l.length := by omega
  have e : rd l i = l[i.toNat] := by unfold rd; rw [List.getD_eq_getElem?_getD, List.getElem?_eq_getElem hl]; rfl
  have hany : l.any p = true := List.any_eq_true.2 ⟨_, List.getElem_mem hl, by rw [← e]; exact hp⟩
  have hf : l.findIdx p = i.toNat := by
    rw [List.findIdx_eq hl]
    refine ⟨by rw [← e]; exact hp, fun j hj => ?_⟩
    have := hb j (by omega)
    unfold rd at this
    rw [List.getD_eq_getElem?_getD, show ((j : Int).toNat) = j by omega, List.getElem?_eq_getElem (by omega)] at this
    simpa using this
  unfold pidx
  rw [if_pos hany, hf]
  omega
theorem pidx_miss (p : Int → Bool) (l : List Int) (h : ∀ j : Nat, j < l.length → p (rd l j) = false) : pidx p l = -1 := by
  have : ¬ l.any p = true := by
    intro hany
    obtain ⟨x, hx, hp⟩ := List.any_eq_true.1 hany
    obtain ⟨j, hj, rfl⟩ := List.mem_iff_getElem.1 hx
    have := h j hj
    unfold rd at this
    rw [List.getD_eq_getElem?_getD, show ((j : Int).toNat) = j by omega, List.getElem?_eq_getElem hj] at this
    simp [hp] at this
  unfold pidx
  rw [if_neg this]
theorem pidx_nonneg (p : Int → Bool) (l : List Int) : decide (0 ≤ pidx p l) = l.any p := by
  unfold pidx
  cases h : l.any p
  · simp
  · simp
set_option maxHeartbeats 8000000 in
set_option maxRecDepth 100000 in
theorem slices_IndexFunc_int_calls (p : Int → Bool) (g : Nat) (lb : Array Value) (eg : ∀ args w, (callFunc g args).run Try.prog w = .ok (.enter g args) w) (A0 : Option Addr) (c0 : Nat) (l0 : List Int) (w : World) (hr0 : Kd.C (Kd.int .i64) w A0 l0.length l0)
    (hp : ∀ (x : Int) (q : Nat), x ∈ l0 → Calls Try.prog g (#[.int .i64 x] ++ lb) (w.drewN q) fun e w' => e = .returned (.bool (p x)) ∧ ∃ q', w' = (w.drewN q).drewN q') :
    Calls Try.prog 90 #[.slice A0 l0.length c0, .func (.func g) #[] lb] w fun e w' => e = .returned (.int .i64 (pidx p l0)) ∧ Drawn0 w w' := by
  have HR0 := Aside0.mk hr0
  have HP := Aside0.mk hp
  clear hr0 hp
  go_enter Try.func90, Try.ntmps90
  go_wp2
  go_loopg [5, 8] l0.length (fun kq _ v8 w' => ∃ (x : Int), v8 = .int .i64 x ∧ Aside0 (0 ≤ x ∧ x ≤ (l0.length : Int) ∧ (l0.length : Int) - x ≤ kq ∧ ∀ j : Nat, (j : Int) < x → p (rd l0 j) = false) ∧ Drawn0 w w')
  case atStart => exact ⟨0, rfl, ⟨by omega, by omega, by omega, fun j hj => absurd hj (by omega)⟩, by repeat (first | exact Drawn0.refl _ | apply Drawn0.step)⟩
  case round =>
    obtain ⟨x, rfl, HA, ⟨m1, rfl⟩⟩ := hrel
    by_cases c3 : x < (l0.length : Int)
    · have c3b0 : decide (x < (l0.length : Int)) = true := decide_eq_true c3
      have p101 : 0 ≤ x := HA.out.1
      have q101 := c3
      obtain ⟨ad101, e101, hx101_0⟩ := Kd.at_int HR0.out x p101 q101
      cases e101
      have hmem : rd l0 x ∈ l0 := by
        unfold rd
        rw [List.getD_eq_getElem?_getD, List.getElem?_eq_getElem (show x.toNat < l0.length by omega)]
        exact List.getElem_mem _
      have hcall := HP.out (rd l0 x)
      have hw1 : wrap64 (x + 1) = x + 1 := by
        have := HR0.out.2.1
        unfold wrap64
        omega
      have HW := Aside0.mk hw1
      have HM := Aside0.mk hmem
      clear hw1 hmem c3
      replace p101 := eq_true p101
      replace q101 := eq_true q101
      cases hq : p (rd l0 x) with
      | true =>
        rw [hq] at hcall
        have HQ := Aside0.mk hq
        clear hq
        go_wp2_with (go_at_fn g; refine (hcall _ HM.out).mono ?_; rintro e w' ⟨rfl, q', rfl⟩)
        go_ret
        refine ⟨?_, by repeat (first | exact Drawn0.refl _ | apply Drawn0.step)⟩
        rw [pidx_hit p l0 x HA.out.1 (of_eq_true q101) HA.out.2.2.2 HQ.out]
        rfl
      | false =>
        rw [hq] at hcall
        have HQ := Aside0.mk hq
        clear hq
        go_wp2_with (go_at_fn g; refine (hcall _ HM.out).mono ?_; rintro e w' ⟨rfl, q', rfl⟩)
        go_roundg (gk - 1)
        case measure => have := HA.out.2.2.1; have := of_eq_true q101; omega
        case rel =>
          refine ⟨x + 1, by first | rfl | (rw [← HW.out]; done) | (rw [HW.out]; done) | simp [HW.out], ⟨by have := HA.out.1; omega, by have := of_eq_true q101; omega, by have := HA.out.2.2.1; have := of_eq_true q101; omega, fun j hj => ?_⟩, by repeat (first | exact Drawn0.refl _ | apply Drawn0.step)⟩
          by_cases e : (j : Int) = x
          · rw [e]; exact HQ.out
          · exact HA.out.2.2.2 j (by omega)
    · have c3b0 : decide (x < (l0.length : Int)) = false := decide_eq_false c3
      have hx : x = (l0.length : Int) := by have := HA.out.2.1; omega
      have HX := Aside0.mk hx
      clear hx c3
      go_wp2
      go_ret
      refine ⟨?_, by repeat (first | exact Drawn0.refl _ | apply Drawn0.step)⟩
      rw [pidx_miss p l0 (fun j hj => HA.out.2.2.2 j (by rw [HX.out]; omega))]
      rfl


/-! ### slices_ContainsFunc_int_int_59: function 59 -/
set_option maxHeartbeats 8000000 in
set_option maxRecDepth 100000 in
theorem slices_ContainsFunc_int_calls (p : Int → Bool) (g : Nat) (lb : Array Value) (eg : ∀ args w, (callFunc g args).run Try.prog w = .ok (.enter g args) w) (A0 : Option Addr) (c0 : Nat) (l0 : List Int) (w : World) (hr0 : Kd.C (Kd.int .i64) w A0 l0.length l0)
    (hp : ∀ (x : Int) (q : Nat), x ∈ l0 → Calls Try.prog g (#[.int .i64 x] ++ lb) (w.drewN q) fun e w' => e = .returned (.bool (p x)) ∧ ∃ q', w' = (w.drewN q).drewN q') :
    Calls Try.prog 59 #[.slice A0 l0.length c0, .func (.func g) #[] lb] w fun e w' => e = .returned (.bool (l0.any p)) ∧ Drawn0 w w' := by
  have HN := Aside0.mk (pidx_nonneg p l0)
  generalize hv : l0.any p = v at HN
  have HR0 := Aside0.mk hr0
  clear hr0 hv
  go_enter Try.func59, Try.ntmps59
  have hn := HN.out
  go_wp2_with (go_at_call 90; (with_reducible refine (slices_IndexFunc_int_calls p g lb eg A0 c0 l0 _ HR0.out hp).mono ?_); rintro e w' ⟨rfl, ⟨nd, rfl⟩⟩)
  go_ret
  exact ⟨by first | rfl | simp, by repeat (first | exact Drawn0.refl _ | apply Drawn0.step)⟩


/-! ### impl_isLiteral: function 61 -/
def impl_isLiteral.f (a0 : Int) (a1 : Int) : Option (Bool) := if a0 = 0 then (some false) else ((impl_in.f a0 (wrap64 (-a1)) a1).bind fun t153 => (some t153))
set_option maxHeartbeats 8000000 in
set_option maxRecDepth 100000 in
theorem impl_isLiteral.calls (a0 : Int) (a1 : Int) (r : Bool) (w : World) (h : impl_isLiteral.f a0 a1 = some r) :
    Calls Try.prog 61 #[.int .i64 a0, .int .i64 a1] w fun e w' => e = .returned (.bool r) ∧ Drawn0 w w' := by
  have H : (if a0 = 0 then (some false) else ((impl_in.f a0 (wrap64 (-a1)) a1).bind fun t153 => (some t153))) = some r := h
  clear h
  by_cases c3 : a0 = 0
  · rw [if_pos c3] at H
    have c3b0 : (a0 == 0) = true := beq_iff_eq.mpr c3
    have c3b1 : (a0 != 0) = false := bne_eq_false_iff_eq.mpr c3
    clear c3
    obtain rfl := Option.some.inj H
    go_enter Try.func61, Try.ntmps61
    go_wp2
    go_ret
    exact ⟨by first | rfl | (simp; done) | (simp [*]; done), by repeat (first | exact Drawn0.refl _ | apply Drawn0.step)⟩
  · rw [if_neg c3] at H
    have c3b0 : (a0 == 0) = false := beq_eq_false_iff_ne.mpr c3
    have c3b1 : (a0 != 0) = true := bne_iff_ne.mpr c3
    replace H := Option.bind_eq_some_iff.mp H
    obtain ⟨t153, A40, H⟩ := H
    replace H : (some t153) = some r := H
    have A4 := Aside0.mk A40
    clear A40
    obtain rfl := Option.some.inj H
    go_enter Try.func61, Try.ntmps61
    go_wp2_with (first | (go_at_call 55; (with_reducible refine (impl_in.calls a0 (wrap64 (-a1)) a1 t153 _ A4.out).mono ?_); rintro e w' ⟨rfl, ⟨nd, rfl⟩⟩))
    go_ret
    exact ⟨by first | rfl | (simp; done) | (simp [*]; done), by repeat (first | exact Drawn0.refl _ | apply Drawn0.step)⟩

/-! ### impl_variable: function 92 -/
def vab (n : Int) : Int := if n < wrap64 (-n) then wrap64 (-n) else n
def impl_variable.f (a0 : Int) : Option (Int) := some (vab a0)
theorem impl_variable_val (n : Int) : impl_variable.f n = some (vab n) := rfl
set_option maxHeartbeats 8000000 in
set_option maxRecDepth 100000 in
theorem impl_variable.calls (a0 : Int) (r : Int) (w : World) (h : impl_variable.f a0 = some r) :
    Calls Try.prog 92 #[.int .i64 a0] w fun e w' => e = .returned (.int .i64 r) ∧ Drawn0 w w' := by
  have H : (some (vab a0)) = some r := h
  clear h
  obtain ⟨ji2, hji2⟩ : ∃ j_ : Int, (vab a0) = j_ := ⟨_, rfl⟩
  replace H : (some ji2) = some r := by rw [hji2] at H; exact H
  have hji2_ : (if a0 < (wrap64 (-a0)) then (wrap64 (-a0)) else a0) = ji2 := hji2
  obtain rfl := Option.some.inj H
  clear hji2
  go_enter Try.func92, Try.ntmps92
  go_wp2
  go_ret
  exact ⟨by first | rfl | simp, by repeat (first | exact Drawn0.refl _ | apply Drawn0.step)⟩


/-! ### impl_isClause_1: function 91 -/
theorem given_quiet {P : Program} {f : FuncId} {args : Array Value} {w : World} {n : Nat} {v : Value} (h : Calls P f args (w.drewN n) fun e w' => e = .returned v ∧ Drawn0 (w.drewN n) w') :
    Calls P f args (w.drewN n) fun e w'' => e = .returned v ∧ ∃ m, w'' = w.drewN m := by
  refine h.mono ?_
  rintro e w' ⟨he, ⟨m, rfl⟩⟩
  exact ⟨he, n + m, by rw [World.drewN_drewN]⟩
set_option maxHeartbeats 8000000 in
set_option maxRecDepth 100000 in
theorem impl_isClause_1_calls (n k : Int) (B : Nat) (w : World) (hc : w.cell? ⟨B, 0, none⟩ = some (.int .i64 n)) :
    Calls Try.prog 91 #[.int .i64 k, .pointer (some ⟨B, 0, none⟩)] w fun e w' => e = .returned (.bool (vab k == vab n)) ∧ ∃ q, w' = w.drewN q := by
  go_enter Try.func91, Try.ntmps91
  go_wp2
  go_quiet ((go_at_call 92; first | exact given_quiet (impl_variable.calls k (vab k) _ (impl_variable_val k)) | exact given_quiet (impl_variable.calls n (vab n) _ (impl_variable_val n))))
  go_wp2
  go_ret
  exact ⟨by first | rfl | simp, _, rfl⟩


/-! ### impl_isClause: function 65 -/
def litB (n v : Int) : Bool := decide (n ≠ 0) && (decide (wrap64 (-v) ≤ n) && decide (n ≤ v))
def clauseFrom (v : Int) : List Int → List Int → Bool
  | _, [] => true
  | seen, n :: r => litB n v && (!(seen.any fun k => vab k == vab n) && clauseFrom v (seen ++ [n]) r)
def isClauseB (l : List Int) (v : Int) : Bool := clauseFrom v [] l && decide (l.length ≤ 12)
def impl_isClause.f (l0 : List Int) (a1 : Int) : Option (Bool) := some (isClauseB l0 a1)
theorem impl_isLiteral_val (n v : Int) : impl_isLiteral.f n v = some (litB n v) := by
  unfold impl_isLiteral.f impl_in.f litB
  by_cases h : n = 0
  · simp [h]
  · rw [if_neg h]
    by_cases h2 : n ≥ wrap64 (-v)
    · rw [if_pos h2]
      simp [h, h2]
    · rw [if_neg h2]
      simp [h, h2]
theorem clauseFrom_at (v : Int) (l : List Int) (x : Int) (h0 : 0 ≤ x) (h1 : x < (l.length : Int)) :
    clauseFrom v (l.take x.toNat) (l.drop x.toNat) = (litB (rd l x) v && (!((l.take x.toNat).any fun k => vab k == vab (rd l x)) && clauseFrom v (l.take (x + 1).toNat) (l.drop (x + 1).toNat))) := by
  have hl : x.toNat < l.length := by omega
  have e : rd l x = l[x.toNat] := by unfold rd; rw [List.getD_eq_getElem?_getD, List.getElem?_eq_getElem hl]; rfl
  have e1 : (x + 1).toNat = x.toNat + 1 := by omega
  rw [List.drop_eq_getElem_cons hl, e1, List.take_succ_eq_append_getElem hl, e]
  rfl
set_option maxHeartbeats 8000000 in
set_option maxRecDepth 100000 in
theorem impl_isClause.calls (A0 : Option Addr) (c0 : Nat) (l0 : List Int) (a1 : Int) (r : Bool) (w : World) (hr0 : Kd.C (Kd.int .i64) w A0 l0.length l0) (hc0 : l0.length ≤ c0) (h : impl_isClause.f l0 a1 = some r) :
    Calls Try.prog 65 #[.slice A0 l0.length c0, .int .i64 a1] w fun e w' => e = .returned (.bool r) ∧ Below w.heap.size w w' := by
  have HR0 := Aside0.mk hr0
  have HC0 := Aside0.mk hc0
  have HR := Aside0.mk (Option.some.inj h)
  have HL := Aside0.mk hr0.2.1
  clear hr0 hc0 h
  have HB := Aside0.mk (Below.refl w.heap.size w)
  have eg := enters_of Try.func91 (by kernel_rfl) rfl
  go_enter Try.func65, Try.ntmps65
  go_wp2
  go_loopg [9] l0.length (fun kq v9 w' => ∃ (x : Int), v9 = .int .i64 x ∧ Aside0 (0 ≤ x ∧ x ≤ (l0.length : Int) ∧ (l0.length : Int) - x ≤ kq ∧ (clauseFrom a1 (l0.take x.toNat) (l0.drop x.toNat) && decide (l0.length ≤ 12)) = r) ∧ Aside0 (Below w.heap.size w w'))
  case atStart => exact ⟨0, rfl, ⟨by omega, by omega, by omega, HR.out⟩, HB⟩
  case round =>
    clear HB HR
    obtain ⟨x, rfl, HA, HB⟩ := hrel
    by_cases c3 : x < (l0.length : Int)
    · have c3b0 : decide (x < (l0.length : Int)) = true := decide_eq_true c3
      have p101 : 0 ≤ x := HA.out.1
      have q101 := c3
      obtain ⟨ad101, e101, hx101_0⟩ := Kd.at_int HR0.out x p101 q101
      cases e101
      replace hx101_0 := (HB.out.cell (World.block_lt_of_cell? w _ hx101_0)).trans hx101_0
      have HW := Aside0.mk (show wrap64 (x + 1) = x + 1 by have := HL.out; unfold wrap64; omega)
      have HS := Aside0.mk (clauseFrom_at a1 l0 x p101 q101)
      have q101' : x ≤ (l0.length : Int) := by omega
      have q101b : decide (x ≤ (l0.length : Int)) = true := decide_eq_true q101'
      clear c3
      have HP := Aside0.mk p101
      have HQ := Aside0.mk q101
      replace p101 := eq_true p101
      replace q101 := eq_true q101
      replace q101' := eq_true q101'
      generalize hn : rd l0 x = n at HS hx101_0
      clear hn
      obtain ⟨i0, hi0, _, hsz0, _⟩ := info_parts info3
      obtain ⟨hcut, hAt, hCt⟩ := print_take_of (P := Try.prog) (Value.int .i64) 0 27 3 .i64 Try.underlying27 hi0 hsz0 (some ad101) c0 l0 x HP.out (by have := HQ.out; omega) HC0.out
      have HRT := Aside0.mk (Kd.C_of_reads (d := (0 : Int)) (h1 := fun _ => rfl) (hAt _ (Kd.reads_of_C HR0.out)))
      clear hcut hAt hCt hi0 hsz0
      have qc := eq_true (show x ≤ (c0 : Int) by have := HC0.out; have := HQ.out; omega)
      have qcb : decide (x ≤ (c0 : Int)) = true := decide_eq_true (of_eq_true qc)
      cases hlit : litB n a1 with
      | false =>
        have HLit := Aside0.mk (show impl_isLiteral.f n a1 = some false by rw [impl_isLiteral_val, hlit])
        have HF := Aside0.mk (show r = false by rw [← HA.out.2.2.2, HS.out, hlit]; rfl)
        clear hlit HA HS
        obtain rfl := HF.out
        go_wp2_with (go_at_call 61; (with_reducible refine (impl_isLiteral.calls n a1 false _ HLit.out).mono ?_); rintro e w' ⟨rfl, ⟨nd, rfl⟩⟩)
        go_ret
        exact ⟨rfl, by repeat (first | (with_reducible first | exact HB.out | apply below_alloc | apply pw_below_drewN | apply below_drew1) | exact HB.out)⟩
      | true =>
        have HLit := Aside0.mk (show impl_isLiteral.f n a1 = some true by rw [impl_isLiteral_val, hlit])
        cases hany : ((l0.take x.toNat).any fun k => vab k == vab n) with
        | true =>
          have HF := Aside0.mk (show r = false by rw [← HA.out.2.2.2, HS.out, hlit, hany]; rfl)
          have HY := Aside0.mk hany
          clear hlit hany HA HS
          obtain rfl := HF.out
          go_wp2_with (first | (go_at_call 61; (with_reducible refine (impl_isLiteral.calls n a1 true _ HLit.out).mono ?_); rintro e w' ⟨rfl, ⟨nd, rfl⟩⟩) | (go_at_call 59; refine (recast_ (slices_ContainsFunc_int_calls (fun k => vab k == vab n) 91 #[.pointer (some ⟨wr.heap.size, 0, none⟩)] eg _ _ (l0.take x.toNat) _ ?s1 ?s2) (by rw [take_len_ l0 x HP.out (by have := HQ.out; omega)])).mono ?_; (case s1 => exact Kd.C_below HRT.out (by repeat (first | (with_reducible first | exact HB.out | apply below_alloc | apply pw_below_drewN | apply below_drew1) | exact HB.out))); (case s2 => exact fun z q _ => impl_isClause_1_calls n z _ _ (by simp)); rintro e w' ⟨he, ⟨nd2, rfl⟩⟩; rw [HY.out] at he; subst he))
          go_ret
          exact ⟨rfl, by repeat (first | (with_reducible first | exact HB.out | apply below_alloc | apply pw_below_drewN | apply below_drew1) | exact HB.out)⟩
        | false =>
          have HF := Aside0.mk (show (clauseFrom a1 (l0.take (x + 1).toNat) (l0.drop (x + 1).toNat) && decide (l0.length ≤ 12)) = r by rw [← HA.out.2.2.2, HS.out, hlit, hany]; rfl)
          have HY := Aside0.mk hany
          clear hlit hany HS
          go_wp2_with (first | (go_at_call 61; (with_reducible refine (impl_isLiteral.calls n a1 true _ HLit.out).mono ?_); rintro e w' ⟨rfl, ⟨nd, rfl⟩⟩) | (go_at_call 59; refine (recast_ (slices_ContainsFunc_int_calls (fun k => vab k == vab n) 91 #[.pointer (some ⟨wr.heap.size, 0, none⟩)] eg _ _ (l0.take x.toNat) _ ?s1 ?s2) (by rw [take_len_ l0 x HP.out (by have := HQ.out; omega)])).mono ?_; (case s1 => exact Kd.C_below HRT.out (by repeat (first | (with_reducible first | exact HB.out | apply below_alloc | apply pw_below_drewN | apply below_drew1) | exact HB.out))); (case s2 => exact fun z q _ => impl_isClause_1_calls n z _ _ (by simp)); rintro e w' ⟨he, ⟨nd2, rfl⟩⟩; rw [HY.out] at he; subst he))
          go_roundg (gk - 1)
          case measure => have := HA.out.2.2.1; have := HQ.out; omega
          case rel => exact ⟨x + 1, by first | rfl | (rw [← HW.out]; done) | (rw [HW.out]; done) | simp [HW.out], ⟨by have := HP.out; omega, by have := HQ.out; omega, by have := HA.out.2.2.1; have := HQ.out; omega, HF.out⟩, ⟨by repeat (first | (with_reducible first | exact HB.out | apply below_alloc | apply pw_below_drewN | apply below_drew1) | exact HB.out)⟩⟩
    · have c3b0 : decide (x < (l0.length : Int)) = false := decide_eq_false c3
      have hx : x = (l0.length : Int) := by have := HA.out.2.1; omega
      have HX := Aside0.mk hx
      clear hx c3
      go_wp2
      go_ret
      refine ⟨?_, by repeat (first | (with_reducible first | exact HB.out | apply below_alloc | apply pw_below_drewN | apply below_drew1) | exact HB.out)⟩
      have := HA.out.2.2.2
      rw [HX.out] at this
      simp [clauseFrom] at this
      rw [← this]
      first | rfl | (simp; omega) | simp


/-! ### slices_IndexFunc_int_int_110: function 110 -/
def rowAt_ (l : List (List Int)) (i : Int) : List Int := l.getD i.toNat []
def pidxR (p : List Int → Bool) (l : List (List Int)) : Int := if l.any p = true then (l.findIdx p : Int) else -1
theorem pidxR_hit (p : List Int → Bool) (l : List (List Int)) (i : Int) (h0 : 0 ≤ i) (h1 : i < (l.length : Int)) (hb : ∀ j : Nat, (j : Int) < i → p (rowAt_ l j) = false) (hp : p (rowAt_ l i) = true) : pidxR p l = i := by
  have hl : i.toNat < l.length := by omega
  have e : rowAt_ l i = l[i.toNat] := by unfold rowAt_; rw [List.getD_eq_getElem?_getD, List.getElem?_eq_getElem hl]; rfl
  have hany : l.any p = true := List.any_eq_true.2 ⟨_, List.getElem_mem hl, by rw [← e]; exact hp⟩
  have hf : l.findIdx p = i.toNat := by
    rw [List.findIdx_eq hl]
    refine ⟨by rw [← e]; exact hp, fun j hj => ?_⟩
    have := hb j (by omega)
    unfold rowAt_ at this
    rw [List.getD_eq_getElem?_getD, show ((j : Int).toNat) = j by omega, List.getElem?_eq_getElem (by omega)] at this
    simpa using this
  unfold pidxR
  rw [if_pos hany, hf]
  omega
theorem pidxR_miss (p : List Int → Bool) (l : List (List Int)) (h : ∀ j : Nat, j < l.length → p (rowAt_ l j) = false) : pidxR p l = -1 := by
  have : ¬ l.any p = true := by
    intro hany
    obtain ⟨x, hx, hp⟩ := List.any_eq_true.1 hany
    obtain ⟨j, hj, rfl⟩ := List.mem_iff_getElem.1 hx
    have := h j hj
    unfold rowAt_ at this
    rw [List.getD_eq_getElem?_getD, show ((j : Int).toNat) = j by omega, List.getElem?_eq_getElem hj] at this
    simp [hp] at this
  unfold pidxR
  rw [if_neg this]
theorem pidxR_nonneg (p : List Int → Bool) (l : List (List Int)) : decide (0 ≤ pidxR p l) = l.any p := by
  unfold pidxR
  cases h : l.any p
  · simp
  · simp
theorem given_at_row {w : World} {A : Option Addr} {n : Nat} {xs : List (List Int)} (h : Kd.C (Kd.slice 3 (Kd.int .i64)) w A n xs) (i : Int) (h0 : 0 ≤ i) (h1 : i < n) :
    ∃ ad A0 c0, A = some ad ∧ w.cell? (ad.add i.toNat) = some (.slice A0 (rowAt_ xs i).length c0) ∧ (rowAt_ xs i).length ≤ c0 ∧ (Kd.int .i64).C w A0 (rowAt_ xs i).length (rowAt_ xs i) := by
  obtain ⟨ad, c, e, _, hK, hc0⟩ := Kd.C_get h ([] : List Int) i h0 h1
  have hc : ∀ j u, c[j]? = some u → w.cell? (ad.add (i.toNat * 1 + j)) = some u := hc0
  obtain ⟨A0, c0, rfl, l0, g0⟩ := hK
  unfold rowAt_
  exact ⟨ad, A0, c0, e, by have hq := hc 0 _ rfl; rwa [Nat.mul_one, Nat.add_zero] at hq, l0, g0⟩
set_option maxHeartbeats 8000000 in
set_option maxRecDepth 100000 in
theorem slices_IndexFunc_rows_calls (p : List Int → Bool) (g : Nat) (lb : Array Value) (eg : ∀ args w, (callFunc g args).run Try.prog w = .ok (.enter g args) w) (A0 : Option Addr) (c0 : Nat) (l0 : List (List Int)) (w : World) (hr0 : Kd.C (Kd.slice 3 (Kd.int .i64)) w A0 l0.length l0)
    (hp : ∀ (x : List Int) (A : Option Addr) (c : Nat) (W : World), x ∈ l0 → Kd.C (Kd.int .i64) W A x.length x → x.length ≤ c → Below w.heap.size w W → Calls Try.prog g (#[.slice A x.length c] ++ lb) W fun e w' => e = .returned (.bool (p x)) ∧ Below W.heap.size W w') :
    Calls Try.prog 110 #[.slice A0 l0.length c0, .func (.func g) #[] lb] w fun e w' => e = .returned (.int .i64 (pidxR p l0)) ∧ Below w.heap.size w w' := by
  have HR0 := Aside0.mk hr0
  have HP := Aside0.mk hp
  clear hr0 hp
  have HB := Aside0.mk (Below.refl w.heap.size w)
  go_enter Try.func110, Try.ntmps110
  go_wp2
  go_loopg [5, 8] l0.length (fun kq _ v8 w' => ∃ (x : Int), v8 = .int .i64 x ∧ Aside0 (0 ≤ x ∧ x ≤ (l0.length : Int) ∧ (l0.length : Int) - x ≤ kq ∧ ∀ j : Nat, (j : Int) < x → p (rowAt_ l0 j) = false) ∧ Aside0 (Below w.heap.size w w'))
  case atStart => exact ⟨0, rfl, ⟨by omega, by omega, by omega, fun j hj => absurd hj (by omega)⟩, HB⟩
  case round =>
    clear HB
    obtain ⟨x, rfl, HA, HB⟩ := hrel
    by_cases c3 : x < (l0.length : Int)
    · have c3b0 : decide (x < (l0.length : Int)) = true := decide_eq_true c3
      have p101 : 0 ≤ x := HA.out.1
      have q101 := c3
      obtain ⟨ad101, A9, c9, e101, hx101_0, hl9, hr9⟩ := given_at_row HR0.out x p101 q101
      cases e101
      replace hx101_0 := (HB.out.cell (World.block_lt_of_cell? w _ hx101_0)).trans hx101_0
      have hmem : rowAt_ l0 x ∈ l0 := by
        unfold rowAt_
        rw [List.getD_eq_getElem?_getD, List.getElem?_eq_getElem (show x.toNat < l0.length by omega)]
        exact List.getElem_mem _
      have hcall := fun W hW hB => HP.out (rowAt_ l0 x) A9 c9 W hmem hW hl9 hB
      have hw1 : wrap64 (x + 1) = x + 1 := by
        have := HR0.out.2.1
        unfold wrap64
        omega
      have HW := Aside0.mk hw1
      have HR9 := Aside0.mk hr9
      clear hw1 hmem c3 hr9 hl9
      replace p101 := eq_true p101
      replace q101 := eq_true q101
      cases hq : p (rowAt_ l0 x) with
      | true =>
        rw [hq] at hcall
        have HQ := Aside0.mk hq
        have HC := Aside0.mk hcall
        clear hq hcall
        go_wp2_with (go_at_fn g; refine (HC.out _ ?s1 ?s2).mono ?_; (case s1 => exact Kd.C_below HR9.out (by repeat (first | (with_reducible first | exact HB.out | apply below_alloc | apply pw_below_drewN | apply below_drew1) | exact HB.out))); (case s2 => repeat (first | (with_reducible first | exact HB.out | apply below_alloc | apply pw_below_drewN | apply below_drew1) | exact HB.out)); rintro e w5 ⟨rfl, hb⟩; have n1_ := Aside0.mk (below_step (by repeat (first | (with_reducible first | exact HB.out | apply below_alloc | apply pw_below_drewN | apply below_drew1) | exact HB.out)) hb); clear HB; have HB := n1_; clear n1_ hb)
        go_ret
        refine ⟨?_, by repeat (first | (with_reducible first | exact HB.out | apply below_alloc | apply pw_below_drewN | apply below_drew1) | exact HB.out)⟩
        rw [pidxR_hit p l0 x HA.out.1 (of_eq_true q101) HA.out.2.2.2 HQ.out]
        rfl
      | false =>
        rw [hq] at hcall
        have HQ := Aside0.mk hq
        have HC := Aside0.mk hcall
        clear hq hcall
        go_wp2_with (go_at_fn g; refine (HC.out _ ?s1 ?s2).mono ?_; (case s1 => exact Kd.C_below HR9.out (by repeat (first | (with_reducible first | exact HB.out | apply below_alloc | apply pw_below_drewN | apply below_drew1) | exact HB.out))); (case s2 => repeat (first | (with_reducible first | exact HB.out | apply below_alloc | apply pw_below_drewN | apply below_drew1) | exact HB.out)); rintro e w5 ⟨rfl, hb⟩; have n1_ := Aside0.mk (below_step (by repeat (first | (with_reducible first | exact HB.out | apply below_alloc | apply pw_below_drewN | apply below_drew1) | exact HB.out)) hb); clear HB; have HB := n1_; clear n1_ hb)
        go_roundg (gk - 1)
        case measure => have := HA.out.2.2.1; have := of_eq_true q101; omega
        case rel =>
          refine ⟨x + 1, by first | rfl | (rw [← HW.out]; done) | (rw [HW.out]; done) | simp [HW.out], ⟨by have := HA.out.1; omega, by have := of_eq_true q101; omega, by have := HA.out.2.2.1; have := of_eq_true q101; omega, fun j hj => ?_⟩, ⟨by repeat (first | (with_reducible first | exact HB.out | apply below_alloc | apply pw_below_drewN | apply below_drew1) | exact HB.out)⟩⟩
          by_cases e : (j : Int) = x
          · rw [e]
            exact HQ.out
          · exact HA.out.2.2.2 j (by omega)
    · have c3b0 : decide (x < (l0.length : Int)) = false := decide_eq_false c3
      have hx : x = (l0.length : Int) := by have := HA.out.2.1; omega
      have HX := Aside0.mk hx
      clear hx c3
      go_wp2
      go_ret
      refine ⟨?_, by repeat (first | (with_reducible first | exact HB.out | apply below_alloc | apply pw_below_drewN | apply below_drew1) | exact HB.out)⟩
      rw [pidxR_miss p l0 (fun j hj => HA.out.2.2.2 j (by rw [HX.out]; omega))]
      rfl


/-! ### slices_ContainsFunc_int_int_88: function 88 -/
set_option maxHeartbeats 8000000 in
set_option maxRecDepth 100000 in
theorem slices_ContainsFunc_rows_calls (p : List Int → Bool) (g : Nat) (lb : Array Value) (eg : ∀ args w, (callFunc g args).run Try.prog w = .ok (.enter g args) w) (A0 : Option Addr) (c0 : Nat) (l0 : List (List Int)) (w : World) (hr0 : Kd.C (Kd.slice 3 (Kd.int .i64)) w A0 l0.length l0)
    (hp : ∀ (x : List Int) (A : Option Addr) (c : Nat) (W : World), x ∈ l0 → Kd.C (Kd.int .i64) W A x.length x → x.length ≤ c → Below w.heap.size w W → Calls Try.prog g (#[.slice A x.length c] ++ lb) W fun e w' => e = .returned (.bool (p x)) ∧ Below W.heap.size W w') :
    Calls Try.prog 88 #[.slice A0 l0.length c0, .func (.func g) #[] lb] w fun e w' => e = .returned (.bool (l0.any p)) ∧ Below w.heap.size w w' := by
  have HN := Aside0.mk (pidxR_nonneg p l0)
  generalize hv : l0.any p = v at HN
  have HR0 := Aside0.mk hr0
  have HP := Aside0.mk hp
  clear hr0 hv hp
  have HB := Aside0.mk (Below.refl w.heap.size w)
  go_enter Try.func88, Try.ntmps88
  have hn := HN.out
  go_wp2_with (go_at_call 110; (with_reducible refine (slices_IndexFunc_rows_calls p g lb eg A0 c0 l0 _ HR0.out HP.out).mono ?_); rintro e w5 ⟨rfl, hb⟩; have n1_ := Aside0.mk (below_step (by repeat (first | (with_reducible first | exact HB.out | apply below_alloc | apply pw_below_drewN | apply below_drew1) | exact HB.out)) hb); clear HB; have HB := n1_; clear n1_ hb)
  go_ret
  exact ⟨by first | rfl | simp, by repeat (first | (with_reducible first | exact HB.out | apply below_alloc | apply pw_below_drewN | apply below_drew1) | exact HB.out)⟩


/-! ### impl_areClauses_1: function 89 -/
set_option maxHeartbeats 8000000 in
set_option maxRecDepth 100000 in
theorem impl_areClauses_1_calls (v : Int) (B : Nat) (A : Option Addr) (c : Nat) (x : List Int) (w : World) (hr : Kd.C (Kd.int .i64) w A x.length x) (hl : x.length ≤ c) (hc : w.cell? ⟨B, 0, none⟩ = some (.int .i64 v)) :
    Calls Try.prog 89 (#[.slice A x.length c] ++ #[.pointer (some ⟨B, 0, none⟩)]) w fun e w' => e = .returned (.bool (!isClauseB x v)) ∧ Below w.heap.size w w' := by
  have HR := Aside0.mk hr
  have HL := Aside0.mk hl
  clear hr hl
  have HB := Aside0.mk (Below.refl w.heap.size w)
  obtain ⟨b, hb⟩ : ∃ b, isClauseB x v = b := ⟨_, rfl⟩
  have HV := Aside0.mk (show impl_isClause.f x v = some b by unfold impl_isClause.f; rw [hb])
  rw [hb]
  clear hb
  show Calls Try.prog 89 #[.slice A x.length c, .pointer (some ⟨B, 0, none⟩)] w _
  go_enter Try.func89, Try.ntmps89
  go_wp2_with (go_at_call 65; (with_reducible refine (impl_isClause.calls A c x v b _ ?s1 HL.out HV.out).mono ?_); (case s1 => repeat (first | exact HR.out | (with_reducible refine Kd.C_alloc ?_ _) | (with_reducible refine Kd.C_drewN ?_ _) | (with_reducible refine Kd.C_drew ?_))); rintro e w5 ⟨rfl, hb⟩; have n1_ := Aside0.mk (below_step (by repeat (first | (with_reducible first | exact HB.out | apply below_alloc | apply pw_below_drewN | apply below_drew1) | exact HB.out)) hb); clear HB; have HB := n1_; clear n1_ hb)
  go_ret
  exact ⟨by first | rfl | simp, by repeat (first | (with_reducible first | exact HB.out | apply below_alloc | apply pw_below_drewN | apply below_drew1) | exact HB.out)⟩


end Go.Proofs.Ytemgmpbionkjhaa.PFnExactReduce
