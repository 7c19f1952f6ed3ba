-- Made by a program of this session (wip/tools), which leans on the kit's print: checked by Lean alone.
import Derived.Test.YtafffpbagdoniaaPFnExactFollowsFromx0
import Derived.Test.YtafffpbagdoniaaPFnExactFollowsFromx4
namespace Go.Proofs.Ytafffpbagdoniaa.PFnExactFollowsFrom
open Go.RowKit Go.Proofs.YtafffpbagdoniaaW.PrintWords Go.Proofs.YtafffpbagdoniaaW.PrintLast Go.Proofs.YtafffpbagdoniaaW.PrintMore
attribute [local go_sem] max2_int min2_int max_two min_two max_three min_three max_four min_four   -- for this text's walks alone
set_option linter.unusedVariables false
set_option linter.unusedSimpArgs false

/-! ### impl_areClauses_1: function 76 -/
set_option maxHeartbeats 8000000 in
set_option maxRecDepth 100000 in
theorem impl_areClauses_1_calls (v : Int) (B : Nat) (A : Option Addr) (c : Nat) (x : List Int) (w : World) (hr : Kd.C (Kd.int .i64) w A x.length x) (hl : x.length ≤ c) (hc : w.cell? ⟨B, 0, none⟩ = some (.int .i64 v)) :
    Calls Try.prog 76 (#[.slice A x.length c] ++ #[.pointer (some ⟨B, 0, none⟩)]) w fun e w' => e = .returned (.bool (!isClauseB x v)) ∧ Below w.heap.size w w' := by
  have HR := Aside0.mk hr
  have HL := Aside0.mk hl
  clear hr hl
  have HB := Aside0.mk (Below.refl w.heap.size w)
  obtain ⟨b, hb⟩ : ∃ b, isClauseB x v = b := ⟨_, rfl⟩
  have HV := Aside0.mk (show impl_isClause.f x v = some b by unfold impl_isClause.f; rw [hb])
  rw [hb]
  clear hb
  show Calls Try.prog 76 #[.slice A x.length c, .pointer (some ⟨B, 0, none⟩)] w _
  go_enter Try.func76, Try.ntmps76
  go_wp2_with (go_at_call 51; (with_reducible refine (impl_isClause.calls A c x v b _ ?s1 HL.out HV.out).mono ?_); (case s1 => repeat (first | exact HR.out | (with_reducible refine Kd.C_alloc ?_ _) | (with_reducible refine Kd.C_drewN ?_ _) | (with_reducible refine Kd.C_drew ?_))); rintro e w5 ⟨rfl, hb⟩; have n1_ := Aside0.mk (below_step (by repeat (first | (with_reducible first | exact HB.out | apply below_alloc | apply pw_below_drewN | apply below_drew1) | exact HB.out)) hb); clear HB; have HB := n1_; clear n1_ hb)
  go_ret
  exact ⟨by first | rfl | simp, by repeat (first | (with_reducible first | exact HB.out | apply below_alloc | apply pw_below_drewN | apply below_drew1) | exact HB.out)⟩


/-! ### impl_areClauses: function 60 -/
def impl_areClauses.f (l0 : List (List Int)) (a1 : Int) : Option (Bool) := some (!(l0.any fun x => !isClauseB x a1))
set_option maxHeartbeats 8000000 in
set_option maxRecDepth 100000 in
theorem impl_areClauses.calls (A0 : Option Addr) (c0 : Nat) (l0 : List (List Int)) (a1 : Int) (r : Bool) (w : World) (hr0 : Kd.C (Kd.slice 3 (Kd.int .i64)) w A0 l0.length l0) (hc0 : l0.length ≤ c0) (h : impl_areClauses.f l0 a1 = some r) :
    Calls Try.prog 60 #[.slice A0 l0.length c0, .int .i64 a1] w fun e w' => e = .returned (.bool r) ∧ Below w.heap.size w w' := by
  have HR0 := Aside0.mk hr0
  have HR := Aside0.mk (Option.some.inj h)
  clear hr0 hc0 h
  have HB := Aside0.mk (Below.refl w.heap.size w)
  have eg := enters_of Try.func76 (by kernel_rfl) rfl
  obtain ⟨b, hb⟩ : ∃ b, (l0.any fun x => !isClauseB x a1) = b := ⟨_, rfl⟩
  have HY := Aside0.mk hb
  have HF := Aside0.mk (show r = !b by rw [← HR.out, hb])
  clear hb HR
  obtain rfl := HF.out
  go_enter Try.func60, Try.ntmps60
  go_wp2_with (go_at_call 75; refine (slices_ContainsFunc_rows_calls (fun x => !isClauseB x a1) 76 #[.pointer (some ⟨w.heap.size, 0, none⟩)] eg _ _ l0 _ ?s1 ?s2).mono ?_; (case s1 => repeat (first | exact HR0.out | (with_reducible refine Kd.C_alloc ?_ _) | (with_reducible refine Kd.C_drewN ?_ _) | (with_reducible refine Kd.C_drew ?_))); (case s2 => exact fun x A c W _ hx hl hW => impl_areClauses_1_calls a1 _ A c x W hx hl ((hW.cell (p := ⟨w.heap.size, 0, none⟩) (by simp)).trans (by simp))); rintro e w5 ⟨he, hb⟩; rw [HY.out] at he; subst he; have n1_ := Aside0.mk (below_step (by repeat (first | (with_reducible first | exact HB.out | apply below_alloc | apply pw_below_drewN | apply below_drew1) | exact HB.out)) hb); clear HB; have HB := n1_; clear n1_ hb)
  go_ret
  exact ⟨by first | rfl | simp, by repeat (first | (with_reducible first | exact HB.out | apply below_alloc | apply pw_below_drewN | apply below_drew1) | exact HB.out)⟩


/-! ### impl_GoodClauses: function 50 -/
def impl_GoodClauses.f (a0 : Int) (l1 : List (List Int)) : Option (Bool) := (impl_in.f a0 0 12).bind fun t198 => (if t198 = true then (if (l1.length : Int) ≤ 60 then ((impl_areClauses.f l1 a0).bind fun t199 => (some t199)) else (some false)) else (some false))
set_option maxHeartbeats 8000000 in
set_option maxRecDepth 100000 in
theorem impl_GoodClauses.calls (a0 : Int) (A1 : Option Addr) (c1 : Nat) (l1 : List (List Int)) (r : Bool) (w : World) (hr1 : Kd.C (Kd.slice 3 (Kd.int .i64)) w A1 l1.length l1) (hc1 : l1.length ≤ c1) (h : impl_GoodClauses.f a0 l1 = some r) :
    Calls Try.prog 50 #[.int .i64 a0, .slice A1 l1.length c1] w fun e w' => e = .returned (.bool r) ∧ Below w.heap.size w w' := by
  have HR1 := Aside0.mk hr1
  have HC1 := Aside0.mk hc1
  clear hr1 hc1
  have HB := Aside0.mk (Below.refl w.heap.size w)
  have H : ((impl_in.f a0 0 12).bind fun t198 => (if t198 = true then (if (l1.length : Int) ≤ 60 then ((impl_areClauses.f l1 a0).bind fun t199 => (some t199)) else (some false)) else (some false))) = some r := h
  clear h
  replace H := Option.bind_eq_some_iff.mp H
  obtain ⟨t198, A30, H⟩ := H
  replace H : (if t198 = true then (if (l1.length : Int) ≤ 60 then ((impl_areClauses.f l1 a0).bind fun t199 => (some t199)) else (some false)) else (some false)) = some r := H
  have A3 := Aside0.mk A30
  clear A30
  by_cases c4 : t198 = true
  · subst c4
    have H1 : (if (l1.length : Int) ≤ 60 then ((impl_areClauses.f l1 a0).bind fun t199 => (some t199)) else (some false)) = some r := by rw [if_pos rfl] at H; exact H
    clear H
    have H := H1
    clear H1
    by_cases c5 : (l1.length : Int) ≤ 60
    · rw [if_pos c5] at H
      have c5b0 : decide ((l1.length : Int) ≤ 60) = true := decide_eq_true c5
      have c5b1 : decide (l1.length ≤ 60) = true := decide_eq_true (by omega)
      clear c5
      replace H := Option.bind_eq_some_iff.mp H
      obtain ⟨t199, A60, H⟩ := H
      replace H : (some t199) = some r := H
      have A6 := Aside0.mk A60
      clear A60
      obtain rfl := Option.some.inj H
      go_enter Try.func50, Try.ntmps50
      go_wp2_with (first | ((with_reducible refine gate_callee (f := 64) rfl ?_); refine goesL_ (some 6) rfl rfl Try.func64 (by kernel_rfl) rfl #[.int .i64 a0, .int .i64 0, .int .i64 12] rfl (by (try simp only [List.map_toArray, List.map_cons, List.map_nil]); first | done | rfl | (simp only [List.length_drop, List.length_take]; rfl)) ?_; (with_reducible refine (impl_in.calls a0 0 12 true _ A3.out).mono ?_); rintro e w' ⟨rfl, ⟨nd, rfl⟩⟩; refine ⟨_, rfl, ?_⟩) | (go_at_call 60; (with_reducible refine (impl_areClauses.calls _ _ l1 a0 t199 _ ?side1 ?side2 A6.out).mono ?_); (case side1 => repeat (first | exact HR1.out | (with_reducible refine Kd.C_alloc ?_ _) | (with_reducible refine Kd.C_drewN ?_ _) | (with_reducible refine Kd.C_drew ?_))); (case side2 => exact HC1.out); rintro e w7 ⟨rfl, hb⟩; have n0_ := Aside0.mk (below_step (by repeat (first | (with_reducible first | exact HB.out | apply below_alloc | apply pw_below_drewN | apply below_drew1) | exact HB.out)) hb); clear HB; have HB := n0_; clear n0_; (try clear hb); (try clear hb2); (try clear hk); (try clear hi)))
      go_ret
      exact ⟨by first | rfl | (simp [errW_none, errW_some] <;> rfl) | (simp [*, errW_none, errW_some] <;> rfl), by repeat (first | (with_reducible first | exact HB.out | apply below_alloc | apply pw_below_drewN | apply below_drew1) | exact HB.out)⟩
    · rw [if_neg c5] at H
      have c5b0 : decide ((l1.length : Int) ≤ 60) = false := decide_eq_false c5
      have c5b1 : decide (l1.length ≤ 60) = false := decide_eq_false (by omega)
      clear c5
      obtain rfl := Option.some.inj H
      go_enter Try.func50, Try.ntmps50
      go_wp2_with (first | ((with_reducible refine gate_callee (f := 64) rfl ?_); refine goesL_ (some 6) rfl rfl Try.func64 (by kernel_rfl) rfl #[.int .i64 a0, .int .i64 0, .int .i64 12] rfl (by (try simp only [List.map_toArray, List.map_cons, List.map_nil]); first | done | rfl | (simp only [List.length_drop, List.length_take]; rfl)) ?_; (with_reducible refine (impl_in.calls a0 0 12 true _ A3.out).mono ?_); rintro e w' ⟨rfl, ⟨nd, rfl⟩⟩; refine ⟨_, rfl, ?_⟩))
      go_ret
      exact ⟨by first | rfl | (simp [errW_none, errW_some] <;> rfl) | (simp [*, errW_none, errW_some] <;> rfl), by repeat (first | (with_reducible first | exact HB.out | apply below_alloc | apply pw_below_drewN | apply below_drew1) | exact HB.out)⟩
  · replace c4 := Bool.eq_false_iff.mpr c4
    subst c4
    have H1 : (some false) = some r := by rw [if_neg (show ¬ (false = true) by decide)] at H; exact H
    clear H
    have H := H1
    clear H1
    obtain rfl := Option.some.inj H
    go_enter Try.func50, Try.ntmps50
    go_wp2_with (first | ((with_reducible refine gate_callee (f := 64) rfl ?_); refine goesL_ (some 6) rfl rfl Try.func64 (by kernel_rfl) rfl #[.int .i64 a0, .int .i64 0, .int .i64 12] rfl (by (try simp only [List.map_toArray, List.map_cons, List.map_nil]); first | done | rfl | (simp only [List.length_drop, List.length_take]; rfl)) ?_; (with_reducible refine (impl_in.calls a0 0 12 false _ A3.out).mono ?_); rintro e w' ⟨rfl, ⟨nd, rfl⟩⟩; refine ⟨_, rfl, ?_⟩))
    go_ret
    exact ⟨by first | rfl | (simp [errW_none, errW_some] <;> rfl) | (simp [*, errW_none, errW_some] <;> rfl), by repeat (first | (with_reducible first | exact HB.out | apply below_alloc | apply pw_below_drewN | apply below_drew1) | exact HB.out)⟩

/-! ### impl_learn: function 52 -/
def impl_learn.l0 : Nat → List Int → List Int → Int → Int → Option (List Int)
  | 0, _, _, _, _ => none
  | k + 1, x3, x6, x7, x8 => if x8 < x7 then (if 0 ≤ x8 then (if x8 < (x6.length : Int) then (if x3.length < 17592186044416 then (impl_learn.l0 k (x3 ++ [wrap64 (-(rd x6 x8))]) x6 x7 (wrap64 (x8 + 1))) else (none)) else (none)) else (none)) else (some x3)
def impl_learn.f (k : Nat) (l0 : List Int) : Option (List Int) := impl_learn.l0 k ([] : List Int) l0 (l0.length : Int) 0
theorem impl_learn.mono_l : ∀ k, (∀ y0 y1 y2 y3, LeO (impl_learn.l0 k y0 y1 y2 y3) (impl_learn.l0 (k + 1) y0 y1 y2 y3))
  | 0 => fun _ _ _ _ r h => by simp [impl_learn.l0] at h
  | k + 1 => by
    have ih0 := impl_learn.mono_l k
    · intro y0 y1 y2 y3
      unfold impl_learn.l0
      repeat' first
      | (with_reducible exact ih0 _ _ _ _)
      | (with_reducible exact LeO.refl _)
      | (with_reducible exact LeO.none _)
      | (with_reducible refine LeO.ite ?_ ?_)
      | (with_reducible refine LeO.bind ?_ (fun _ => ?_))
      | exact ih0 _ _ _ _
      | exact LeO.none _
      | refine LeO.ite ?_ ?_
      | refine LeO.bind ?_ (fun _ => ?_)
theorem impl_learn.mono : ∀ a0 k, LeO (impl_learn.f k a0) (impl_learn.f (k + 1) a0) := by
  intro a0 k
  have ih0 := impl_learn.mono_l k
  unfold impl_learn.f
  repeat' first
      | (with_reducible exact ih0 _ _ _ _)
      | (with_reducible exact LeO.refl _)
      | (with_reducible exact LeO.none _)
      | (with_reducible refine LeO.ite ?_ ?_)
      | (with_reducible refine LeO.bind ?_ (fun _ => ?_))
      | exact ih0 _ _ _ _
      | exact LeO.none _
      | refine LeO.ite ?_ ?_
      | refine LeO.bind ?_ (fun _ => ?_)
set_option maxHeartbeats 8000000 in
set_option maxRecDepth 100000 in
theorem impl_learn.calls (k : Nat) (A0 : Option Addr) (c0 : Nat) (l0 : List Int) (r : List Int) (w : World) (hr0 : Kd.C (Kd.int .i64) w A0 l0.length l0) (hc0 : l0.length ≤ c0) (h : impl_learn.f k l0 = some r) :
    Calls Try.prog 52 #[.slice A0 l0.length c0] w fun e w' => ∃ v0_ : Value, e = .returned (v0_) ∧ Kd.R (Kd.int .i64) 3 w' w.heap.size (fun _ => True) v0_ r ∧ Below w.heap.size w w' := by
  have HR0 := Aside0.mk hr0
  have HC0 := Aside0.mk hc0
  clear hr0 hc0
  have HB := Aside0.mk (Below.refl w.heap.size w)
  have H : (impl_learn.l0 k ([] : List Int) l0 (l0.length : Int) 0) = some r := h
  clear h
  have H' := Aside0.mk H
  clear H
  go_enter Try.func52, Try.ntmps52
  go_wp2
  go_loopg [3, 8] k (fun kq v3 v8 w' => ∃ (x3_1 : List Int) (x8_1 : Int), v8 = .int .i64 x8_1 ∧ Aside0 (impl_learn.l0 kq x3_1 l0 (l0.length : Int) x8_1 = some r) ∧ Aside0 (kq ≤ k) ∧ Aside0 (Kd.R (Kd.int .i64) 3 w' w.heap.size (fun _ => True) v3 x3_1) ∧ Aside0 (Below w.heap.size w w'))
  case atStart => exact ⟨(([] : List Int)), (0), (by first | rfl | (simp; done) | (simp [*]; done)), H', ⟨Nat.le_refl _⟩, ⟨by first | exact Kd.R_nil _ _ _ _ _ | exact Kd.N_nil _ _ _ _ _ | exact Kd.V_nil _ _ _ _ _ | exact Kd.Q_nil _ _ _ _ _ | exact Kd.S_nil _ _ _ _ _⟩, ⟨by repeat (first | (with_reducible first | exact HB.out | apply below_alloc | apply pw_below_drewN | apply below_drew1) | exact HB.out)⟩⟩
  case round =>
    clear H'
    obtain ⟨x3_1, x8_1, rfl, HA, HK1, HO_3, HB⟩ := hrel
    cases gk with
    | zero => exact absurd HA.out (by simp [impl_learn.l0])
    | succ k1 =>
      have H := HA.out
      clear HA
      simp only [impl_learn.l0] at H
      by_cases c2 : x8_1 < (l0.length : Int)
      · rw [if_pos c2] at H
        have c2b0 : decide (x8_1 < (l0.length : Int)) = true := decide_eq_true c2
        clear c2
        by_cases c3 : 0 ≤ x8_1
        · rw [if_pos c3] at H
          have c3b0 : decide (0 ≤ x8_1) = true := decide_eq_true c3
          clear c3
          by_cases c4 : x8_1 < (l0.length : Int)
          · rw [if_pos c4] at H
            have c4b0 : decide (x8_1 < (l0.length : Int)) = true := decide_eq_true c4
            clear c4
            by_cases c5 : x3_1.length < 17592186044416
            · rw [if_pos c5] at H
              have LMc5 := Aside0.mk c5
              clear c5
              obtain ⟨y201, hy201⟩ : ∃ y_ : List Int, y_ = (x3_1 ++ [wrap64 (-(rd l0 x8_1))]) := ⟨_, rfl⟩
              replace H : (impl_learn.l0 k1 y201 l0 (l0.length : Int) (wrap64 (x8_1 + 1))) = some r := by first | (rw [hy201]; with_reducible exact H) | (have H2_ := (Option.bind_some _ _).symm.trans H; rw [hy201]; with_reducible exact H2_) | (have H2_ := (Option.bind_some _ _).symm.trans H; with_reducible exact H2_) | with_reducible exact H | (rw [hy201]; exact H) | exact H
              have Ny201 := Aside0.mk hy201
              clear hy201
              have H' := Aside0.mk H
              clear H
              have p200 : 0 ≤ (x8_1 : Int) := of_decide_eq_true (by first | (with_reducible assumption) | assumption)
              have q200 : x8_1 < (l0.length : Int) := of_decide_eq_true (by first | (with_reducible assumption) | assumption)
              obtain ⟨ad200, e200, hx200_0⟩ := Kd.at_int HR0.out x8_1 p200 q200
              cases e200
              replace hx200_0 := (HB.out.cell (World.block_lt_of_cell? w _ hx200_0)).trans hx200_0
              replace p200 := eq_true p200
              replace q200 := eq_true q200
              go_wp2_with (first | ((with_reducible refine gate_builtin (b := .append) (xs := #[.tmp 12, .tmp 15]) rfl ?_); at_builtin; refine Kd.R_append (Kd.int .i64) (w0 := w) w.heap.size rfl (.tmp 12) (.tmp 15) 29 3 (.int .i64 0) 8 rfl Try.underlying29 info3 rfl (by decide) (by omega) u3 x3_1 (wrap64 (-(rd l0 x8_1))) [.int .i64 (wrap64 (-(rd l0 x8_1)))] (fun _ => True) (fun _ => False) rfl rfl ?aP (fun _ hk => hk.elim) ?aF ?aO ?aB ?aS ?aL ?_; (case aP => exact rfl); (case aB => exact (by repeat (first | (with_reducible first | exact HB.out | apply below_alloc | apply pw_below_drewN | apply below_drew1) | exact HB.out))); (case aF => exact (fun _ _ => trivial)); (case aO => exact (by (with_reducible repeat (first | apply Kd.R_alloc | apply Kd.R_drewN | apply Kd.R_drew)); exact HO_3.out)); (case aS => exact (below_size (by repeat (first | (with_reducible first | exact HB.out | apply below_alloc | apply pw_below_drewN | apply below_drew1) | exact HB.out)))); (case aL => have := LMc5.out; omega); intro v202 w6 ho hb hg hat; rw [← Ny201.out] at ho; have n0_ := Aside0.mk (hb); have n1_ := Aside0.mk (ho); clear HB; clear HO_3; have HB := n0_; have HO203 := n1_; clear n0_ n1_; clear ho hb hg hat))
              go_roundg k1
              case measure => have := HK1.out; omega
              case rel => exact ⟨(y201), (wrap64 (x8_1 + 1)), (by first | rfl | (simp; done) | (simp [*]; done)), H', ⟨by have := HK1.out; omega⟩, ⟨by (with_reducible repeat (first | apply Kd.R_alloc | apply Kd.R_drewN | apply Kd.R_drew)); exact HO203.out⟩, ⟨by repeat (first | (with_reducible first | exact HB.out | apply below_alloc | apply pw_below_drewN | apply below_drew1) | exact HB.out)⟩⟩
            · rw [if_neg c5] at H
              exact absurd H (by simp)
          · rw [if_neg c4] at H
            exact absurd H (by simp)
        · rw [if_neg c3] at H
          exact absurd H (by simp)
      · rw [if_neg c2] at H
        have c2b0 : decide (x8_1 < (l0.length : Int)) = false := decide_eq_false c2
        clear c2
        obtain rfl := Option.some.inj H
        go_wp2
        go_ret
        exact ⟨_, by first | rfl | (simp [errW_none, errW_some] <;> rfl) | (simp [*, errW_none, errW_some] <;> rfl), by (with_reducible repeat (first | apply Kd.R_alloc | apply Kd.R_drewN | apply Kd.R_drew)); exact HO_3.out, by repeat (first | (with_reducible first | exact HB.out | apply below_alloc | apply pw_below_drewN | apply below_drew1) | exact HB.out)⟩

/-! ### slices_Grow_int_int: function 73 -/
-- IMPORT Derived.Lib.AppendZeros
set_option maxHeartbeats 1000000 in
set_option maxRecDepth 100000 in
theorem slices_Grow_rows_calls (m : Nat) (hm : m < 4398046511104) (w : World) :
    Calls Try.prog 73 #[.slice none 0 0, .int .i64 (m : Int)] w fun e w' => ∃ v0_ : Value, e = .returned v0_ ∧ w'.ownsRow w.heap.size 29 1 v0_ 0 [] ∧ Below w.heap.size w w' := by
  have HM := Aside0.mk hm
  have HB := Aside0.mk (Below.refl w.heap.size w)
  rcases Nat.eq_zero_or_pos m with rfl | hp
  · clear hm
    go_enter Try.func73, Try.ntmps73
    go_wp2
    go_ret
    exact ⟨_, rfl, own_nil _ _ _ _, by repeat (first | (with_reducible first | exact HB.out | apply below_alloc | apply pw_below_drewN | apply below_drew1) | exact HB.out)⟩
  · have HP := Aside0.mk hp
    obtain ⟨i0, hi, hz0, hz1, hz2⟩ := info_parts info29
    have hrun := fun (W : World) (ty : TypeId) => Lib.run_append_nil_zeros (P := Try.prog) W 22 3 ty 29 i0 (.slice none 0 0) .i64 .i64 Try.underlying22 Try.underlying3 hi hz0 m hp (by rw [hz1]; decide) (by omega) (by rw [hz2]; omega)
    have HRUN := Aside0.mk hrun
    have HO := Aside0.mk (own_grown_ (w := w) (e := 29) (z := .slice none 0 0) (n := m) rfl (grownCap w m 0 29) (grownCap_ge w m 0 29) (grownCap_le_maxLen w m 0 29 (by simp only [maxLen]; omega)) w.heap.size (Nat.le_refl _))
    have hq : decide ((m : Int) < 0) = false := decide_eq_false (by omega)
    have hq2 : decide ((0 : Int) < (m : Int)) = true := decide_eq_true (by omega)
    have hq3 : decide (0 < m) = true := decide_eq_true hp
    have hb : (m : Int) ≤ 4398046511104 := by omega
    have hb0 : (0 : Int) ≤ (m : Int) := by omega
    clear hm hp hi hz0 hz1 hz2 hrun
    go_enter Try.func73, Try.ntmps73
    go_wp2_with ((with_reducible refine gate_builtin (b := .append) (xs := #[.tmp 20, .tmp 21]) rfl ?_); at_builtin; refine Lib.wpList_append_run _ rfl _ _ _ _ rfl _ _ rfl rfl _ _ (HRUN.out _ _) ?_)
    go_ret
    exact ⟨_, rfl, HO.out, by repeat (first | (with_reducible first | exact HB.out | apply below_alloc | apply pw_below_drewN | apply below_drew1) | exact HB.out)⟩


/-! ### slices_Concat_int_int: function 56 -/
def slices_Concat_rows (l0 : List (List (List Int))) : Option (List (List Int)) := if l0.flatten.length < 4398046511104 then some l0.flatten else none
set_option maxHeartbeats 1000000 in
set_option maxRecDepth 100000 in
theorem slices_Concat_rows_calls (A0 : Option Addr) (c0 : Nat) (l0 : List (List (List Int))) (r : List (List Int)) (w : World) (hr0 : Kd.C (Kd.slice 29 (Kd.slice 3 (Kd.int .i64))) w A0 l0.length l0) (hc0 : l0.length ≤ c0) (h : slices_Concat_rows l0 = some r) :
    Calls Try.prog 56 #[.slice A0 l0.length c0] w fun e w' => ∃ v0_ : Value, e = .returned (v0_) ∧ Kd.R (Kd.fixed (Kd.slice 3 (Kd.int .i64)) w) 29 w' w.heap.size (fun _ => True) v0_ r ∧ Below w.heap.size w w' := by
  have HR0 := Aside0.mk hr0
  have HL := Aside0.mk hr0.2.1
  unfold slices_Concat_rows at h
  by_cases c3 : l0.flatten.length < 4398046511104
  · rw [if_pos c3] at h
    have HF := Aside0.mk (Option.some.inj h)
    have LM := Aside0.mk c3
    clear hr0 hc0 h c3
    have HB := Aside0.mk (Below.refl w.heap.size w)
    go_enter Try.func56, Try.ntmps56
    go_wp2
    go_loopg [3, 11] l0.length (fun kq v3 v11 w' => ∃ (x s : Int), v3 = .int .i64 s ∧ v11 = .int .i64 x ∧ Aside0 (0 ≤ x ∧ x ≤ (l0.length : Int) ∧ (l0.length : Int) - x ≤ kq ∧ s = ((l0.take x.toNat).flatten.length : Nat)) ∧ Aside0 (Below w.heap.size w w'))
    case atStart => exact ⟨0, 0, rfl, rfl, ⟨by omega, by omega, by omega, rfl⟩, HB⟩
    case round =>
      clear HB
      obtain ⟨x, s, rfl, rfl, HA, HB⟩ := hrel
      by_cases c3 : x < (l0.length : Int)
      · have c3b0 : decide (x < (l0.length : Int)) = true := decide_eq_true c3
        have p101 : 0 ≤ x := HA.out.1
        have q101 := c3
        obtain ⟨ad101, A9, c9, e101, hx101_0, hl9, hr9⟩ := rowIn_at HR0.out x p101 q101
        cases e101
        replace hx101_0 := (HB.out.cell (World.block_lt_of_cell? w _ hx101_0)).trans hx101_0
        have HW := Aside0.mk (show wrap64 (x + 1) = x + 1 by have := HL.out; unfold wrap64; omega)
        have HS := Aside0.mk (flat_step_ l0 x p101 q101)
        obtain ⟨m9, hm9⟩ : ∃ m, (rowIn_ l0 x).length = m := ⟨_, rfl⟩
        have hsm : 0 ≤ s ∧ s + (m9 : Int) < 4398046511104 := by
          have h1 := flat_le_ l0 (x + 1).toNat
          rw [HS.out, List.length_append] at h1
          have h2 := LM.out
          have h3 := HA.out.2.2.2
          omega
        have HSM := Aside0.mk hsm
        have HM9 := Aside0.mk hm9
        have s0 : 0 ≤ s := hsm.1
        have s1 : s ≤ 4398046511104 := by omega
        have s2 : (m9 : Int) ≤ 4398046511104 := by omega
        have s3 : (0 : Int) ≤ (m9 : Int) := by omega
        have s4 : decide (s + (m9 : Int) < 0) = false := decide_eq_false (by omega)
        have HWS := Aside0.mk (show wrap64 (s + (m9 : Int)) = s + (m9 : Int) by unfold wrap64; omega)
        rw [hm9] at hx101_0
        clear c3 hsm hl9 hr9 hm9
        have HP := Aside0.mk p101
        have HQ := Aside0.mk q101
        replace p101 := eq_true p101
        replace q101 := eq_true q101
        go_wp2
        go_roundg (gk - 1)
        case measure => have := HA.out.2.2.1; have := HQ.out; omega
        case rel => exact ⟨x + 1, s + (m9 : Int), by first | rfl | (rw [← HWS.out]; done) | (rw [HWS.out]; done) | simp [HWS.out], by first | rfl | (rw [← HW.out]; done) | (rw [HW.out]; done) | simp [HW.out], ⟨by have := HP.out; omega, by have := HQ.out; omega, by have := HA.out.2.2.1; have := HQ.out; omega, by rw [HS.out, List.length_append]; have := HA.out.2.2.2; have := HM9.out; omega⟩, ⟨by repeat (first | (with_reducible first | exact HB.out | apply below_alloc | apply pw_below_drewN | apply below_drew1) | exact HB.out)⟩⟩
      · have c3b0 : decide (x < (l0.length : Int)) = false := decide_eq_false c3
        have hx : x = (l0.length : Int) := by have := HA.out.2.1; omega
        have hs : s = (l0.flatten.length : Nat) := by
          have := HA.out.2.2.2
          rw [hx] at this
          simpa using this
        obtain ⟨ms, hms⟩ : ∃ ms, ms = l0.flatten.length := ⟨_, rfl⟩
        rw [← hms] at hs
        have HMS := Aside0.mk (show ms < 4398046511104 by rw [hms]; exact LM.out)
        subst hs
        clear hx c3 hms HA
        go_wp2_with (go_at_call 73; (with_reducible refine (slices_Grow_rows_calls ms HMS.out _).mono ?_); rintro e w5 ⟨v5, rfl, ho, hb⟩; have n0_ := Aside0.mk (Kd.R_lower (R_of_own_ (d := (Kd.fixed (Kd.slice 3 (Kd.int .i64)) w)) ho) (below_size (by repeat (first | (with_reducible first | exact HB.out | apply below_alloc | apply pw_below_drewN | apply below_drew1) | exact HB.out)))); have n1_ := Aside0.mk (below_step (by repeat (first | (with_reducible first | exact HB.out | apply below_alloc | apply pw_below_drewN | apply below_drew1) | exact HB.out)) hb); clear HB; have HO5 := n0_; have HB := n1_; clear n0_ n1_; clear hb ho)
        go_loopg [6, 27] l0.length (fun kq v6 v27 w' => ∃ (x : Int) (y : List (List Int)), v27 = .int .i64 x ∧ Aside0 (0 ≤ x ∧ x ≤ (l0.length : Int) ∧ (l0.length : Int) - x ≤ kq ∧ y = (l0.take x.toNat).flatten) ∧ Aside0 (Kd.R (Kd.fixed (Kd.slice 3 (Kd.int .i64)) w) 29 w' w.heap.size (fun _ => True) v6 y) ∧ Aside0 (Below w.heap.size w w'))
        case atStart => exact ⟨0, [], rfl, ⟨by omega, by omega, by omega, rfl⟩, HO5, HB⟩
        case round =>
          clear HB HO5
          obtain ⟨x2, y, rfl, HA, HO, HB⟩ := hrel
          obtain ⟨Ay, cy, ey⟩ := Kd.R_slice HO.out
          subst ey
          by_cases c3 : x2 < (l0.length : Int)
          · have c3b0' : decide (x2 < (l0.length : Int)) = true := decide_eq_true c3
            have p101 : 0 ≤ x2 := HA.out.1
            have q101 := c3
            obtain ⟨ad101, A9, c9, e101, hx101_0, hl9, hr9⟩ := rowIn_at HR0.out x2 p101 q101
            cases e101
            replace hx101_0 := (HB.out.cell (World.block_lt_of_cell? w _ hx101_0)).trans hx101_0
            have HR9 := Aside0.mk hr9
            have HW := Aside0.mk (show wrap64 (x2 + 1) = x2 + 1 by have := HL.out; unfold wrap64; omega)
            have HS := Aside0.mk (flat_step_ l0 x2 p101 q101)
            obtain ⟨z, hz⟩ : ∃ z, rowIn_ l0 x2 = z := ⟨_, rfl⟩
            rw [hz] at hx101_0
            have HZ := Aside0.mk hz
            have LA := Aside0.mk (show y.length + z.length < 4398046511104 by
              have h1 := flat_le_ l0 (x2 + 1).toNat
              rw [HS.out, hz, ← HA.out.2.2.2, List.length_append] at h1
              have h2 := LM.out
              omega)
            have HR9 := Aside0.mk (show Kd.C (Kd.slice 3 (Kd.int .i64)) w A9 z.length z from hz ▸ HR9.out)
            clear c3 hl9 hr9 hz
            have HP := Aside0.mk p101
            have HQ := Aside0.mk q101
            replace p101 := eq_true p101
            replace q101 := eq_true q101
            obtain ⟨y2, hy2⟩ : ∃ y_, y_ = y ++ z := ⟨_, rfl⟩
            have NY2 := Aside0.mk hy2
            clear hy2
            go_wp2_with ((with_reducible refine gate_builtin (b := .append) (xs := #[.tmp 31, .tmp 32]) rfl ?_); at_builtin; refine Kd.R_append_rows (Kd.fixed (Kd.slice 3 (Kd.int .i64)) w) (w0 := w) w.heap.size rfl (.tmp 31) (.tmp 32) 22 29 (.slice none 0 0) 24 rfl Try.underlying22 info29 rfl Nat.zero_lt_one (by omega) (.slice Ay y.length cy) y z _ _ _ (fun _ => True) (fun _ => False) rfl rfl ?aO ?aR (fun _ _ h => h) (fun _ h => h.elim) ?aF ?aB ?aS ?aL ?_; (case aR => exact ReadsRow.imp_ HR9.out (by repeat (first | (with_reducible first | exact HB.out | apply below_alloc | apply pw_below_drewN | apply below_drew1) | exact HB.out)) (fun _ _ hp => hp)); (case aB => exact (by repeat (first | (with_reducible first | exact HB.out | apply below_alloc | apply pw_below_drewN | apply below_drew1) | exact HB.out))); (case aF => exact (fun _ _ => trivial)); (case aO => exact (by (with_reducible repeat (first | apply Kd.R_alloc | apply Kd.R_drewN | apply Kd.R_drew)); exact HO.out)); (case aS => exact (below_size (by repeat (first | (with_reducible first | exact HB.out | apply below_alloc | apply pw_below_drewN | apply below_drew1) | exact HB.out)))); (case aL => have := LA.out; omega); intro v9 w9 ho hb hg hat; rw [← NY2.out] at ho; have n0_ := Aside0.mk hb; have n1_ := Aside0.mk ho; clear HB; clear HO; have HB := n0_; have HO := n1_; clear n0_ n1_; clear ho hb hg hat)
            go_roundg (gk - 1)
            case measure => have := HA.out.2.2.1; have := HQ.out; omega
            case rel => exact ⟨x2 + 1, y2, by first | rfl | (rw [← HW.out]; done) | (rw [HW.out]; done) | simp [HW.out], ⟨by have := HP.out; omega, by have := HQ.out; omega, by have := HA.out.2.2.1; have := HQ.out; omega, by rw [HS.out, HZ.out, ← HA.out.2.2.2, NY2.out]⟩, ⟨by (with_reducible repeat (first | apply Kd.R_alloc | apply Kd.R_drewN | apply Kd.R_drew)); exact HO.out⟩, ⟨by repeat (first | (with_reducible first | exact HB.out | apply below_alloc | apply pw_below_drewN | apply below_drew1) | exact HB.out)⟩⟩
          · have c3b0' : decide (x2 < (l0.length : Int)) = false := decide_eq_false c3
            have hx : x2 = (l0.length : Int) := by have := HA.out.2.1; omega
            have HY := Aside0.mk (show y = r by rw [HA.out.2.2.2, ← HF.out, hx]; simp)
            clear hx c3
            go_wp2
            go_ret
            exact ⟨_, rfl, by rw [← HY.out]; (with_reducible repeat (first | apply Kd.R_alloc | apply Kd.R_drewN | apply Kd.R_drew)); exact HO.out, by repeat (first | (with_reducible first | exact HB.out | apply below_alloc | apply pw_below_drewN | apply below_drew1) | exact HB.out)⟩
  · rw [if_neg c3] at h
    exact absurd h (by simp)
theorem slices_Concat_two_calls (A0 : Option Addr) (c0 : Nat) (l1 l2 : List (List Int)) (r : List (List Int)) (w : World) (hr0 : Kd.C (Kd.slice 29 (Kd.slice 3 (Kd.int .i64))) w A0 [l1, l2].length [l1, l2]) (hc0 : 2 ≤ c0) (h : slices_Concat_rows [l1, l2] = some r) :
    Calls Try.prog 56 #[.slice A0 2 c0] w fun e w' => ∃ v0_ : Value, e = .returned (v0_) ∧ Kd.R (Kd.fixed (Kd.slice 3 (Kd.int .i64)) w) 29 w' w.heap.size (fun _ => True) v0_ r ∧ Below w.heap.size w w' := slices_Concat_rows_calls A0 c0 [l1, l2] r w hr0 hc0 h


/-! ### slices_Clone_int_int: function 45 -/
def slices_Clone_int_int.f (l0 : List Int) : Option (List Int) := if l0.length < 17592186044416 then some l0 else none
set_option maxHeartbeats 8000000 in
set_option maxRecDepth 100000 in
theorem slices_Clone_int_int.calls (A0 : Option Addr) (c0 : Nat) (l0 : List Int) (r : List Int) (w : World) (hr0 : Kd.C (Kd.int .i64) w A0 l0.length l0) (hc0 : l0.length ≤ c0) (h : slices_Clone_int_int.f l0 = some r) :
    Calls Try.prog 45 #[.slice A0 l0.length c0] w fun e w' => ∃ v0_ : Value, e = .returned (v0_) ∧ Kd.R (Kd.int .i64) 3 w' w.heap.size (fun _ => True) v0_ r ∧ Below w.heap.size w w' := by
  have HR1 := Aside0.mk hr0
  have HC1 := Aside0.mk hc0
  clear hc0
  have HB := Aside0.mk (Below.refl w.heap.size w)
  unfold slices_Clone_int_int.f at h
  by_cases c3 : l0.length < 17592186044416
  · rw [if_pos c3] at h
    obtain rfl := Option.some.inj h
    have LMc3 := Aside0.mk c3
    clear h c3
    have hnil : ∀ w : World, (binOp .eql 29 (.slice A0 l0.length c0) (.slice none 0 0)).run Try.prog w = .ok (.bool A0.isNone) w := fun w => Lib.run_eql_slice_nil w 29 3 A0 l0.length c0 0 0 Try.underlying29
    cases A0 with
    | none =>
      have he : l0 = [] := by
        rcases Nat.eq_zero_or_pos l0.length with h0 | h0
        · exact List.eq_nil_of_length_eq_zero h0
        · obtain ⟨ad, e, _⟩ := hr0.2.2 h0
          cases e
      clear hr0 HR1
      subst he
      simp only [Option.isNone_none, List.length_nil] at hnil
      go_enter Try.func45, Try.ntmps45
      go_wp2
      go_ret
      exact ⟨_, rfl, Kd.R_nil _ _ _ _ _, by repeat (first | (with_reducible first | exact HB.out | apply below_alloc | apply pw_below_drewN | apply below_drew1) | exact HB.out)⟩
    | some ad =>
      clear hr0
      simp only [Option.isNone_some] at hnil
      obtain ⟨y139, hy139⟩ : ∃ y_ : List Int, y_ = (([] : List Int)) := ⟨_, rfl⟩
      have LM := Aside0.mk (show y139.length + l0.length < 17592186044416 by rw [hy139]; simpa using LMc3.out)
      have Ny139 := Aside0.mk hy139
      obtain ⟨y142, hy142⟩ : ∃ y_ : List Int, y_ = (y139 ++ l0) := ⟨_, rfl⟩
      have Ny142 := Aside0.mk hy142
      have HE := Aside0.mk (show y142 = l0 by rw [hy142, hy139]; rfl)
      clear hy139 hy142 LMc3
      go_enter Try.func45, Try.ntmps45
      go_wp2_with (first | ((with_reducible refine gate_dst (N := 5) rfl ?_); refine Kd.R_lit (Kd.int .i64) _ 3 ?hg (N := 5) ?hd (xs := ([] : List Int)) (inner := []) (ok := fun _ => True) (okp := fun _ => True) ?hr ?hp (fun _ hk => hk) trivial (Below.refl _ _) (Nat.le_refl _) (by simp) ?_; (case hd => rfl); (case hg => rfl); (case hr => first | (go_simp; done) | (go_simp; rfl)); (case hp => exact (Reps.none _ _)); intro v140 w4 ho5 hb hg_ hnew_; clear hg_ hnew_; rw [← Ny139.out] at ho5; have n0_ := Aside0.mk (Kd.R_lower ho5 (below_size (by repeat (first | (with_reducible first | exact HB.out | apply below_alloc | apply pw_below_drewN | apply below_drew1) | exact HB.out)))); have n1_ := Aside0.mk (below_step (by repeat (first | (with_reducible first | exact HB.out | apply below_alloc | apply pw_below_drewN | apply below_drew1) | exact HB.out)) hb); clear HB; have HO141 := n0_; have HB := n1_; clear n0_ n1_; clear hb ho5) | ((with_reducible refine gate_builtin (b := .append) (xs := #[.tmp 5, .tmp 6]) rfl ?_); at_builtin; refine Kd.R_append_rows (Kd.int .i64) (w0 := w) w.heap.size rfl (.tmp 5) (.tmp 6) 29 3 (.int .i64 0) 8 rfl Try.underlying29 info3 rfl (by decide) (by omega) v140 y139 l0 _ _ _ (fun _ => True) (fun _ => False) rfl rfl ?aO ?aR (fun _ _ h => h) (fun _ h => h.elim) ?aF ?aB ?aS ?aL ?_; (case aR => repeat (first | exact (Kd.C_below HR1.out HB.out) | (with_reducible refine Kd.C_alloc ?_ _) | (with_reducible refine Kd.C_drewN ?_ _) | (with_reducible refine Kd.C_drew ?_))); (case aB => exact (by repeat (first | (with_reducible first | exact HB.out | apply below_alloc | apply pw_below_drewN | apply below_drew1) | exact HB.out))); (case aF => exact (fun _ _ => trivial)); (case aO => exact (by (with_reducible repeat (first | apply Kd.R_alloc | apply Kd.R_drewN | apply Kd.R_drew)); exact HO141.out)); (case aS => exact (below_size (by repeat (first | (with_reducible first | exact HB.out | apply below_alloc | apply pw_below_drewN | apply below_drew1) | exact HB.out)))); (case aL => have := LM.out; omega); intro v143 w6 ho hb hg hat; rw [← Ny142.out] at ho; have n0_ := Aside0.mk (hb); have n1_ := Aside0.mk (ho); clear HB; clear HO141; have HB := n0_; have HO144 := n1_; clear n0_ n1_; clear ho hb hg hat))
      go_ret
      exact ⟨_, rfl, by rw [← HE.out]; (with_reducible repeat (first | apply Kd.R_alloc | apply Kd.R_drewN | apply Kd.R_drew)); exact HO144.out, by repeat (first | (with_reducible first | exact HB.out | apply below_alloc | apply pw_below_drewN | apply below_drew1) | exact HB.out)⟩
  · rw [if_neg c3] at h
    exact absurd h (by simp)


/-! ### slices_Index_int_int: function 87 -/
def slices_Index_int_int.f (l0 : List Int) (a1 : Int) : Option (Int) := some (pidx (fun y => a1 == y) l0)
set_option maxHeartbeats 8000000 in
set_option maxRecDepth 100000 in
theorem slices_Index_int_int.calls (A0 : Option Addr) (c0 : Nat) (l0 : List Int) (a1 : Int) (r : Int) (w : World) (hr0 : Kd.C (Kd.int .i64) w A0 l0.length l0) (hc0 : l0.length ≤ c0) (h : slices_Index_int_int.f l0 a1 = some r) :
    Calls Try.prog 87 #[.slice A0 l0.length c0, .int .i64 a1] w fun e w' => e = .returned (.int .i64 r) ∧ Drawn0 w w' := by
  have HR0 := Aside0.mk hr0
  have HR := Aside0.mk (Option.some.inj h)
  clear hr0 hc0 h
  go_enter Try.func87, Try.ntmps87
  go_wp2
  go_loopg [5, 8] l0.length (fun kq _ v8 w' => ∃ (x : Int), v8 = .int .i64 x ∧ Aside0 (0 ≤ x ∧ x ≤ (l0.length : Int) ∧ (l0.length : Int) - x ≤ kq ∧ ∀ j : Nat, (j : Int) < x → (a1 == rd l0 j) = false) ∧ Drawn0 w w')
  case atStart => exact ⟨0, rfl, ⟨by omega, by omega, by omega, fun j hj => absurd hj (by omega)⟩, by repeat (first | exact Drawn0.refl _ | apply Drawn0.step)⟩
  case round =>
    obtain ⟨x, rfl, HA, ⟨m1, rfl⟩⟩ := hrel
    by_cases c3 : x < (l0.length : Int)
    · have c3b0 : decide (x < (l0.length : Int)) = true := decide_eq_true c3
      have p101 : 0 ≤ x := HA.out.1
      have q101 := c3
      obtain ⟨ad101, e101, hx101_0⟩ := Kd.at_int HR0.out x p101 q101
      cases e101
      have hw1 : wrap64 (x + 1) = x + 1 := by
        have := HR0.out.2.1
        unfold wrap64
        omega
      have HW := Aside0.mk hw1
      clear hw1 c3
      replace p101 := eq_true p101
      replace q101 := eq_true q101
      by_cases hq : a1 = rd l0 x
      · have hq1 : (a1 == rd l0 x) = true := by simpa using hq
        have hq2 : (a1 != rd l0 x) = false := by simpa using hq
        have HX := Aside0.mk (show r = x by rw [← HR.out]; exact pidx_hit (fun y => a1 == y) l0 x HA.out.1 (of_eq_true q101) HA.out.2.2.2 hq1)
        clear hq HR
        obtain rfl := HX.out
        go_wp2
        go_ret
        exact ⟨rfl, by repeat (first | exact Drawn0.refl _ | apply Drawn0.step)⟩
      · have hq1 : (a1 == rd l0 x) = false := by simpa using hq
        have hq2 : (a1 != rd l0 x) = true := by simpa using hq
        have HQ := Aside0.mk hq1
        clear hq
        go_wp2
        go_roundg (gk - 1)
        case measure => have := HA.out.2.2.1; have := of_eq_true q101; omega
        case rel =>
          refine ⟨x + 1, by first | rfl | (rw [← HW.out]; done) | (rw [HW.out]; done) | simp [HW.out], ⟨by have := HA.out.1; omega, by have := of_eq_true q101; omega, by have := HA.out.2.2.1; have := of_eq_true q101; omega, fun j hj => ?_⟩, by repeat (first | exact Drawn0.refl _ | apply Drawn0.step)⟩
          by_cases e : (j : Int) = x
          · rw [e]; exact HQ.out
          · exact HA.out.2.2.2 j (by omega)
    · have c3b0 : decide (x < (l0.length : Int)) = false := decide_eq_false c3
      have hx : x = (l0.length : Int) := by have := HA.out.2.1; omega
      have HX := Aside0.mk (show r = -1 by rw [← HR.out]; exact pidx_miss (fun y => a1 == y) l0 (fun j hj => HA.out.2.2.2 j (by rw [hx]; omega)))
      clear hx c3 HR
      obtain rfl := HX.out
      go_wp2
      go_ret
      exact ⟨rfl, by repeat (first | exact Drawn0.refl _ | apply Drawn0.step)⟩


/-! ### slices_Contains_int_int: function 82 -/
def slices_Contains_int_int.f (l0 : List Int) (a1 : Int) : Option (Bool) := some (l0.any fun y => a1 == y)
set_option maxHeartbeats 8000000 in
set_option maxRecDepth 100000 in
theorem slices_Contains_int_int.calls (A0 : Option Addr) (c0 : Nat) (l0 : List Int) (a1 : Int) (r : Bool) (w : World) (hr0 : Kd.C (Kd.int .i64) w A0 l0.length l0) (hc0 : l0.length ≤ c0) (h : slices_Contains_int_int.f l0 a1 = some r) :
    Calls Try.prog 82 #[.slice A0 l0.length c0, .int .i64 a1] w fun e w' => e = .returned (.bool r) ∧ Drawn0 w w' := by
  have HN := Aside0.mk ((pidx_nonneg (fun y => a1 == y) l0).trans (Option.some.inj h))
  have HR0 := Aside0.mk hr0
  have HC0 := Aside0.mk hc0
  have HV := Aside0.mk (show slices_Index_int_int.f l0 a1 = some (pidx (fun y => a1 == y) l0) from rfl)
  clear hr0 hc0 h
  generalize pidx (fun y => a1 == y) l0 = v at HN HV
  go_enter Try.func82, Try.ntmps82
  have hn := HN.out
  go_wp2_with (go_at_call 87; (with_reducible refine (slices_Index_int_int.calls A0 c0 l0 a1 v _ HR0.out HC0.out HV.out).mono ?_); rintro e w' ⟨rfl, ⟨nd, rfl⟩⟩)
  go_ret
  exact ⟨by first | rfl | simp, by repeat (first | exact Drawn0.refl _ | apply Drawn0.step)⟩


/-! ### impl_meets_1: function 84 -/
set_option maxHeartbeats 8000000 in
set_option maxRecDepth 100000 in
theorem impl_meets_1_calls (n : Int) (B : Nat) (A : Option Addr) (c : Nat) (m : List Int) (w : World) (hr : Kd.C (Kd.int .i64) w A m.length m) (hl : m.length ≤ c) (hc : w.cell? ⟨B, 0, none⟩ = some (.slice A m.length c)) :
    Calls Try.prog 84 (#[.int .i64 n] ++ #[.pointer (some ⟨B, 0, none⟩)]) w fun e w' => e = .returned (.bool (m.any fun y => n == y)) ∧ ∃ q, w' = w.drewN q := by
  obtain ⟨b, hb⟩ : ∃ b, (m.any fun y => n == y) = b := ⟨_, rfl⟩
  have HV := Aside0.mk (show slices_Contains_int_int.f m n = some b by unfold slices_Contains_int_int.f; rw [hb])
  have HR := Aside0.mk hr
  have HL := Aside0.mk hl
  rw [hb]
  clear hb hr hl
  show Calls Try.prog 84 #[.int .i64 n, .pointer (some ⟨B, 0, none⟩)] w _
  go_enter Try.func84, Try.ntmps84
  go_wp2_with (go_at_call 82; (with_reducible refine (slices_Contains_int_int.calls A c m n b _ ?s1 HL.out HV.out).mono ?_); (case s1 => repeat (first | exact HR.out | (with_reducible refine Kd.C_alloc ?_ _) | (with_reducible refine Kd.C_drewN ?_ _) | (with_reducible refine Kd.C_drew ?_))); rintro e w' ⟨rfl, ⟨nd, rfl⟩⟩)
  go_ret
  exact ⟨by first | rfl | simp, _, rfl⟩


/-! ### impl_meets: function 80 -/
def meetsB (a b : List Int) : Bool := a.any fun n => b.any fun y => n == y
def impl_meets.f (l0 : List Int) (l1 : List Int) : Option (Bool) := some (meetsB l0 l1)
set_option maxHeartbeats 8000000 in
set_option maxRecDepth 100000 in
theorem impl_meets.calls (A0 : Option Addr) (c0 : Nat) (l0 : List Int) (A1 : Option Addr) (c1 : Nat) (l1 : List Int) (r : Bool) (w : World) (hr0 : Kd.C (Kd.int .i64) w A0 l0.length l0) (hc0 : l0.length ≤ c0) (hr1 : Kd.C (Kd.int .i64) w A1 l1.length l1) (hc1 : l1.length ≤ c1) (h : impl_meets.f l0 l1 = some r) :
    Calls Try.prog 80 #[.slice A0 l0.length c0, .slice A1 l1.length c1] w fun e w' => e = .returned (.bool r) ∧ Below w.heap.size w w' := by
  have HR0 := Aside0.mk hr0
  have HR1 := Aside0.mk hr1
  have HC1 := Aside0.mk hc1
  have HR := Aside0.mk (show (l0.any fun n => l1.any fun y => n == y) = r from Option.some.inj h)
  clear hr0 hc0 hr1 hc1 h
  have HB := Aside0.mk (Below.refl w.heap.size w)
  have eg := enters_of Try.func84 (by kernel_rfl) rfl
  go_enter Try.func80, Try.ntmps80
  go_wp2_with (first | ((with_reducible refine gate_dst (N := 3) rfl ?_); refine box_event ?hg (N := 3) ?hd (cs := #[.slice A1 l1.length c1]) (t := 29) ?hr ?_; (case hd => rfl); (case hg => rfl); (case hr => first | (go_simp; done) | (go_simp; rfl)); intro gb hg w2 hbox hb; have n0_ := Aside0.mk (below_step (by repeat (first | (with_reducible first | exact HB.out | apply below_alloc | apply pw_below_drewN | apply below_drew1) | exact HB.out)) hb); have n1_ := Aside0.mk (blk_cell hbox 0); have n2_ := Aside0.mk (Kd.C_below HR0.out hb); have n3_ := Aside0.mk (Kd.C_below HR1.out hb); clear HB HR0 HR1; have HB := n0_; have BK := n1_; have HR0 := n2_; have HR1 := n3_; clear n0_ n1_ n2_ n3_; clear hb hbox hg) | (go_at_call 66; refine (slices_ContainsFunc_int_calls (fun n => l1.any fun y => n == y) 84 #[.pointer (some ⟨_, 0, none⟩)] eg _ _ l0 _ ?s1 ?s2).mono ?_; (case s1 => repeat (first | exact HR0.out | (with_reducible refine Kd.C_alloc ?_ _) | (with_reducible refine Kd.C_drewN ?_ _) | (with_reducible refine Kd.C_drew ?_))); (case s2 => exact fun z q hz => impl_meets_1_calls z _ A1 c1 l1 _ (by repeat (first | exact HR1.out | (with_reducible refine Kd.C_alloc ?_ _) | (with_reducible refine Kd.C_drewN ?_ _) | (with_reducible refine Kd.C_drew ?_))) HC1.out BK.out); rintro e w' ⟨he, ⟨nd2, rfl⟩⟩; rw [HR.out] at he; subst he))
  go_ret
  exact ⟨rfl, by repeat (first | (with_reducible first | exact HB.out | apply below_alloc | apply pw_below_drewN | apply below_drew1) | exact HB.out)⟩


/-! ### slices_DeleteFunc_int_int: function 85 -/
theorem given_zeros {base g cap n e : Nat} {ok : Nat → Prop} : ∀ (m i : Nat) (w : World) (ys : List Int), Kd.R (Kd.int .i64) e w base ok (.slice (some ⟨g, 0, none⟩) n cap) ys →
    ∃ zs : List Int, Kd.R (Kd.int .i64) e (w.setCells g i (List.replicate m (.int .i64 0))) base ok (.slice (some ⟨g, 0, none⟩) n cap) zs ∧ zs.length = ys.length ∧ zs.take i = ys.take i ∧ w.grownBy (w.setCells g i (List.replicate m (.int .i64 0))) (some g)
  | 0, i, w, ys, h => ⟨ys, h, rfl, rfl, grown_of_below (Below.refl _ _) _⟩
  | m + 1, i, w, ys, h => by
    obtain ⟨h1, hg1⟩ := Kd.R_putg h (i : Int) 0
    rw [show ((i : Int).toNat) = i by omega] at h1 hg1
    obtain ⟨zs, h2, h3, h4, h5⟩ := given_zeros m (i + 1) _ _ h1
    refine ⟨zs, h2, by rw [h3, List.length_set], ?_, ?_⟩
    · have := congrArg (List.take i) h4
      rw [List.take_take, List.take_take, Nat.min_eq_left (by omega)] at this
      rw [this]
      exact List.take_set_of_le (by omega)
    · exact hg1.trans h5
theorem pidx_found (p : Int → Bool) (l : List Int) (h : l.any p = true) : pidx p l = (l.findIdx p : Int) := by
  unfold pidx
  rw [if_pos h]
set_option maxHeartbeats 16000000 in
set_option maxRecDepth 100000 in
theorem slices_DeleteFunc_int_calls (p : Int → Bool) (g : Nat) (lb : Array Value) (eg : ∀ args w, (callFunc g args).run Try.prog w = .ok (.enter g args) w) (w0 w : World) (v : Value) (l : List Int) (hB : Below w0.heap.size w0 w) (ho : Kd.R (Kd.int .i64) 3 w w0.heap.size (fun _ => True) v l)
    (hp : ∀ (x : Int) (W : World), Below w0.heap.size w0 W → (∀ k, some k ≠ v.ownBlock → k < w.heap.size → W.heap[k]? = w.heap[k]?) → Calls Try.prog g (#[.int .i64 x] ++ lb) W fun e w' => e = .returned (.bool (p x)) ∧ ∃ q, w' = W.drewN q) :
    Calls Try.prog 85 #[v, .func (.func g) #[] lb] w fun e w' => ∃ v0_ : Value, e = .returned v0_ ∧ Kd.R (Kd.int .i64) 3 w' w0.heap.size (fun _ => True) v0_ (l.filter fun x => !p x) ∧ Below w0.heap.size w0 w' := by
  have HB := Aside0.mk hB
  have HP := Aside0.mk hp
  have HO := Aside0.mk ho
  obtain ⟨A0, c0, rfl, hlc, hC⟩ := Kd.R_reads ho
  have HIF := Aside0.mk (slices_IndexFunc_int_calls p g lb eg A0 c0 l w hC (fun x q _ => hp x (w.drewN q) (pw_below_drewN hB q) (fun k _ _ => rfl)))
  clear hB hp hlc
  cases hany : l.any p with
  | false =>
    have hi : pidx p l = -1 := by unfold pidx; rw [hany]; rfl
    have hf : (l.filter fun x => !p x) = l := by
      rw [List.filter_eq_self]
      intro x hx
      have := List.any_eq_false.1 hany x hx
      simpa using this
    rw [hi] at HIF
    rw [hf]
    clear hi hf hany hC ho HP
    go_enter Try.func85, Try.ntmps85
    go_wp2_with (go_at_call 78; (with_reducible refine HIF.out.mono ?_); rintro e w' ⟨rfl, ⟨nd, rfl⟩⟩)
    go_ret
    exact ⟨_, rfl, by (with_reducible repeat (first | apply Kd.R_alloc | apply Kd.R_drewN | apply Kd.R_drew)); exact HO.out, by repeat (first | (with_reducible first | exact HB.out | apply below_alloc | apply pw_below_drewN | apply below_drew1) | exact HB.out)⟩
  | true =>
    obtain ⟨i0, hi, hlt, hhit, hmiss⟩ : ∃ i0 : Nat, pidx p l = (i0 : Int) ∧ i0 < l.length ∧ (∀ x, l[i0]? = some x → p x = true) ∧ ∀ j x, j < i0 → l[j]? = some x → p x = false := by
      have hlt : l.findIdx p < l.length := List.findIdx_lt_length_of_exists (by simpa using List.any_eq_true.1 hany)
      refine ⟨l.findIdx p, pidx_found p l hany, hlt, fun x hx => ?_, fun j x hj hx => ?_⟩
      · rw [List.getElem?_eq_getElem hlt] at hx
        rw [← Option.some.inj hx]
        exact List.findIdx_getElem
      · rw [List.getElem?_eq_getElem (by omega)] at hx
        rw [← Option.some.inj hx]
        simpa using List.not_of_lt_findIdx hj
    rw [hi] at HIF
    obtain ⟨g0, cap, e0, hg0, hg0l, cells0, hh0⟩ := Kd.R_form ho (by omega)
    injection e0 with ea en ec
    subst ea ec
    have hmax := hC.2.1
    have HI0 := Aside0.mk (show (l.take i0).filter (fun x => !p x) = l.take i0 ∧ (l.take (i0 + 1)).filter (fun x => !p x) = l.take i0 by
      have h1 : (l.take i0).filter (fun x => !p x) = l.take i0 := by
        rw [List.filter_eq_self]
        intro x hx
        obtain ⟨j, hj, rfl⟩ := List.mem_iff_getElem.1 hx
        rw [List.getElem_take]
        have hj' : j < i0 := by rw [List.length_take] at hj; omega
        rw [hmiss j _ hj' (List.getElem?_eq_getElem (by omega))]
        rfl
      refine ⟨h1, ?_⟩
      rw [List.take_succ_eq_append_getElem hlt, List.filter_append, h1]
      simp [hhit _ (List.getElem?_eq_getElem hlt)])
    have HLT := Aside0.mk hlt
    have HG0 := Aside0.mk hg0
    have HG1 := Aside0.mk hg0l
    have HMX := Aside0.mk hmax
    have HKP := Aside0.mk (show ∀ k, k ≠ g0 → k < w.heap.size → w.heap[k]? = w.heap[k]? from fun _ _ _ => rfl)
    have hne1 : ((i0 : Int) == -1) = false := beq_eq_false_iff_ne.2 (by omega)
    have hw1 : wrap64 ((i0 : Int) + 1) = ((i0 : Int) + 1) := by unfold wrap64; omega
    have HW1 := Aside0.mk hw1
    clear hi hany hC ho hhit hmiss hg0 hg0l hh0 cells0 hmax hlt hw1 en
    go_enter Try.func85, Try.ntmps85
    go_wp2_with (go_at_call 78; (with_reducible refine HIF.out.mono ?_); rintro e w' ⟨rfl, ⟨nd, rfl⟩⟩)
    go_loopg [5, 6, 7] l.length (fun kq s5 s6 _ w' => ∃ (i j : Nat) (ys : List Int), s5 = .int .i64 (i : Int) ∧ s6 = .int .i64 (j : Int) ∧ Aside0 (i < j ∧ j ≤ l.length ∧ l.length - j ≤ kq ∧ ys.length = l.length ∧ ys.take i = (l.take j).filter (fun x => !p x) ∧ ys.drop j = l.drop j) ∧ Aside0 (Kd.R (Kd.int .i64) 3 w' w0.heap.size (fun _ => True) (.slice (some ⟨g0, 0, none⟩) l.length c0) ys) ∧ Aside0 (Below w0.heap.size w0 w') ∧ Aside0 (w.heap.size ≤ w'.heap.size ∧ ∀ k, k ≠ g0 → k < w.heap.size → w'.heap[k]? = w.heap[k]?))
    case atStart =>
      refine ⟨i0, i0 + 1, l, rfl, ?_, ⟨by omega, HLT.out, by omega, rfl, HI0.out.2.symm, rfl⟩, ⟨by (with_reducible repeat (first | apply Kd.R_alloc | apply Kd.R_drewN | apply Kd.R_drew)); exact HO.out⟩, ⟨by repeat (first | (with_reducible first | exact HB.out | apply below_alloc | apply pw_below_drewN | apply below_drew1) | exact HB.out)⟩, ⟨Nat.le_refl _, fun _ _ _ => rfl⟩⟩
      first | rfl | (rw [HW1.out]; rfl) | (simp [HW1.out])
    case round =>
      clear HB HO HKP HIF HI0 hne1 HW1
      obtain ⟨i, j, ys, rfl, rfl, HA, HO, HB, HKP⟩ := hrel
      by_cases hjn : j < l.length
      · have hz := HA.out.2.2.2.1
        have c3b0 : decide ((j : Int) < (l.length : Int)) = true := decide_eq_true (by omega)
        have c3b1 := eq_true (show (j : Int) < (l.length : Int) by omega)
        have c3b2 := eq_true hjn
        obtain ⟨hxj, _⟩ := Kd.R_celln 0 HO.out (j : Int) (by omega) (by omega)
        obtain ⟨hxi, hfi⟩ := Kd.R_celln 0 HO.out (i : Int) (by omega) (by have := HA.out.1; omega)
        obtain ⟨x, hx⟩ : ∃ x, l[j]? = some x := ⟨_, List.getElem?_eq_getElem hjn⟩
        have hval : rdOf 0 ys (j : Int) = x := by
          have h1 := congrArg (fun z => z[0]?) HA.out.2.2.2.2.2
          simp only [List.getElem?_drop, Nat.add_zero] at h1
          unfold rdOf
          rw [List.getD_eq_getElem?_getD, show ((j : Int).toNat) = j by omega, h1, hx]
          rfl
        rw [hval] at hxj
        have HP7 := Aside0.mk (Kd.R_putg HO.out (i : Int) x)
        have HW := Aside0.mk (show wrap64 ((j : Int) + 1) = ((j + 1 : Nat) : Int) by have := HMX.out; unfold wrap64; omega)
        have HWi := Aside0.mk (show wrap64 ((i : Int) + 1) = ((i + 1 : Nat) : Int) by have := HMX.out; have := HA.out.1; unfold wrap64; omega)
        have HLJ := Aside0.mk hjn
        have hcall := Aside0.mk (HP.out x wr HB.out (fun k hk hkl => HKP.out.2 k (fun e => hk (by rw [e]; rfl)) hkl))
        have hij := eq_true (show (i : Int) < (l.length : Int) by have := HA.out.1; omega)
        have htk : (l.take (j + 1)).filter (fun x => !p x) = (l.take j).filter (fun x => !p x) ++ (if p x = true then [] else [x]) := by
          rw [List.take_add_one, hx, List.filter_append]
          by_cases hq : p x = true
          · simp [hq]
          · simp [hq]
        have HTK := Aside0.mk htk
        rw [show ((j : Int).toNat) = j by omega] at hxj
        rw [show ((i : Int).toNat) = i by omega] at hxi hfi
        have HX := Aside0.mk hx
        clear hval htk hz hjn hx
        cases hq : p x with
        | true =>
          rw [hq] at hcall HTK
          clear hq
          go_wp2_with (go_at_fn g; (with_reducible refine hcall.out.mono ?_); rintro e w' ⟨rfl, q', rfl⟩)
          go_roundg (gk - 1)
          case measure => have := HA.out.2.2.1; have := HLJ.out; omega
          case rel =>
            refine ⟨i, j + 1, ys, rfl, by first | rfl | (rw [← HW.out]; done) | (rw [HW.out]; done) | simp [HW.out], ⟨by have := HA.out.1; omega, HLJ.out, by have := HA.out.2.2.1; omega, HA.out.2.2.2.1, ?_, ?_⟩, ⟨by (with_reducible repeat (first | apply Kd.R_alloc | apply Kd.R_drewN | apply Kd.R_drew)); exact HO.out⟩, ⟨by repeat (first | (with_reducible first | exact HB.out | apply below_alloc | apply pw_below_drewN | apply below_drew1) | exact HB.out)⟩, ⟨HKP.out.1, HKP.out.2⟩⟩
            · rw [HTK.out, HA.out.2.2.2.2.1]
              simp
            · have h1 := congrArg (List.drop 1) HA.out.2.2.2.2.2
              rw [List.drop_drop, List.drop_drop] at h1
              exact h1
        | false =>
          rw [hq] at hcall HTK
          clear hq
          go_wp2_with (first | (go_at_fn g; (with_reducible refine hcall.out.mono ?_); rintro e w' ⟨rfl, q', rfl⟩) | ((with_reducible refine gate_store (t := 3) (p := 33) rfl ?_); refine store_event (t := 3) (p := 33) (v := ?vo_w8) (w1 := ((wr.drewN q').setCell ⟨g0, i, none⟩ (.int .i64 x))) ?hg ?ho ?hn ?hr ?_; (case ho => rfl); (case hg => rfl); (case hn => rfl); (case hr => first | (go_simp; done) | (go_simp; rfl)); intro w8 hw; have n0_ := Aside0.mk (show Kd.R (Kd.int .i64) 3 w8 w0.heap.size (fun _ => True) (.slice (some ⟨g0, 0, none⟩) l.length c0) (ys.set i x) by rw [hw]; exact Kd.R_drewN HP7.out.1 q'); have n1_ := Aside0.mk (show Below w0.heap.size w0 w8 by rw [hw]; exact below_set (pw_below_drewN HB.out q') HG0.out); have n2_ := Aside0.mk (show w.heap.size ≤ w8.heap.size ∧ ∀ k, k ≠ g0 → k < w.heap.size → w8.heap[k]? = w.heap[k]? by rw [hw]; exact ⟨by simpa [World.setCell] using HKP.out.1, fun k hk hkl => (Below.heap_setCell (wr.drewN q') ⟨g0, i, none⟩ _ k hk).trans (HKP.out.2 k hk hkl)⟩); clear HB HO HKP hw; have HO := n0_; have HB := n1_; have HKP := n2_; clear n0_ n1_ n2_))
          go_roundg (gk - 1)
          case measure => have := HA.out.2.2.1; have := HLJ.out; omega
          case rel =>
            refine ⟨i + 1, j + 1, ys.set i x, by first | rfl | (rw [← HWi.out]; done) | (rw [HWi.out]; done) | simp [HWi.out], by first | rfl | (rw [← HW.out]; done) | (rw [HW.out]; done) | simp [HW.out], ⟨by have := HA.out.1; omega, HLJ.out, by have := HA.out.2.2.1; omega, by rw [List.length_set]; exact HA.out.2.2.2.1, ?_, ?_⟩, ⟨by (with_reducible repeat (first | apply Kd.R_alloc | apply Kd.R_drewN | apply Kd.R_drew)); exact HO.out⟩, ⟨by repeat (first | (with_reducible first | exact HB.out | apply below_alloc | apply pw_below_drewN | apply below_drew1) | exact HB.out)⟩, ⟨HKP.out.1, HKP.out.2⟩⟩
            · have hil : i < (ys.set i x).length := by rw [List.length_set, HA.out.2.2.2.1]; have := HA.out.1; have := HLJ.out; omega
              rw [HTK.out, List.take_succ_eq_append_getElem hil, List.take_set_of_le (by omega), HA.out.2.2.2.2.1]
              simp
            · rw [List.drop_set_of_lt (by have := HA.out.1; omega)]
              have h1 := congrArg (List.drop 1) HA.out.2.2.2.2.2
              rw [List.drop_drop, List.drop_drop] at h1
              exact h1
      · have hjl : j = l.length := by have := HA.out.2.1; omega
        have c3b0 : decide ((j : Int) < (l.length : Int)) = false := decide_eq_false (by omega)
        have c3b1 := eq_false (show ¬ (j : Int) < (l.length : Int) by omega)
        have hil : i < l.length := by have := HA.out.1; omega
        have hz := HA.out.2.2.2.1
        obtain ⟨zs, hR, hzl, hzt, hgr⟩ := given_zeros (l.length - i) i wr ys HO.out
        have hcl : ∀ ty, (Builtin.clear_ #[29] ty #[.slice (some ⟨g0, i, none⟩) (l.length - i) (c0 - i)]).run Try.prog wr = .ok (.tuple #[]) (wr.setCells g0 i (List.replicate (l.length - i) (.int .i64 0))) :=
          fun ty => Lib.run_clear_slice wr 29 3 ty (.int .i64 0) Try.underlying29 (fun _ => by kernel_rfl) rfl rfl g0 i _ _ (by omega)
            (fun t ht => by rw [← show (((i + t : Nat) : Int).toNat) = i + t by omega, (Kd.R_celln 0 HO.out ((i + t : Nat) : Int) (by omega) (by omega)).1]; rfl)
            (fun t ht => by rw [← show (((i + t : Nat) : Int).toNat) = i + t by omega]; exact (Kd.R_celln 0 HO.out ((i + t : Nat) : Int) (by omega) (by omega)).2)
        have HF := Aside0.mk (show (l.filter fun x => !p x) = zs.take i by
          have h1 := HA.out.2.2.2.2.1
          rw [hjl, List.take_length] at h1
          rw [← h1, hzt])
        have HR := Aside0.mk (Kd.R_take hR (show i ≤ zs.length by omega))
        have HBf := Aside0.mk (show Below w0.heap.size w0 (wr.setCells g0 i (List.replicate (l.length - i) (.int .i64 0))) from HB.out.grown hgr (HB.out.size) (fun k hk => by injection hk with hk; subst hk; exact HG0.out))
        have q1 := eq_true (show (0 : Int) ≤ (i : Int) by omega)
        have q2 := eq_true (show (i : Int) ≤ (l.length : Int) by omega)
        have q2b : decide ((i : Int) ≤ (l.length : Int)) = true := decide_eq_true (of_eq_true q2)
        have q3 := eq_true (show (i : Int) ≤ (c0 : Int) by have := (Kd.R_reads HO.out); obtain ⟨_, _, e_, h_, _⟩ := this; injection e_ with _ _ e3; omega)
        have q4 := eq_true (show i ≤ l.length by omega)
        have q5 := eq_true (show i < c0 by have := (Kd.R_reads HO.out); obtain ⟨_, _, e_, h_, _⟩ := this; injection e_ with _ _ e3; omega)
        have q6 := eq_false (show ¬ c0 = i by have := of_eq_true q5; omega)
        have q7 := eq_false (show ¬ i = c0 by have := of_eq_true q5; omega)
        clear hR hzl hzt hgr hjn hjl hil hz HO
        go_wp2
        go_ret
        exact ⟨_, rfl, by rw [HF.out]; exact HR.out, HBf.out⟩


/-! ### impl_without_1: function 86 -/
set_option maxHeartbeats 8000000 in
set_option maxRecDepth 100000 in
theorem impl_without_1_calls (n : Int) (B : Nat) (A : Option Addr) (c : Nat) (m : List Int) (w : World) (hr : Kd.C (Kd.int .i64) w A m.length m) (hl : m.length ≤ c) (hc : w.cell? ⟨B, 0, none⟩ = some (.slice A m.length c)) :
    Calls Try.prog 86 (#[.int .i64 n] ++ #[.pointer (some ⟨B, 0, none⟩)]) w fun e w' => e = .returned (.bool (m.any fun y => wrap64 (-n) == y)) ∧ ∃ q, w' = w.drewN q := by
  obtain ⟨b, hb⟩ : ∃ b, (m.any fun y => wrap64 (-n) == y) = b := ⟨_, rfl⟩
  have HV := Aside0.mk (show slices_Contains_int_int.f m (wrap64 (-n)) = some b by unfold slices_Contains_int_int.f; rw [hb])
  have HR := Aside0.mk hr
  have HL := Aside0.mk hl
  rw [hb]
  clear hb hr hl
  show Calls Try.prog 86 #[.int .i64 n, .pointer (some ⟨B, 0, none⟩)] w _
  go_enter Try.func86, Try.ntmps86
  go_wp2_with (go_at_call 82; (with_reducible refine (slices_Contains_int_int.calls A c m (wrap64 (-n)) b _ ?s1 HL.out HV.out).mono ?_); (case s1 => repeat (first | exact HR.out | (with_reducible refine Kd.C_alloc ?_ _) | (with_reducible refine Kd.C_drewN ?_ _) | (with_reducible refine Kd.C_drew ?_))); rintro e w' ⟨rfl, ⟨nd, rfl⟩⟩)
  go_ret
  exact ⟨by first | rfl | simp, _, rfl⟩


/-! ### impl_without: function 81 -/
def withoutL (c given : List Int) : List Int := c.filter fun n => !(given.any fun y => wrap64 (-n) == y)
def impl_without.f (l0 : List Int) (l1 : List Int) : Option (List Int) := if l0.length < 17592186044416 then some (withoutL l0 l1) else none
set_option maxHeartbeats 8000000 in
set_option maxRecDepth 100000 in
theorem impl_without.calls (A0 : Option Addr) (c0 : Nat) (l0 : List Int) (A1 : Option Addr) (c1 : Nat) (l1 : List Int) (r : List Int) (w : World) (hr0 : Kd.C (Kd.int .i64) w A0 l0.length l0) (hc0 : l0.length ≤ c0) (hr1 : Kd.C (Kd.int .i64) w A1 l1.length l1) (hc1 : l1.length ≤ c1) (h : impl_without.f l0 l1 = some r) :
    Calls Try.prog 81 #[.slice A0 l0.length c0, .slice A1 l1.length c1] w fun e w' => ∃ v0_ : Value, e = .returned (v0_) ∧ Kd.R (Kd.int .i64) 3 w' w.heap.size (fun _ => True) v0_ r ∧ Below w.heap.size w w' := by
  have HR0 := Aside0.mk hr0
  have HC0 := Aside0.mk hc0
  have HR1 := Aside0.mk hr1
  have HRw := Aside0.mk hr1
  have HC1 := Aside0.mk hc1
  clear hr0 hc0 hr1 hc1
  unfold impl_without.f at h
  by_cases c3 : l0.length < 17592186044416
  · rw [if_pos c3] at h
    have HV := Aside0.mk (show slices_Clone_int_int.f l0 = some l0 by unfold slices_Clone_int_int.f; rw [if_pos c3])
    have HR := Aside0.mk (show (l0.filter fun n => !(l1.any fun y => wrap64 (-n) == y)) = r from Option.some.inj h)
    clear c3 h
    have HB := Aside0.mk (Below.refl w.heap.size w)
    have eg := enters_of Try.func86 (by kernel_rfl) rfl
    go_enter Try.func81, Try.ntmps81
    go_wp2_with (first | ((with_reducible refine gate_dst (N := 3) rfl ?_); refine box_event ?hg (N := 3) ?hd (cs := #[.slice A1 l1.length c1]) (t := 29) ?hr ?_; (case hd => rfl); (case hg => rfl); (case hr => first | (go_simp; done) | (go_simp; rfl)); intro gb hg w2 hbox hb; have n0_ := Aside0.mk (below_step (by repeat (first | (with_reducible first | exact HB.out | apply below_alloc | apply pw_below_drewN | apply below_drew1) | exact HB.out)) hb); have n1_ := Aside0.mk hbox; have n2_ := Aside0.mk (Kd.C_below HR0.out hb); clear HB HR0; have HB := n0_; have BK := n1_; have HR0 := n2_; clear n0_ n1_ n2_; clear hb hbox hg) | (go_at_call 45; (with_reducible refine (slices_Clone_int_int.calls _ _ l0 l0 _ ?s1 HC0.out HV.out).mono ?_); (case s1 => repeat (first | exact HR0.out | (with_reducible refine Kd.C_alloc ?_ _) | (with_reducible refine Kd.C_drewN ?_ _) | (with_reducible refine Kd.C_drew ?_))); rintro e w5 ⟨v5, rfl, ho, hb⟩; have n0_ := Aside0.mk (Kd.R_lower ho (below_size (by repeat (first | (with_reducible first | exact HB.out | apply below_alloc | apply pw_below_drewN | apply below_drew1) | exact HB.out)))); have n1_ := Aside0.mk (below_step (by repeat (first | (with_reducible first | exact HB.out | apply below_alloc | apply pw_below_drewN | apply below_drew1) | exact HB.out)) hb); have n2_ := Aside0.mk (blk_below (by (with_reducible repeat (first | refine blk_drewN ?_ _ | refine blk_drew ?_ | refine blk_alloc ?_ _)); exact BK.out) hb); have n3_ := Aside0.mk (show some gb ≠ v5.ownBlock from fun e_ => by have h1 := Kd.R_base ho gb e_.symm; have h2 := blk_lt BK.out; omega); clear HB BK; have HO := n0_; have HB := n1_; have BK := n2_; have NB := n3_; clear n0_ n1_ n2_ n3_ hb ho) | (go_at_call 85; refine (slices_DeleteFunc_int_calls (fun n => l1.any fun y => wrap64 (-n) == y) 86 #[.pointer (some ⟨gb, 0, none⟩)] eg w _ v5 l0 ?s1 ?s2 ?s3).mono ?_; (case s1 => repeat (first | (with_reducible first | exact HB.out | apply below_alloc | apply pw_below_drewN | apply below_drew1) | exact HB.out)); (case s2 => (with_reducible repeat (first | apply Kd.R_alloc | apply Kd.R_drewN | apply Kd.R_drew)); exact HO.out); (case s3 => exact fun x W hW hk => impl_without_1_calls x gb A1 c1 l1 W (Kd.C_below HRw.out hW) HC1.out (blk_cell ((hk gb NB.out (blk_lt BK.out)).trans BK.out) 0)); rintro e w6 ⟨v6, rfl, ho, hb⟩; rw [HR.out] at ho; have HO6 := Aside0.mk ho; have HB6 := Aside0.mk hb; clear ho hb))
    go_ret
    exact ⟨_, rfl, by (with_reducible repeat (first | apply Kd.R_alloc | apply Kd.R_drewN | apply Kd.R_drew)); exact HO6.out, by repeat (first | (with_reducible first | exact HB6.out | apply below_alloc | apply pw_below_drewN | apply below_drew1) | exact HB6.out)⟩
  · rw [if_neg c3] at h
    exact absurd h (by simp)


end Go.Proofs.Ytafffpbagdoniaa.PFnExactFollowsFrom
