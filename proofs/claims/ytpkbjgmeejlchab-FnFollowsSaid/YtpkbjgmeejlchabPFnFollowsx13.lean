-- Made by a program of this session (wip/tools), which leans on the kit's print: checked by Lean alone.
import Derived.Test.YtpkbjgmeejlchabPFnFollowsx0
import Derived.Test.YtpkbjgmeejlchabPFnFollowsx1
import Derived.Test.YtpkbjgmeejlchabPFnFollowsx6
import Derived.Test.YtpkbjgmeejlchabPFnFollowsx8
import Derived.Test.YtpkbjgmeejlchabPFnFollowsx11
import Derived.Test.YtpkbjgmeejlchabPFnFollowsx12
namespace Go.Proofs.Ytpkbjgmeejlchab.PFnFollows
open Go.RowKit Go.Proofs.YtpkbjgmeejlchabW.PrintWords Go.Proofs.YtpkbjgmeejlchabW.PrintLast Go.Proofs.YtpkbjgmeejlchabW.PrintMore
attribute [local go_sem] max2_int min2_int max_two min_two max_three min_three max_four min_four   -- for this text's walks alone
set_option linter.unusedVariables false
set_option linter.unusedSimpArgs false
mutual
def spec_PureIn.l0 : Nat → List Int → List (List Int) → Int → Int → Option (List Int × Bool)
 | 0, _, _, _, _ => none
 | k + 1, x6, x18, x19, x20 => if x20 < x19 then (if 0 ≤ x20 then (if x20 < (x18.length : Int) then (spec_PureIn.l1 k x6 x18 x19 x20 (rd_L2 x18 x20) ((rd_L2 x18 x20).length : Int) 0) else (none)) else (none)) else (spec_PureIn.l2 k x6 ([] : List Int) x6 (x6.length : Int) 0)
def spec_PureIn.l1 : Nat → List Int → List (List Int) → Int → Int → List Int → Int → Int → Option (List Int × Bool)
 | 0, _, _, _, _, _, _, _ => none
 | k + 1, x6, x18, x19, x20, x24, x25, x26 => if x26 < x25 then (if 0 ≤ x26 then (if x26 < (x24.length : Int) then ((spec_l1Put.f k x6 (rd x24 x26)).bind fun t468 => (spec_PureIn.l1 k t468 x18 x19 x20 x24 x25 (wrap64 (x26 + 1)))) else (none)) else (none)) else (spec_PureIn.l0 k x6 x18 x19 (wrap64 (x20 + 1)))
def spec_PureIn.l2 : Nat → List Int → List Int → List Int → Int → Int → Option (List Int × Bool)
 | 0, _, _, _, _, _ => none
 | k + 1, x6, x7, x35, x36, x37 => if x37 < x36 then (if 0 ≤ x37 then (if x37 < (x35.length : Int) then ((spec_l1Has.f k x6 (wrap64 (-(rd x35 x37)))).bind fun t472 => (if t472 = true then (spec_PureIn.l2 k x6 x7 x35 x36 (wrap64 (x37 + 1))) else (if x7.length < 17592186044416 then (spec_PureIn.l2 k x6 (x7 ++ [rd x35 x37]) x35 x36 (wrap64 (x37 + 1))) else (none)))) else (none)) else (none)) else (some (x7, true))
end
def spec_PureIn.f (k : Nat) (a0 : Int) (l1 : List (List Int)) : Option (List Int × Bool) := (spec_GoodClauses.f k a0 l1).bind fun t465 => (if t465 = true then (spec_PureIn.l0 k ([] : List Int) l1 (l1.length : Int) 0) else (some (([] : List Int), false)))
theorem spec_PureIn.mono_l : ∀ k, (∀ y0 y1 y2 y3, LeO (spec_PureIn.l0 k y0 y1 y2 y3) (spec_PureIn.l0 (k + 1) y0 y1 y2 y3)) ∧ (∀ y0 y1 y2 y3 y4 y5 y6, LeO (spec_PureIn.l1 k y0 y1 y2 y3 y4 y5 y6) (spec_PureIn.l1 (k + 1) y0 y1 y2 y3 y4 y5 y6)) ∧ (∀ y0 y1 y2 y3 y4, LeO (spec_PureIn.l2 k y0 y1 y2 y3 y4) (spec_PureIn.l2 (k + 1) y0 y1 y2 y3 y4))
 | 0 => ⟨fun _ _ _ _ r h => by simp [spec_PureIn.l0] at h, fun _ _ _ _ _ _ _ r h => by simp [spec_PureIn.l1] at h, fun _ _ _ _ _ r h => by simp [spec_PureIn.l2] at h⟩
 | k + 1 => by
  obtain ⟨ih0, ih1, ih2⟩ := spec_PureIn.mono_l k
  refine ⟨?_, ?_, ?_⟩
  ·intro y0 y1 y2 y3
   unfold spec_PureIn.l0
   repeat' first
   | (with_reducible exact ih0 _ _ _ _)
   | (with_reducible exact ih1 _ _ _ _ _ _ _)
   | (with_reducible exact ih2 _ _ _ _ _)
   | (with_reducible exact spec_GoodClauses.mono _ _ _)
   | (with_reducible exact spec_l1Has.mono _ _ _)
   | (with_reducible exact spec_l1Put.mono _ _ _)
   | (with_reducible exact LeO.refl _)
   | (with_reducible exact LeO.none _)
   | (with_reducible refine LeO.ite ?_ ?_)
   | (with_reducible refine LeO.bind ?_ (fun _ => ?_))
   | exact ih0 _ _ _ _
   | exact ih1 _ _ _ _ _ _ _
   | exact ih2 _ _ _ _ _
   | exact spec_GoodClauses.mono _ _ _
   | exact spec_l1Has.mono _ _ _
   | exact spec_l1Put.mono _ _ _
   | exact LeO.none _
   | refine LeO.ite ?_ ?_
   | refine LeO.bind ?_ (fun _ => ?_)
  ·intro y0 y1 y2 y3 y4 y5 y6
   unfold spec_PureIn.l1
   repeat' first
   | (with_reducible exact ih0 _ _ _ _)
   | (with_reducible exact ih1 _ _ _ _ _ _ _)
   | (with_reducible exact ih2 _ _ _ _ _)
   | (with_reducible exact spec_GoodClauses.mono _ _ _)
   | (with_reducible exact spec_l1Has.mono _ _ _)
   | (with_reducible exact spec_l1Put.mono _ _ _)
   | (with_reducible exact LeO.refl _)
   | (with_reducible exact LeO.none _)
   | (with_reducible refine LeO.ite ?_ ?_)
   | (with_reducible refine LeO.bind ?_ (fun _ => ?_))
   | exact ih0 _ _ _ _
   | exact ih1 _ _ _ _ _ _ _
   | exact ih2 _ _ _ _ _
   | exact spec_GoodClauses.mono _ _ _
   | exact spec_l1Has.mono _ _ _
   | exact spec_l1Put.mono _ _ _
   | exact LeO.none _
   | refine LeO.ite ?_ ?_
   | refine LeO.bind ?_ (fun _ => ?_)
  ·intro y0 y1 y2 y3 y4
   unfold spec_PureIn.l2
   repeat' first
   | (with_reducible exact ih0 _ _ _ _)
   | (with_reducible exact ih1 _ _ _ _ _ _ _)
   | (with_reducible exact ih2 _ _ _ _ _)
   | (with_reducible exact spec_GoodClauses.mono _ _ _)
   | (with_reducible exact spec_l1Has.mono _ _ _)
   | (with_reducible exact spec_l1Put.mono _ _ _)
   | (with_reducible exact LeO.refl _)
   | (with_reducible exact LeO.none _)
   | (with_reducible refine LeO.ite ?_ ?_)
   | (with_reducible refine LeO.bind ?_ (fun _ => ?_))
   | exact ih0 _ _ _ _
   | exact ih1 _ _ _ _ _ _ _
   | exact ih2 _ _ _ _ _
   | exact spec_GoodClauses.mono _ _ _
   | exact spec_l1Has.mono _ _ _
   | exact spec_l1Put.mono _ _ _
   | exact LeO.none _
   | refine LeO.ite ?_ ?_
   | refine LeO.bind ?_ (fun _ => ?_)
theorem spec_PureIn.mono : ∀ a0 a1 k, LeO (spec_PureIn.f k a0 a1) (spec_PureIn.f (k + 1) a0 a1) := by
 intro a0 a1 k
 obtain ⟨ih0, ih1, ih2⟩ := spec_PureIn.mono_l k
 unfold spec_PureIn.f
 repeat' first
   | (with_reducible exact ih0 _ _ _ _)
   | (with_reducible exact ih1 _ _ _ _ _ _ _)
   | (with_reducible exact ih2 _ _ _ _ _)
   | (with_reducible exact spec_GoodClauses.mono _ _ _)
   | (with_reducible exact spec_l1Has.mono _ _ _)
   | (with_reducible exact spec_l1Put.mono _ _ _)
   | (with_reducible exact LeO.refl _)
   | (with_reducible exact LeO.none _)
   | (with_reducible refine LeO.ite ?_ ?_)
   | (with_reducible refine LeO.bind ?_ (fun _ => ?_))
   | exact ih0 _ _ _ _
   | exact ih1 _ _ _ _ _ _ _
   | exact ih2 _ _ _ _ _
   | exact spec_GoodClauses.mono _ _ _
   | exact spec_l1Has.mono _ _ _
   | exact spec_l1Put.mono _ _ _
   | exact LeO.none _
   | refine LeO.ite ?_ ?_
   | refine LeO.bind ?_ (fun _ => ?_)
set_option maxHeartbeats 8000000 in
set_option maxRecDepth 100000 in
theorem spec_PureIn.calls (k : Nat) (a0 : Int) (A1 : Option Addr) (c1 : Nat) (l1 : List (List Int)) (r1 : List Int) (r2 : Bool) (w : World) (hr1 : Kd.C (Kd.slice 3 (Kd.int .i64)) w A1 l1.length l1) (hc1 : l1.length ≤ c1) (h : spec_PureIn.f k a0 l1 = some (r1, r2)) :
  Calls Try.prog 16 #[.int .i64 a0, .slice A1 l1.length c1] w fun e w' => ∃ v0_ : Value, e = .returned (.tuple #[v0_, .bool r2]) ∧ Kd.R (Kd.int .i64) 3 w' w.heap.size (fun _ => True) v0_ r1 ∧ Below w.heap.size w w' := by
 have HR1 := Aside0.mk hr1
 have HC1 := Aside0.mk hc1
 clear hr1 hc1
 have HB := Aside0.mk (Below.refl w.heap.size w)
 have H : ((spec_GoodClauses.f k a0 l1).bind fun t465 => (if t465 = true then (spec_PureIn.l0 k ([] : List Int) l1 (l1.length : Int) 0) else (some (([] : List Int), false)))) = some (r1, r2) := h
 clear h
 replace H := Option.bind_eq_some_iff.mp H
 obtain ⟨t465, A30, H⟩ := H
 (try dsimp only at H)
 have A3 := Aside0.mk A30
 clear A30
 by_cases c4 : t465 = true
 ·subst c4
  have H1 : (spec_PureIn.l0 k ([] : List Int) l1 (l1.length : Int) 0) = some (r1, r2) := by rw [if_pos rfl] at H; exact H
  clear H
  have H := H1
  clear H1
  have H' := Aside0.mk H
  clear H
  go_enter Try.func16, Try.ntmps16
  go_wp2_with (first | ((with_reducible refine gate_callee (f := 27) rfl ?_); refine goesL_ (some 16) rfl rfl Try.func27 (by kernel_rfl) rfl #[.int .i64 a0, .slice A1 l1.length c1] rfl (by simp only [zA_, zB_, zD_] <;> rfl) ?_; (with_reducible refine (spec_GoodClauses.calls k a0 _ _ l1 true _ ?side1 ?side2 A3.out).mono ?_); (case side1 => exact zC_ HR1.out); (case side2 => exact HC1.out); rintro e w' ⟨rfl, ⟨nd, rfl⟩⟩; refine ⟨_, rfl, ?_⟩))
  go_loopg [6, 20] k (fun kq v6 v20 w' => ∃ (x6_1 : List Int) (x20_1 : Int), v20 = .int .i64 x20_1 ∧ Aside0 (spec_PureIn.l0 kq x6_1 l1 (l1.length : Int) x20_1 = some (r1, r2)) ∧ Aside0 (kq ≤ k) ∧ Aside0 (Kd.R (Kd.int .i64) 3 w' w.heap.size (fun _ => True) v6 x6_1) ∧ Aside0 (Below w.heap.size w w'))
  case atStart => exact ⟨(([] : List Int)), (0), (by first | rfl | (simp; done) | (simp [*]; done)), H', ⟨Nat.le_refl _⟩, ⟨by first | exact Kd.R_nil _ _ _ _ _ | exact Kd.N_nil _ _ _ _ _ | exact Kd.V_nil _ _ _ _ _ | exact Kd.Q_nil _ _ _ _ _ | exact Kd.S_nil _ _ _ _ _⟩, ⟨zb_ HB.out⟩⟩
  case round =>
   clear H'
   try clear c1
   try clear c2
   try clear p2
   try clear c4
   obtain ⟨x6_1, x20_1, rfl, HA, HK1, HO_6, HB⟩ := hrel
   cases gk with
   | zero => exact absurd HA.out (by simp [spec_PureIn.l0])
   | succ k1 =>
    have H := HA.out
    clear HA
    simp only [spec_PureIn.l0] at H
    by_cases c5 : x20_1 < (l1.length : Int)
    ·rw [if_pos c5] at H
     have c5b0 : decide (x20_1 < (l1.length : Int)) = true := decide_eq_true c5
     clear c5
     by_cases c6 : 0 ≤ x20_1
     ·rw [if_pos c6] at H
      have c6b0 : decide (0 ≤ x20_1) = true := decide_eq_true c6
      clear c6
      by_cases c7 : x20_1 < (l1.length : Int)
      ·rw [if_pos c7] at H
       have c7b0 : decide (x20_1 < (l1.length : Int)) = true := decide_eq_true c7
       clear c7
       have H' := Aside0.mk H
       clear H
       have p466 : 0 ≤ (x20_1 : Int) := of_decide_eq_true (by assumption)
       have q466 : x20_1 < (l1.length : Int) := of_decide_eq_true (by assumption)
       obtain ⟨ad466, A466_0, c466_0, e466, hx466_0, hl466_0, hi466_0⟩ := at_L2 HR1.out x20_1 p466 q466
       cases e466
       (try replace hx466_0 := (HB.out.cell (World.block_lt_of_cell? w _ hx466_0)).trans hx466_0)
       have HR466_0 := Aside0.mk hi466_0
       have HC466_0 := Aside0.mk hl466_0
       clear hi466_0 hl466_0
       replace p466 := eq_true p466
       replace q466 := eq_true q466
       go_wp2
       go_loopg [6, 26] k1 (fun kq v6 v26 w' => ∃ (x6_2 : List Int) (x26_2 : Int), v26 = .int .i64 x26_2 ∧ Aside0 (spec_PureIn.l1 kq x6_2 l1 (l1.length : Int) x20_1 (rd_L2 l1 x20_1) ((rd_L2 l1 x20_1).length : Int) x26_2 = some (r1, r2)) ∧ Aside0 (kq ≤ k1) ∧ Aside0 (Kd.R (Kd.int .i64) 3 w' w.heap.size (fun _ => True) v6 x6_2) ∧ Aside0 (Below w.heap.size w w'))
       case atStart => exact ⟨(x6_1), (0), (by first | rfl | (simp; done) | (simp [*]; done)), H', ⟨Nat.le_refl _⟩, ⟨zR_ HO_6.out⟩, ⟨zb_ HB.out⟩⟩
       case round =>
        clear H'
        try clear c1
        try clear c2
        try clear p2
        try clear c4
        try clear p4
        try clear q4
        try clear hx4
        try clear c5
        try clear c5b0
        try clear c6
        try clear c6b0
        try clear c7
        try clear c7b0
        try clear hx466_0
        try clear p2
        try clear p466
        try clear q466
        obtain ⟨x6_2, x26_2, rfl, HA, HK2, HO_6, HB⟩ := hrel
        cases gk with
        | zero => exact absurd HA.out (by simp [spec_PureIn.l1])
        | succ k2 =>
         have H := HA.out
         clear HA
         simp only [spec_PureIn.l1] at H
         by_cases c8 : x26_2 < ((rd_L2 l1 x20_1).length : Int)
         ·rw [if_pos c8] at H
          have c8b0 : decide (x26_2 < ((rd_L2 l1 x20_1).length : Int)) = true := decide_eq_true c8
          clear c8
          by_cases c9 : 0 ≤ x26_2
          ·rw [if_pos c9] at H
           have c9b0 : decide (0 ≤ x26_2) = true := decide_eq_true c9
           clear c9
           by_cases c10 : x26_2 < ((rd_L2 l1 x20_1).length : Int)
           ·rw [if_pos c10] at H
            have c10b0 : decide (x26_2 < ((rd_L2 l1 x20_1).length : Int)) = true := decide_eq_true c10
            clear c10
            replace H := Option.bind_eq_some_iff.mp H
            obtain ⟨t468, A110, H⟩ := H
            (try dsimp only at H)
            have A11 := Aside0.mk A110
            clear A110
            have H' := Aside0.mk H
            clear H
            have p467 : 0 ≤ (x26_2 : Int) := of_decide_eq_true (by assumption)
            have q467 : x26_2 < ((rd_L2 l1 x20_1).length : Int) := of_decide_eq_true (by assumption)
            obtain ⟨ad467, e467, hx467_0⟩ := Kd.at_int HR466_0.out x26_2 p467 q467
            cases e467
            (try replace hx467_0 := (HB.out.cell (World.block_lt_of_cell? w _ hx467_0)).trans hx467_0)
            replace p467 := eq_true p467
            replace q467 := eq_true q467
            obtain ⟨Ao12, co12, eo12⟩ := Kd.R_slice HO_6.out
            subst eo12
            go_wp2_with (first | ((with_reducible refine gate_callee (f := 68) rfl ?_); refine goesL_ (some 32) rfl rfl Try.func68 (by kernel_rfl) rfl #[.slice Ao12 x6_2.length co12, .int .i64 (rd (rd_L2 l1 x20_1) x26_2)] rfl (by simp only [zA_, zB_, zD_] <;> rfl) ?_; (with_reducible refine (spec_l1Put.calls k2 (fun k_ => some k_ = (.slice Ao12 x6_2.length co12 : Value).ownBlock) (.slice Ao12 x6_2.length co12) x6_2 (rd (rd_L2 l1 x20_1) x26_2) t468 w _ ?side1 ?side2 A11.out).mono ?_); (case side1 => exact zb_ HB.out); (case side2 => exact Kd.R_tight rfl HO_6.out); rintro e w13 ⟨v469, rfl, ho0, hb, hkp⟩; refine ⟨_, rfl, ?_⟩; have n0_ := Aside0.mk (Kd.R_mono (ok' := fun k_ => True) ho0 (fun k_ hk_ => trivial)); have n1_ := Aside0.mk (hb); clear HB; clear HO_6; have HO470 := n0_; have HB := n1_; clear n0_ n1_; (try clear hb); (try clear hkp); (try clear ho0)))
            go_roundg k2
            case measure => have := HK1.out; have := HK2.out; omega
            case rel => exact ⟨(t468), (wrap64 (x26_2 + 1)), (by first | rfl | (simp; done) | (simp [*]; done)), H', ⟨by have := HK1.out; have := HK2.out; omega⟩, ⟨zR_ HO470.out⟩, ⟨zb_ HB.out⟩⟩
           ·rw [if_neg c10] at H
            exact absurd H (by simp)
          ·rw [if_neg c9] at H
           exact absurd H (by simp)
         ·rw [if_neg c8] at H
          have c8b0 : decide (x26_2 < ((rd_L2 l1 x20_1).length : Int)) = false := decide_eq_false c8
          clear c8
          have H' := Aside0.mk H
          clear H
          go_wp2
          go_roundg k2
          case measure => have := HK1.out; have := HK2.out; omega
          case rel => exact ⟨(x6_2), (wrap64 (x20_1 + 1)), (by first | rfl | (simp; done) | (simp [*]; done)), H', ⟨by have := HK1.out; have := HK2.out; omega⟩, ⟨zR_ HO_6.out⟩, ⟨zb_ HB.out⟩⟩
      ·rw [if_neg c7] at H
       exact absurd H (by simp)
     ·rw [if_neg c6] at H
      exact absurd H (by simp)
    ·rw [if_neg c5] at H
     have c5b0 : decide (x20_1 < (l1.length : Int)) = false := decide_eq_false c5
     clear c5
     have H' := Aside0.mk H
     clear H
     obtain ⟨Ao14, co14, eo14⟩ := Kd.R_slice HO_6.out
     subst eo14
     go_wp2
     go_loopg [7, 37] k1 (fun kq v7 v37 w' => ∃ (x7_2 : List Int) (x37_2 : Int), v37 = .int .i64 x37_2 ∧ Aside0 (spec_PureIn.l2 kq x6_1 x7_2 x6_1 (x6_1.length : Int) x37_2 = some (r1, r2)) ∧ Aside0 (kq ≤ k1) ∧ Aside0 (Kd.R (Kd.int .i64) 3 w' w.heap.size (fun k_ => some k_ ≠ (v7 : Value).ownBlock) (.slice Ao14 x6_1.length co14) x6_1) ∧ Aside0 (Kd.R (Kd.int .i64) 3 w' w.heap.size (fun k_ => some k_ ≠ ((.slice Ao14 x6_1.length co14) : Value).ownBlock ∧ some k_ ≠ ((.slice Ao14 x6_1.length co14) : Value).ownBlock) v7 x7_2) ∧ Aside0 (Kd.R (Kd.int .i64) 3 w' w.heap.size (fun k_ => some k_ ≠ (v7 : Value).ownBlock) (.slice Ao14 x6_1.length co14) x6_1) ∧ Aside0 (Below w.heap.size w w'))
     case atStart => exact ⟨(([] : List Int)), (0), (by first | rfl | (simp; done) | (simp [*]; done)), H', ⟨Nat.le_refl _⟩, ⟨by (with_reducible repeat (first | apply Kd.R_alloc | apply Kd.R_drewN | apply Kd.R_drew)); exact Kd.R_mono HO_6.out (fun _ hk => (by simp [Value.ownBlock]))⟩, ⟨by first | exact Kd.R_nil _ _ _ _ _ | exact Kd.N_nil _ _ _ _ _ | exact Kd.V_nil _ _ _ _ _ | exact Kd.Q_nil _ _ _ _ _ | exact Kd.S_nil _ _ _ _ _⟩, ⟨by (with_reducible repeat (first | apply Kd.R_alloc | apply Kd.R_drewN | apply Kd.R_drew)); exact Kd.R_mono HO_6.out (fun _ hk => (by simp [Value.ownBlock]))⟩, ⟨zb_ HB.out⟩⟩
     case round =>
      clear H'
      try clear c1
      try clear c2
      try clear p2
      try clear c4
      try clear p4
      try clear q4
      try clear hx4
      try clear c5
      try clear c5b0
      try clear c6
      try clear c6b0
      try clear p6
      try clear c7
      try clear c7b0
      try clear c8
      try clear c8b0
      try clear c9
      try clear c9b0
      try clear c10
      try clear c10b0
      try clear hx466_0
      try clear hx467_0
      try clear p2
      try clear p4
      try clear p466
      try clear p467
      try clear q4
      try clear q466
      try clear q467
      obtain ⟨x7_2, x37_2, rfl, HA, HK2, HO_6, HO_7, HO_35, HB⟩ := hrel
      cases gk with
      | zero => exact absurd HA.out (by simp [spec_PureIn.l2])
      | succ k2 =>
       have H := HA.out
       clear HA
       simp only [spec_PureIn.l2] at H
       by_cases c15 : x37_2 < (x6_1.length : Int)
       ·rw [if_pos c15] at H
        have c15b0 : decide (x37_2 < (x6_1.length : Int)) = true := decide_eq_true c15
        clear c15
        by_cases c16 : 0 ≤ x37_2
        ·rw [if_pos c16] at H
         have c16b0 : decide (0 ≤ x37_2) = true := decide_eq_true c16
         clear c16
         by_cases c17 : x37_2 < (x6_1.length : Int)
         ·rw [if_pos c17] at H
          have c17b0 : decide (x37_2 < (x6_1.length : Int)) = true := decide_eq_true c17
          clear c17
          replace H := Option.bind_eq_some_iff.mp H
          obtain ⟨t472, A180, H⟩ := H
          (try dsimp only at H)
          have A18 := Aside0.mk A180
          clear A180
          by_cases c19 : t472 = true
          ·subst c19
           have H1 : (spec_PureIn.l2 k2 x6_1 x7_2 x6_1 (x6_1.length : Int) (wrap64 (x37_2 + 1))) = some (r1, r2) := by rw [if_pos rfl] at H; exact H
           clear H
           have H := H1
           clear H1
           have H' := Aside0.mk H
           clear H
           have p471 : 0 ≤ (x37_2 : Int) := of_decide_eq_true (by assumption)
           have q471 : x37_2 < (x6_1.length : Int) := of_decide_eq_true (by assumption)
           obtain ⟨ad471, e471, hx471_0⟩ := Kd.at_int (Kd.R_reads' HO_35.out).2.2 x37_2 p471 q471
           cases e471
           replace p471 := eq_true p471
           replace q471 := eq_true q471
           go_wp2_with (first | ((with_reducible refine gate_callee (f := 69) rfl ?_); refine goesL_ (some 44) rfl rfl Try.func69 (by kernel_rfl) rfl #[.slice (some ad471) x6_1.length co14, .int .i64 (wrap64 (-(rd x6_1 x37_2)))] rfl (by simp only [zA_, zB_, zD_] <;> rfl) ?_; (with_reducible refine (spec_l1Has.calls k2 _ _ x6_1 (wrap64 (-(rd x6_1 x37_2))) true _ ?side1 ?side2 A18.out).mono ?_); (case side1 => exact zC_ (Kd.R_reads' HO_6.out).2.2); (case side2 => exact (Kd.R_reads' HO_6.out).2.1); rintro e w' ⟨rfl, ⟨nd, rfl⟩⟩; refine ⟨_, rfl, ?_⟩))
           go_roundg k2
           case measure => have := HK1.out; have := HK2.out; omega
           case rel => exact ⟨(x7_2), (wrap64 (x37_2 + 1)), (by first | rfl | (simp; done) | (simp [*]; done)), H', ⟨by have := HK1.out; have := HK2.out; omega⟩, ⟨zR_ HO_6.out⟩, ⟨zR_ HO_7.out⟩, ⟨zR_ HO_35.out⟩, ⟨zb_ HB.out⟩⟩
          ·replace c19 := Bool.eq_false_iff.mpr c19
           subst c19
           have H1 : (if x7_2.length < 17592186044416 then (spec_PureIn.l2 k2 x6_1 (x7_2 ++ [rd x6_1 x37_2]) x6_1 (x6_1.length : Int) (wrap64 (x37_2 + 1))) else (none)) = some (r1, r2) := by rw [if_neg (show ¬ (false = true) by decide)] at H; exact H
           clear H
           have H := H1
           clear H1
           by_cases c20 : x7_2.length < 17592186044416
           ·rw [if_pos c20] at H
            have LMc20 := Aside0.mk c20
            clear c20
            obtain ⟨y473, hy473⟩ : ∃ y_ : List Int, y_ = (x7_2 ++ [rd x6_1 x37_2]) := ⟨_, rfl⟩
            replace H : (spec_PureIn.l2 k2 x6_1 y473 x6_1 (x6_1.length : Int) (wrap64 (x37_2 + 1))) = some (r1, r2) := by first | (rw [hy473]; with_reducible exact H) | (have H2_ := (Option.bind_some _ _).symm.trans H; rw [hy473]; with_reducible exact H2_) | (have H2_ := (Option.bind_some _ _).symm.trans H; with_reducible exact H2_) | with_reducible exact H | (rw [hy473]; exact H) | exact H
            have Ny473 := Aside0.mk hy473
            clear hy473
            have H' := Aside0.mk H
            clear H
            have p471 : 0 ≤ (x37_2 : Int) := of_decide_eq_true (by assumption)
            have q471 : x37_2 < (x6_1.length : Int) := of_decide_eq_true (by assumption)
            obtain ⟨ad471, e471, hx471_0⟩ := Kd.at_int (Kd.R_reads' HO_35.out).2.2 x37_2 p471 q471
            cases e471
            replace p471 := eq_true p471
            replace q471 := eq_true q471
            go_wp2_with (first | ((with_reducible refine gate_callee (f := 69) rfl ?_); refine goesL_ (some 44) rfl rfl Try.func69 (by kernel_rfl) rfl #[.slice (some ad471) x6_1.length co14, .int .i64 (wrap64 (-(rd x6_1 x37_2)))] rfl (by simp only [zA_, zB_, zD_] <;> rfl) ?_; (with_reducible refine (spec_l1Has.calls k2 _ _ x6_1 (wrap64 (-(rd x6_1 x37_2))) false _ ?side1 ?side2 A18.out).mono ?_); (case side1 => exact zC_ (Kd.R_reads' HO_6.out).2.2); (case side2 => exact (Kd.R_reads' HO_6.out).2.1); rintro e w' ⟨rfl, ⟨nd, rfl⟩⟩; refine ⟨_, rfl, ?_⟩) | ((with_reducible refine gate_builtin (b := .append) (xs := #[.tmp 46, .tmp 48]) rfl ?_); at_builtin; refine Kd.R_append (Kd.int .i64) (w0 := w) w.heap.size rfl (.tmp 46) (.tmp 48) 24 3 (.int .i64 0) 8 rfl Try.underlying24 info3 rfl (by decide) (by omega) u7 x7_2 (rd x6_1 x37_2) [.int .i64 (rd x6_1 x37_2)] (fun k_ => some k_ ≠ (.slice (some ad471) x6_1.length co14 : Value).ownBlock ∧ some k_ ≠ (.slice (some ad471) x6_1.length co14 : Value).ownBlock) (fun _ => False) rfl rfl ?aP (fun _ hk => hk.elim) ?aF ?aO ?aB ?aS ?aL ?_; (case aP => exact rfl); (case aB => exact (zb_ HB.out)); (case aF => exact (fun k_ hk => ⟨Kd.fresh' (Kd.R_lt (zR_ HO_6.out)) k_ hk, Kd.fresh' (Kd.R_lt (zR_ HO_35.out)) k_ hk⟩)); (case aO => exact (zR_ HO_7.out)); (case aS => exact (below_size (zb_ HB.out))); (case aL => have := LMc20.out; omega); intro v474 w21 ho hb hg hat; rw [← Ny473.out] at ho; have n0_ := Aside0.mk (Kd.R_after (ok := (fun _ => True)) (by (with_reducible repeat (first | apply Kd.R_alloc | apply Kd.R_drewN | apply Kd.R_drew)); exact Kd.R_mono HO_6.out (fun _ hk => ⟨trivial, hk⟩)) hg hat); have n1_ := Aside0.mk (Kd.R_after (ok := (fun _ => True)) (by (with_reducible repeat (first | apply Kd.R_alloc | apply Kd.R_drewN | apply Kd.R_drew)); exact Kd.R_mono HO_35.out (fun _ hk => ⟨trivial, hk⟩)) hg hat); have n2_ := Aside0.mk (hb); have n3_ := Aside0.mk (ho); clear HO_6; clear HO_35; clear HB; clear HO_7; have HO_6 := n0_; have HO_35 := n1_; have HB := n2_; have HO475 := n3_; clear n0_ n1_ n2_ n3_; clear ho hb hg hat))
            go_roundg k2
            case measure => have := HK1.out; have := HK2.out; omega
            case rel => exact ⟨(y473), (wrap64 (x37_2 + 1)), (by first | rfl | (simp; done) | (simp [*]; done)), H', ⟨by have := HK1.out; have := HK2.out; omega⟩, ⟨by (with_reducible repeat (first | apply Kd.R_alloc | apply Kd.R_drewN | apply Kd.R_drew)); exact Kd.R_mono HO_6.out (fun _ hk => hk.2)⟩, ⟨zR_ HO475.out⟩, ⟨by (with_reducible repeat (first | apply Kd.R_alloc | apply Kd.R_drewN | apply Kd.R_drew)); exact Kd.R_mono HO_35.out (fun _ hk => hk.2)⟩, ⟨zb_ HB.out⟩⟩
           ·rw [if_neg c20] at H
            exact absurd H (by simp)
         ·rw [if_neg c17] at H
          exact absurd H (by simp)
        ·rw [if_neg c16] at H
         exact absurd H (by simp)
       ·rw [if_neg c15] at H
        have c15b0 : decide (x37_2 < (x6_1.length : Int)) = false := decide_eq_false c15
        clear c15
        simp only [Option.some.injEq, Prod.mk.injEq] at H
        obtain ⟨rfl, rfl⟩ := H
        go_wp2
        go_ret2
        exact ⟨_, by first | rfl | (simp [errW_none, errW_some] <;> rfl) | (simp [*, errW_none, errW_some] <;> rfl), by (with_reducible repeat (first | apply Kd.R_alloc | apply Kd.R_drewN | apply Kd.R_drew)); exact Kd.R_mono HO_7.out (fun _ hk => trivial), zb_ HB.out⟩
 ·replace c4 := Bool.eq_false_iff.mpr c4
  subst c4
  have H1 : (some (([] : List Int), false)) = some (r1, r2) := by rw [if_neg (show ¬ (false = true) by decide)] at H; exact H
  clear H
  have H := H1
  clear H1
  simp only [Option.some.injEq, Prod.mk.injEq] at H
  obtain ⟨rfl, rfl⟩ := H
  go_enter Try.func16, Try.ntmps16
  go_wp2_with (first | ((with_reducible refine gate_callee (f := 27) rfl ?_); refine goesL_ (some 16) rfl rfl Try.func27 (by kernel_rfl) rfl #[.int .i64 a0, .slice A1 l1.length c1] rfl (by simp only [zA_, zB_, zD_] <;> rfl) ?_; (with_reducible refine (spec_GoodClauses.calls k a0 _ _ l1 false _ ?side1 ?side2 A3.out).mono ?_); (case side1 => exact zC_ HR1.out); (case side2 => exact HC1.out); rintro e w' ⟨rfl, ⟨nd, rfl⟩⟩; refine ⟨_, rfl, ?_⟩))
  go_ret2
  exact ⟨_, by first | rfl | (simp [errW_none, errW_some] <;> rfl) | (simp [*, errW_none, errW_some] <;> rfl), by first | exact Kd.R_nil _ _ _ _ _ | exact Kd.N_nil _ _ _ _ _ | exact Kd.V_nil _ _ _ _ _ | exact Kd.Q_nil _ _ _ _ _ | exact Kd.S_nil _ _ _ _ _, zb_ HB.out⟩
mutual
def spec_DrawSameModels.j0 : Nat → Int → List (List Int) → Bool → List Int → Int → Int → Option (Int × (List (List Int)) × (List (List Int)))
 | 0, _, _, _, _, _, _ => none
 | k + 1, x5, x6, x25, x481000, x481001, x481002 => if x25 = true then (spec_DrawSameModels.l0 k x5 x6 ([] : List (List Int)) (wrap64 ((x6.length : Int) - 1))) else ((spec_l1Cur_pick.f x481000 x481001 x481002 (wrap64 ((x6.length : Int) + 1))).bind fun bt488 => (if 0 ≤ bt488.1 then (if bt488.1 ≤ (x6.length : Int) then (some (x5, x6, (x6.take (bt488.1 : Int).toNat))) else (none)) else (none)))
def spec_DrawSameModels.l0 : Nat → Int → List (List Int) → List (List Int) → Int → Option (Int × (List (List Int)) × (List (List Int)))
 | 0, _, _, _, _ => none
 | k + 1, x5, x6, x8, x9 => if x9 ≥ 0 then (if 0 ≤ x9 then (if x9 < (x6.length : Int) then (if x8.length < 5864062014805 then (spec_DrawSameModels.l0 k x5 x6 (x8 ++ [rd_L2 x6 x9]) (wrap64 (x9 - 1))) else (none)) else (none)) else (none)) else (some (x5, x6, x8))
end
def spec_DrawSameModels.f (k : Nat) (l0 : List Int) : Option (Int × (List (List Int)) × (List (List Int))) := (spec_DrawGoodClauses.f k l0).bind fun bt476 => (if (bt476.2.length : Int) > 1 then ((spec_l1Cur_one.f l0 0 0 2).bind fun bt481 => (spec_DrawSameModels.j0 k bt476.1 bt476.2 bt481.1 l0 bt481.2.1 bt481.2.2)) else (spec_DrawSameModels.j0 k bt476.1 bt476.2 false l0 0 0))
theorem spec_DrawSameModels.mono_l : ∀ k, (∀ y0 y1 y2 y3 y4 y5, LeO (spec_DrawSameModels.j0 k y0 y1 y2 y3 y4 y5) (spec_DrawSameModels.j0 (k + 1) y0 y1 y2 y3 y4 y5)) ∧ (∀ y0 y1 y2 y3, LeO (spec_DrawSameModels.l0 k y0 y1 y2 y3) (spec_DrawSameModels.l0 (k + 1) y0 y1 y2 y3))
 | 0 => ⟨fun _ _ _ _ _ _ r h => by simp [spec_DrawSameModels.j0] at h, fun _ _ _ _ r h => by simp [spec_DrawSameModels.l0] at h⟩
 | k + 1 => by
  obtain ⟨ih0, ih1⟩ := spec_DrawSameModels.mono_l k
  refine ⟨?_, ?_⟩
  ·intro y0 y1 y2 y3 y4 y5
   unfold spec_DrawSameModels.j0
   repeat' first
   | (with_reducible exact ih0 _ _ _ _ _ _)
   | (with_reducible exact ih1 _ _ _ _)
   | (with_reducible exact spec_DrawGoodClauses.mono _ _)
   | (with_reducible exact LeO.refl _)
   | (with_reducible exact LeO.none _)
   | (with_reducible refine LeO.ite ?_ ?_)
   | (with_reducible refine LeO.bind ?_ (fun _ => ?_))
   | exact ih0 _ _ _ _ _ _
   | exact ih1 _ _ _ _
   | exact spec_DrawGoodClauses.mono _ _
   | exact LeO.none _
   | refine LeO.ite ?_ ?_
   | refine LeO.bind ?_ (fun _ => ?_)
  ·intro y0 y1 y2 y3
   unfold spec_DrawSameModels.l0
   repeat' first
   | (with_reducible exact ih0 _ _ _ _ _ _)
   | (with_reducible exact ih1 _ _ _ _)
   | (with_reducible exact spec_DrawGoodClauses.mono _ _)
   | (with_reducible exact LeO.refl _)
   | (with_reducible exact LeO.none _)
   | (with_reducible refine LeO.ite ?_ ?_)
   | (with_reducible refine LeO.bind ?_ (fun _ => ?_))
   | exact ih0 _ _ _ _ _ _
   | exact ih1 _ _ _ _
   | exact spec_DrawGoodClauses.mono _ _
   | exact LeO.none _
   | refine LeO.ite ?_ ?_
   | refine LeO.bind ?_ (fun _ => ?_)
theorem spec_DrawSameModels.mono : ∀ a0 k, LeO (spec_DrawSameModels.f k a0) (spec_DrawSameModels.f (k + 1) a0) := by
 intro a0 k
 obtain ⟨ih0, ih1⟩ := spec_DrawSameModels.mono_l k
 unfold spec_DrawSameModels.f
 repeat' first
   | (with_reducible exact ih0 _ _ _ _ _ _)
   | (with_reducible exact ih1 _ _ _ _)
   | (with_reducible exact spec_DrawGoodClauses.mono _ _)
   | (with_reducible exact LeO.refl _)
   | (with_reducible exact LeO.none _)
   | (with_reducible refine LeO.ite ?_ ?_)
   | (with_reducible refine LeO.bind ?_ (fun _ => ?_))
   | exact ih0 _ _ _ _ _ _
   | exact ih1 _ _ _ _
   | exact spec_DrawGoodClauses.mono _ _
   | exact LeO.none _
   | refine LeO.ite ?_ ?_
   | refine LeO.bind ?_ (fun _ => ?_)
set_option maxHeartbeats 8000000 in
set_option maxRecDepth 100000 in
theorem spec_DrawSameModels.calls (k : Nat) (A0 : Option Addr) (c0 : Nat) (l0 : List Int) (r1 : Int) (r2 : List (List Int)) (r3 : List (List Int)) (w : World) (hr0 : Kd.C (Kd.int .u8) w A0 l0.length l0) (hc0 : l0.length ≤ c0) (h : spec_DrawSameModels.f k l0 = some (r1, r2, r3)) :
  Calls Try.prog 17 #[.slice A0 l0.length c0] w fun e w' => ∃ v1_ v2_ : Value, e = .returned (.tuple #[.int .i64 r1, v1_, v2_]) ∧ Kd.N (Kd.slice 3 (Kd.int .i64)) 24 w' w.heap.size (fun k_ => (w.heap.size ≤ k_)) v1_ r2 ∧ Kd.V (Kd.slice 3 (Kd.int .i64)) 24 w' w.heap.size (fun k_ => (w.heap.size ≤ k_)) v2_ r3 ∧ Below w.heap.size w w' := by
 have hu69 := Try.underlying69
 have HR0 := Aside0.mk hr0
 have HC0 := Aside0.mk hc0
 clear hr0 hc0
 have HB := Aside0.mk (Below.refl w.heap.size w)
 have H : ((spec_DrawGoodClauses.f k l0).bind fun bt476 => (if (bt476.2.length : Int) > 1 then ((spec_l1Cur_one.f l0 0 0 2).bind fun bt481 => (spec_DrawSameModels.j0 k bt476.1 bt476.2 bt481.1 l0 bt481.2.1 bt481.2.2)) else (spec_DrawSameModels.j0 k bt476.1 bt476.2 false l0 0 0))) = some (r1, r2, r3) := h
 clear h
 replace H := Option.bind_eq_some_iff.mp H
 obtain ⟨⟨t476, t477⟩, A20, H⟩ := H
 (try dsimp only at H)
 have A2 := Aside0.mk A20
 clear A20
 have HC3 := Aside0.mk H
 clear H
 go_enter Try.func17, Try.ntmps17
 go_upto_region 3 with (first | (go_at_call 65; (with_reducible refine (spec_DrawGoodClauses.calls k _ _ l0 t476 t477 _ ?side1 ?side2 A2.out).mono ?_); (case side1 => exact zC_ HR0.out); (case side2 => exact HC0.out); rintro e w4 ⟨v478, rfl, ho0, hb⟩; have n0_ := Aside0.mk (Kd.N_lower (Kd.N_mono (ok' := fun k_ => (w.heap.size ≤ k_)) (Kd.S_N (Kd.S_bound ho0)) (fun k_ hk_ => (Nat.le_trans (below_size (zb_ HB.out)) hk_.2.1))) (below_size (zb_ HB.out))); have n1_ := Aside0.mk (below_step (zb_ HB.out) hb); clear HB; have HO479 := n0_; have HB := n1_; clear n0_ n1_; (try clear hb); (try clear hb2); (try clear hk); (try clear hi); (try clear ho0)) | ((with_reducible refine gate_dst (N := 18) rfl ?_); refine box_event ?hg (N := 18) ?hd (cs := #[.slice A0 l0.length c0, .int .i64 0, .int .u64 0]) (t := 69) ?hr ?_; (case hd => rfl); (case hg => rfl); (case hr => first | (go_simp; done) | (go_simp; rfl)); intro gb480 hg w5 hbox hb; have n0_ := Aside0.mk (Kd.N_below (Kd.N_elderB (zN_ HO479.out) gb480 (Nat.le_of_eq hg.symm)) hb); have n1_ := Aside0.mk (below_step (zb_ HB.out) hb); have n2_ := Aside0.mk ((show IsS69 w w5 gb480 l0 0 0 from ⟨_, _,  hbox, (by rw [hg]; exact (below_size (zb_ HB.out)) : w.heap.size ≤ gb480), HR0.out⟩)); clear HO479; clear HB; have HO479 := n0_; have HB := n1_; have HI480 := n2_; clear n0_ n1_ n2_; clear hb hbox hg))
 repeat (go_quiet (first | (go_at_call 65; (with_reducible refine (spec_DrawGoodClauses.calls k _ _ l0 t476 t477 _ ?side1 ?side2 A2.out).mono ?_); (case side1 => exact zC_ HR0.out); (case side2 => exact HC0.out); rintro e w4 ⟨v478, rfl, ho0, hb⟩; have n0_ := Aside0.mk (Kd.N_lower (Kd.N_mono (ok' := fun k_ => (w.heap.size ≤ k_)) (Kd.S_N (Kd.S_bound ho0)) (fun k_ hk_ => (Nat.le_trans (below_size (zb_ HB.out)) hk_.2.1))) (below_size (zb_ HB.out))); have n1_ := Aside0.mk (below_step (zb_ HB.out) hb); clear HB; have HO479 := n0_; have HB := n1_; clear n0_ n1_; (try clear hb); (try clear hb2); (try clear hk); (try clear hi); (try clear ho0)) | ((with_reducible refine gate_dst (N := 18) rfl ?_); refine box_event ?hg (N := 18) ?hd (cs := #[.slice A0 l0.length c0, .int .i64 0, .int .u64 0]) (t := 69) ?hr ?_; (case hd => rfl); (case hg => rfl); (case hr => first | (go_simp; done) | (go_simp; rfl)); intro gb480 hg w5 hbox hb; have n0_ := Aside0.mk (Kd.N_below (Kd.N_elderB (zN_ HO479.out) gb480 (Nat.le_of_eq hg.symm)) hb); have n1_ := Aside0.mk (below_step (zb_ HB.out) hb); have n2_ := Aside0.mk ((show IsS69 w w5 gb480 l0 0 0 from ⟨_, _,  hbox, (by rw [hg]; exact (below_size (zb_ HB.out)) : w.heap.size ≤ gb480), HR0.out⟩)); clear HO479; clear HB; have HO479 := n0_; have HB := n1_; have HI480 := n2_; clear n0_ n1_ n2_; clear hb hbox hg)); go_upto_region 3 with (first | (go_at_call 65; (with_reducible refine (spec_DrawGoodClauses.calls k _ _ l0 t476 t477 _ ?side1 ?side2 A2.out).mono ?_); (case side1 => exact zC_ HR0.out); (case side2 => exact HC0.out); rintro e w4 ⟨v478, rfl, ho0, hb⟩; have n0_ := Aside0.mk (Kd.N_lower (Kd.N_mono (ok' := fun k_ => (w.heap.size ≤ k_)) (Kd.S_N (Kd.S_bound ho0)) (fun k_ hk_ => (Nat.le_trans (below_size (zb_ HB.out)) hk_.2.1))) (below_size (zb_ HB.out))); have n1_ := Aside0.mk (below_step (zb_ HB.out) hb); clear HB; have HO479 := n0_; have HB := n1_; clear n0_ n1_; (try clear hb); (try clear hb2); (try clear hk); (try clear hi); (try clear ho0)) | ((with_reducible refine gate_dst (N := 18) rfl ?_); refine box_event ?hg (N := 18) ?hd (cs := #[.slice A0 l0.length c0, .int .i64 0, .int .u64 0]) (t := 69) ?hr ?_; (case hd => rfl); (case hg => rfl); (case hr => first | (go_simp; done) | (go_simp; rfl)); intro gb480 hg w5 hbox hb; have n0_ := Aside0.mk (Kd.N_below (Kd.N_elderB (zN_ HO479.out) gb480 (Nat.le_of_eq hg.symm)) hb); have n1_ := Aside0.mk (below_step (zb_ HB.out) hb); have n2_ := Aside0.mk ((show IsS69 w w5 gb480 l0 0 0 from ⟨_, _,  hbox, (by rw [hg]; exact (below_size (zb_ HB.out)) : w.heap.size ≤ gb480), HR0.out⟩)); clear HO479; clear HB; have HO479 := n0_; have HB := n1_; have HI480 := n2_; clear n0_ n1_ n2_; clear hb hbox hg)))
 (try simp only [Act.put, List.setIfInBounds_toArray, List.set_cons_zero, List.set_cons_succ])
 go_cut [25] (fun v25 wc => ∃ (kq : Nat) (x25_2 : Bool) (x481001_2 : Int) (x481002_2 : Int), v25 = .bool x25_2 ∧ Aside0 (spec_DrawSameModels.j0 kq t476 t477 x25_2 l0 x481001_2 x481002_2 = some (r1, r2, r3)) ∧ Aside0 (kq ≤ k) ∧ Aside0 (Kd.N (Kd.slice 3 (Kd.int .i64)) 24 wc w.heap.size (fun k_ => (w.heap.size ≤ k_) ∧ k_ ≠ gb480) v478 t477) ∧ Aside0 (IsS69 w wc gb480 l0 x481001_2 x481002_2) ∧ Aside0 (Below w.heap.size w wc))
 case first =>
  have H := HC3.out
  clear HC3
  by_cases c6 : (t477.length : Int) > 1
  ·rw [if_pos c6] at H
   have c6b0 : decide (1 < (t477.length : Int)) = true := decide_eq_true c6
   have c6b1 : decide (1 < t477.length) = true := decide_eq_true (by omega)
   clear c6
   (first | rw [c6b0] | (simp only [i64_w, i32_w]; rw [c6b0]) | skip)
   replace H := Option.bind_eq_some_iff.mp H
   obtain ⟨⟨t481, t482, t483⟩, A70, H⟩ := H
   (try dsimp only at H)
   have A7 := Aside0.mk A70
   clear A70
   have H' := Aside0.mk H
   clear H
   obtain ⟨Ao8, co8, eo8⟩ := Kd.N_slice HO479.out
   subst eo8
   go_wp2_with (first | (go_at_call 56; (with_reducible refine (spec_l1Cur_one.calls gb480 l0 0 0 2 t481 t482 t483 w _ ?side1 ?side2 A7.out).mono ?_); (case side1 => exact IsS69.g HI480.out); (case side2 => exact zb_ HB.out); rintro e w9 ⟨rfl, hi, hb, hk⟩; have n0_ := Aside0.mk (Kd.N_mono (Kd.N_keep (Kd.N_mono (ok := fun k_ => (((w.heap.size ≤ k_)) ∧ k_ ≠ gb480)) (zN_ HO479.out) (fun k_ hk_ => (⟨hk_, hk_.2⟩ : _ ∧ k_ ≠ gb480))) hk (fun _ h => h.2)) (fun _ h => h.1)); have n1_ := Aside0.mk (hb); have n2_ := Aside0.mk (hi); clear HO479; clear HB; clear HI480; have HO479 := n0_; have HB := n1_; have HI480 := n2_; clear n0_ n1_ n2_; (try clear hb); (try clear hb2); (try clear hk); (try clear hi)))
   repeat (go_quiet (first | (go_at_call 56; (with_reducible refine (spec_l1Cur_one.calls gb480 l0 0 0 2 t481 t482 t483 w _ ?side1 ?side2 A7.out).mono ?_); (case side1 => exact IsS69.g HI480.out); (case side2 => exact zb_ HB.out); rintro e w9 ⟨rfl, hi, hb, hk⟩; have n0_ := Aside0.mk (Kd.N_mono (Kd.N_keep (Kd.N_mono (ok := fun k_ => (((w.heap.size ≤ k_)) ∧ k_ ≠ gb480)) (zN_ HO479.out) (fun k_ hk_ => (⟨hk_, hk_.2⟩ : _ ∧ k_ ≠ gb480))) hk (fun _ h => h.2)) (fun _ h => h.1)); have n1_ := Aside0.mk (hb); have n2_ := Aside0.mk (hi); clear HO479; clear HB; clear HI480; have HO479 := n0_; have HB := n1_; have HI480 := n2_; clear n0_ n1_ n2_; (try clear hb); (try clear hb2); (try clear hk); (try clear hi))); try go_wp2_with (first | (go_at_call 56; (with_reducible refine (spec_l1Cur_one.calls gb480 l0 0 0 2 t481 t482 t483 w _ ?side1 ?side2 A7.out).mono ?_); (case side1 => exact IsS69.g HI480.out); (case side2 => exact zb_ HB.out); rintro e w9 ⟨rfl, hi, hb, hk⟩; have n0_ := Aside0.mk (Kd.N_mono (Kd.N_keep (Kd.N_mono (ok := fun k_ => (((w.heap.size ≤ k_)) ∧ k_ ≠ gb480)) (zN_ HO479.out) (fun k_ hk_ => (⟨hk_, hk_.2⟩ : _ ∧ k_ ≠ gb480))) hk (fun _ h => h.2)) (fun _ h => h.1)); have n1_ := Aside0.mk (hb); have n2_ := Aside0.mk (hi); clear HO479; clear HB; clear HI480; have HO479 := n0_; have HB := n1_; have HI480 := n2_; clear n0_ n1_ n2_; (try clear hb); (try clear hb2); (try clear hk); (try clear hi))))
   go_meet
   case rel => exact ⟨_, (t481), (t482), (t483), (by first | rfl | (simp; done) | (simp [*]; done)), H', ⟨by first | omega | exact Nat.le_refl _⟩, ⟨zN_ HO479.out⟩, ⟨IsS69.g HI480.out⟩, ⟨zb_ HB.out⟩⟩
  ·rw [if_neg c6] at H
   have c6b0 : decide (1 < (t477.length : Int)) = false := decide_eq_false c6
   have c6b1 : decide (1 < t477.length) = false := decide_eq_false (by omega)
   clear c6
   (first | rw [c6b0] | (simp only [i64_w, i32_w]; rw [c6b0]) | skip)
   have H' := Aside0.mk H
   clear H
   obtain ⟨Ao10, co10, eo10⟩ := Kd.N_slice HO479.out
   subst eo10
   go_wp2
   repeat (go_quiet (fail); try go_wp2)
   go_meet
   case rel => exact ⟨_, (false), (0), (0), (by first | rfl | (simp; done) | (simp [*]; done)), H', ⟨by first | omega | exact Nat.le_refl _⟩, ⟨zN_ HO479.out⟩, ⟨IsS69.g HI480.out⟩, ⟨zb_ HB.out⟩⟩
 case rest =>
  clear HC3
  try clear c1
  try clear p2
  try clear c6
  try clear c6b0
  try clear c6b1
  obtain ⟨kq, x25_2, x481001_2, x481002_2, rfl, HA, HJ2, HO_6, HI480, HB⟩ := hcut
  cases kq with
  | zero => exact absurd HA.out (by simp [spec_DrawSameModels.j0])
  | succ kj2 =>
   have H := HA.out
   clear HA
   simp only [spec_DrawSameModels.j0] at H
   by_cases c11 : x25_2 = true
   ·subst c11
    have H1 : (spec_DrawSameModels.l0 kj2 t476 t477 ([] : List (List Int)) (wrap64 ((t477.length : Int) - 1))) = some (r1, r2, r3) := by rw [if_pos rfl] at H; exact H
    clear H
    have H := H1
    clear H1
    have H' := Aside0.mk H
    clear H
    obtain ⟨Ao12, co12, eo12⟩ := Kd.N_slice HO_6.out
    subst eo12
    go_wp2
    repeat (go_quiet (fail); try go_wp2)
    go_loopg [8, 9] kj2 (fun kq v8 v9 w' => ∃ (x8_2 : List (List Int)) (x9_2 : Int), v9 = .int .i64 x9_2 ∧ Aside0 (spec_DrawSameModels.l0 kq t476 t477 x8_2 x9_2 = some (r1, r2, r3)) ∧ Aside0 (kq ≤ kj2) ∧ Aside0 (Kd.N (Kd.slice 3 (Kd.int .i64)) 24 w' w.heap.size (fun k_ => (w.heap.size ≤ k_) ∧ some k_ ≠ (v8 : Value).ownBlock) (.slice Ao12 t477.length co12) t477) ∧ Aside0 (Kd.N (Kd.slice 3 (Kd.int .i64)) 24 w' w.heap.size (fun k_ => (w.heap.size ≤ k_) ∧ some k_ ≠ ((.slice Ao12 t477.length co12) : Value).ownBlock) v8 x8_2) ∧ Aside0 (Below w.heap.size w w'))
    case atStart => exact ⟨(([] : List (List Int))), (wrap64 ((t477.length : Int) - 1)), (by first | rfl | (simp; done) | (simp [*]; done)), H', ⟨Nat.le_refl _⟩, ⟨by (with_reducible repeat (first | apply Kd.N_alloc | apply Kd.N_drewN | apply Kd.N_drew)); exact Kd.N_mono HO_6.out (fun _ hk => ⟨hk.1, (by simp [Value.ownBlock])⟩)⟩, ⟨by first | exact Kd.S_nil _ _ _ _ _ | exact Kd.N_nil _ _ _ _ _ | exact Kd.V_nil _ _ _ _ _ | exact Kd.Q_nil _ _ _ _ _ | exact Kd.R_nil _ _ _ _ _⟩, ⟨zb_ HB.out⟩⟩
    case round =>
     clear H'
     try clear c1
     try clear p2
     try clear c6
     try clear c6b0
     try clear c6b1
     try clear p6
     try clear c11
     try clear p2
     obtain ⟨x8_2, x9_2, rfl, HA, HK2, HO_6, HO_8, HB⟩ := hrel
     cases gk with
     | zero => exact absurd HA.out (by simp [spec_DrawSameModels.l0])
     | succ k2 =>
      have H := HA.out
      clear HA
      simp only [spec_DrawSameModels.l0] at H
      by_cases c13 : x9_2 ≥ 0
      ·rw [if_pos c13] at H
       have c13b0 : decide (0 ≤ x9_2) = true := decide_eq_true c13
       clear c13
       by_cases c14 : 0 ≤ x9_2
       ·rw [if_pos c14] at H
        have c14b0 : decide (0 ≤ x9_2) = true := decide_eq_true c14
        clear c14
        by_cases c15 : x9_2 < (t477.length : Int)
        ·rw [if_pos c15] at H
         have c15b0 : decide (x9_2 < (t477.length : Int)) = true := decide_eq_true c15
         clear c15
         by_cases c16 : x8_2.length < 5864062014805
         ·rw [if_pos c16] at H
          have LMc16 := Aside0.mk c16
          clear c16
          obtain ⟨y485, hy485⟩ : ∃ y_ : List (List Int), y_ = (x8_2 ++ [rd_L2 t477 x9_2]) := ⟨_, rfl⟩
          replace H : (spec_DrawSameModels.l0 k2 t476 t477 y485 (wrap64 (x9_2 - 1))) = some (r1, r2, r3) := by first | (rw [hy485]; with_reducible exact H) | (have H2_ := (Option.bind_some _ _).symm.trans H; rw [hy485]; with_reducible exact H2_) | (have H2_ := (Option.bind_some _ _).symm.trans H; with_reducible exact H2_) | with_reducible exact H | (rw [hy485]; exact H) | exact H
          have Ny485 := Aside0.mk hy485
          clear hy485
          have H' := Aside0.mk H
          clear H
          have p484 : 0 ≤ (x9_2 : Int) := of_decide_eq_true (by assumption)
          have q484 : x9_2 < (t477.length : Int) := of_decide_eq_true (by assumption)
          obtain ⟨ad484, A484_0, c484_0, e484, hx484_0, hl484_0, hi484_0⟩ := at_L2 (Kd.N_reads' HO_6.out).2.2 x9_2 p484 q484
          cases e484
          obtain ⟨ce484, hce484, hMe484, hcc484⟩ := Kd.N_get HO_6.out [] x9_2 p484 (by first | exact q484 | exact of_decide_eq_true (by assumption) | (have e_ := (Kd.N_reads' HO_6.out).1; omega))
          obtain ⟨ua484_0, uc484_0, rfl, ul484_0, ge484_0⟩ := Kd.FK_slice_open hMe484
          have hv484_0 := hcc484 0 _ rfl
          rw [Nat.add_zero, show ((Kd.slice 3 (Kd.int .i64))).sz = 1 from rfl, Nat.mul_one] at hv484_0
          replace hv484_0 := Option.some.inj (hv484_0.symm.trans hx484_0)
          injection hv484_0 with hva_ hvn_ hvc_
          rw [hva_] at ge484_0
          rw [hvc_] at ul484_0
          have HL484_0 := Aside0.mk (show Kd.V (Kd.int .i64) 3 _ w.heap.size _ _ (rd_L2 t477 x9_2) from Kd.V_mk ul484_0 ge484_0)
          clear hva_ hvn_ hvc_ ge484_0 ul484_0
          clear hcc484 hce484
          have HR484_0 := Aside0.mk hi484_0
          have HC484_0 := Aside0.mk hl484_0
          clear hi484_0 hl484_0
          replace p484 := eq_true p484
          replace q484 := eq_true q484
          go_wp2_with (first | ((with_reducible refine gate_builtin (b := .append) (xs := #[.tmp 33, .tmp 38]) rfl ?_); at_builtin; refine Kd.N_append (Kd.slice 3 (Kd.int .i64)) (w0 := w) w.heap.size rfl (.tmp 33) (.tmp 38) 23 24 (.slice none 0 0) 24 rfl Try.underlying23 info24 rfl (by decide) (by omega) u8 x8_2 (rd_L2 t477 x9_2) [.slice A484_0 (rd_L2 t477 x9_2).length c484_0] (fun k_ => (w.heap.size ≤ k_) ∧ some k_ ≠ (.slice (some ad484) t477.length co12 : Value).ownBlock) (fun k_ => ((fun k_ => (w.heap.size ≤ k_) ∧ some k_ ≠ (.slice (some ad484) t477.length co12 : Value).ownBlock)) k_ ∧ some k_ ≠ (u8 : Value).ownBlock) rfl rfl ?aP (fun _ hk => hk) ?aF ?aO ?aB ?aS ?aL ?_; (case aP => exact (Kd.FK_slice_mk (Kd.V_reads' (Kd.V_mono (ok' := (fun k_ => ((fun k_ => (w.heap.size ≤ k_) ∧ some k_ ≠ (.slice (some ad484) t477.length co12 : Value).ownBlock)) k_ ∧ some k_ ≠ (u8 : Value).ownBlock)) (HL484_0.out) (fun k_ hk => ⟨⟨hk.1.1, hk.2⟩, hk.1.2⟩))).2.1 (Kd.V_F (Kd.V_mono (ok' := (fun k_ => ((fun k_ => (w.heap.size ≤ k_) ∧ some k_ ≠ (.slice (some ad484) t477.length co12 : Value).ownBlock)) k_ ∧ some k_ ≠ (u8 : Value).ownBlock)) (HL484_0.out) (fun k_ hk => ⟨⟨hk.1.1, hk.2⟩, hk.1.2⟩))))); (case aB => exact (zb_ HB.out)); (case aF => exact (fun k_ hk => ⟨(Nat.le_trans (below_size (zb_ HB.out)) hk), Kd.fresh' (Kd.N_lt (zN_ HO_6.out)) k_ hk⟩)); (case aO => exact (zN_ HO_8.out)); (case aS => exact (below_size (zb_ HB.out))); (case aL => have := LMc16.out; omega); intro v486 w17 ho hb hg hat; rw [← Ny485.out] at ho; have n0_ := Aside0.mk (Kd.N_afterv (ok := (fun k_ => (w.heap.size ≤ k_))) (zN_ HO_6.out) hg hat); have n1_ := Aside0.mk (Kd.V_afterv (ok := (fun k_ => (w.heap.size ≤ k_) ∧ some k_ ≠ (.slice (some ad484) t477.length co12 : Value).ownBlock)) (by (with_reducible repeat (first | apply Kd.V_alloc | apply Kd.V_drewN | apply Kd.V_drew)); exact Kd.V_mono HL484_0.out (fun _ hk => ⟨⟨hk.1.1, hk.2⟩, hk.1.2⟩)) hg hat); have n2_ := Aside0.mk (hb); have n3_ := Aside0.mk (ho); clear HO_6; clear HL484_0; clear HB; clear HO_8; have HO_6 := n0_; have HL484_0 := n1_; have HB := n2_; have HO487 := n3_; clear n0_ n1_ n2_ n3_; clear ho hb hg hat))
          repeat (go_quiet (first | ((with_reducible refine gate_builtin (b := .append) (xs := #[.tmp 33, .tmp 38]) rfl ?_); at_builtin; refine Kd.N_append (Kd.slice 3 (Kd.int .i64)) (w0 := w) w.heap.size rfl (.tmp 33) (.tmp 38) 23 24 (.slice none 0 0) 24 rfl Try.underlying23 info24 rfl (by decide) (by omega) u8 x8_2 (rd_L2 t477 x9_2) [.slice A484_0 (rd_L2 t477 x9_2).length c484_0] (fun k_ => (w.heap.size ≤ k_) ∧ some k_ ≠ (.slice (some ad484) t477.length co12 : Value).ownBlock) (fun k_ => ((fun k_ => (w.heap.size ≤ k_) ∧ some k_ ≠ (.slice (some ad484) t477.length co12 : Value).ownBlock)) k_ ∧ some k_ ≠ (u8 : Value).ownBlock) rfl rfl ?aP (fun _ hk => hk) ?aF ?aO ?aB ?aS ?aL ?_; (case aP => exact (Kd.FK_slice_mk (Kd.V_reads' (Kd.V_mono (ok' := (fun k_ => ((fun k_ => (w.heap.size ≤ k_) ∧ some k_ ≠ (.slice (some ad484) t477.length co12 : Value).ownBlock)) k_ ∧ some k_ ≠ (u8 : Value).ownBlock)) (HL484_0.out) (fun k_ hk => ⟨⟨hk.1.1, hk.2⟩, hk.1.2⟩))).2.1 (Kd.V_F (Kd.V_mono (ok' := (fun k_ => ((fun k_ => (w.heap.size ≤ k_) ∧ some k_ ≠ (.slice (some ad484) t477.length co12 : Value).ownBlock)) k_ ∧ some k_ ≠ (u8 : Value).ownBlock)) (HL484_0.out) (fun k_ hk => ⟨⟨hk.1.1, hk.2⟩, hk.1.2⟩))))); (case aB => exact (zb_ HB.out)); (case aF => exact (fun k_ hk => ⟨(Nat.le_trans (below_size (zb_ HB.out)) hk), Kd.fresh' (Kd.N_lt (zN_ HO_6.out)) k_ hk⟩)); (case aO => exact (zN_ HO_8.out)); (case aS => exact (below_size (zb_ HB.out))); (case aL => have := LMc16.out; omega); intro v486 w17 ho hb hg hat; rw [← Ny485.out] at ho; have n0_ := Aside0.mk (Kd.N_afterv (ok := (fun k_ => (w.heap.size ≤ k_))) (zN_ HO_6.out) hg hat); have n1_ := Aside0.mk (Kd.V_afterv (ok := (fun k_ => (w.heap.size ≤ k_) ∧ some k_ ≠ (.slice (some ad484) t477.length co12 : Value).ownBlock)) (by (with_reducible repeat (first | apply Kd.V_alloc | apply Kd.V_drewN | apply Kd.V_drew)); exact Kd.V_mono HL484_0.out (fun _ hk => ⟨⟨hk.1.1, hk.2⟩, hk.1.2⟩)) hg hat); have n2_ := Aside0.mk (hb); have n3_ := Aside0.mk (ho); clear HO_6; clear HL484_0; clear HB; clear HO_8; have HO_6 := n0_; have HL484_0 := n1_; have HB := n2_; have HO487 := n3_; clear n0_ n1_ n2_ n3_; clear ho hb hg hat)); try go_wp2_with (first | ((with_reducible refine gate_builtin (b := .append) (xs := #[.tmp 33, .tmp 38]) rfl ?_); at_builtin; refine Kd.N_append (Kd.slice 3 (Kd.int .i64)) (w0 := w) w.heap.size rfl (.tmp 33) (.tmp 38) 23 24 (.slice none 0 0) 24 rfl Try.underlying23 info24 rfl (by decide) (by omega) u8 x8_2 (rd_L2 t477 x9_2) [.slice A484_0 (rd_L2 t477 x9_2).length c484_0] (fun k_ => (w.heap.size ≤ k_) ∧ some k_ ≠ (.slice (some ad484) t477.length co12 : Value).ownBlock) (fun k_ => ((fun k_ => (w.heap.size ≤ k_) ∧ some k_ ≠ (.slice (some ad484) t477.length co12 : Value).ownBlock)) k_ ∧ some k_ ≠ (u8 : Value).ownBlock) rfl rfl ?aP (fun _ hk => hk) ?aF ?aO ?aB ?aS ?aL ?_; (case aP => exact (Kd.FK_slice_mk (Kd.V_reads' (Kd.V_mono (ok' := (fun k_ => ((fun k_ => (w.heap.size ≤ k_) ∧ some k_ ≠ (.slice (some ad484) t477.length co12 : Value).ownBlock)) k_ ∧ some k_ ≠ (u8 : Value).ownBlock)) (HL484_0.out) (fun k_ hk => ⟨⟨hk.1.1, hk.2⟩, hk.1.2⟩))).2.1 (Kd.V_F (Kd.V_mono (ok' := (fun k_ => ((fun k_ => (w.heap.size ≤ k_) ∧ some k_ ≠ (.slice (some ad484) t477.length co12 : Value).ownBlock)) k_ ∧ some k_ ≠ (u8 : Value).ownBlock)) (HL484_0.out) (fun k_ hk => ⟨⟨hk.1.1, hk.2⟩, hk.1.2⟩))))); (case aB => exact (zb_ HB.out)); (case aF => exact (fun k_ hk => ⟨(Nat.le_trans (below_size (zb_ HB.out)) hk), Kd.fresh' (Kd.N_lt (zN_ HO_6.out)) k_ hk⟩)); (case aO => exact (zN_ HO_8.out)); (case aS => exact (below_size (zb_ HB.out))); (case aL => have := LMc16.out; omega); intro v486 w17 ho hb hg hat; rw [← Ny485.out] at ho; have n0_ := Aside0.mk (Kd.N_afterv (ok := (fun k_ => (w.heap.size ≤ k_))) (zN_ HO_6.out) hg hat); have n1_ := Aside0.mk (Kd.V_afterv (ok := (fun k_ => (w.heap.size ≤ k_) ∧ some k_ ≠ (.slice (some ad484) t477.length co12 : Value).ownBlock)) (by (with_reducible repeat (first | apply Kd.V_alloc | apply Kd.V_drewN | apply Kd.V_drew)); exact Kd.V_mono HL484_0.out (fun _ hk => ⟨⟨hk.1.1, hk.2⟩, hk.1.2⟩)) hg hat); have n2_ := Aside0.mk (hb); have n3_ := Aside0.mk (ho); clear HO_6; clear HL484_0; clear HB; clear HO_8; have HO_6 := n0_; have HL484_0 := n1_; have HB := n2_; have HO487 := n3_; clear n0_ n1_ n2_ n3_; clear ho hb hg hat)))
          go_roundg k2
          case measure => have := HJ2.out; have := HK2.out; omega
          case rel => exact ⟨(y485), (wrap64 (x9_2 - 1)), (by first | rfl | (simp; done) | (simp [*]; done)), H', ⟨by have := HJ2.out; have := HK2.out; omega⟩, ⟨zN_ HO_6.out⟩, ⟨zN_ HO487.out⟩, ⟨zb_ HB.out⟩⟩
         ·rw [if_neg c16] at H
          exact absurd H (by simp)
        ·rw [if_neg c15] at H
         exact absurd H (by simp)
       ·rw [if_neg c14] at H
        exact absurd H (by simp)
      ·rw [if_neg c13] at H
       have c13b0 : decide (0 ≤ x9_2) = false := decide_eq_false c13
       clear c13
       simp only [Option.some.injEq, Prod.mk.injEq] at H
       obtain ⟨rfl, rfl, rfl⟩ := H
       go_wp2
       repeat (go_quiet (fail); try go_wp2)
       go_ret3
       exact ⟨_, _, by first | rfl | (simp [errW_none, errW_some] <;> rfl) | (simp [*, errW_none, errW_some] <;> rfl), by (with_reducible repeat (first | apply Kd.N_alloc | apply Kd.N_drewN | apply Kd.N_drew)); exact Kd.N_mono HO_6.out (fun _ hk => hk.1), Kd.N_V (by (with_reducible repeat (first | apply Kd.N_alloc | apply Kd.N_drewN | apply Kd.N_drew)); exact Kd.N_mono HO_8.out (fun _ hk => hk.1)), zb_ HB.out⟩
   ·replace c11 := Bool.eq_false_iff.mpr c11
    subst c11
    have H1 : ((spec_l1Cur_pick.f l0 x481001_2 x481002_2 (wrap64 ((t477.length : Int) + 1))).bind fun bt488 => (if 0 ≤ bt488.1 then (if bt488.1 ≤ (t477.length : Int) then (some (t476, t477, (t477.take (bt488.1 : Int).toNat))) else (none)) else (none))) = some (r1, r2, r3) := by rw [if_neg (show ¬ (false = true) by decide)] at H; exact H
    clear H
    have H := H1
    clear H1
    replace H := Option.bind_eq_some_iff.mp H
    obtain ⟨⟨t488, t489, t490⟩, A180, H⟩ := H
    (try dsimp only at H)
    have A18 := Aside0.mk A180
    clear A180
    by_cases c19 : 0 ≤ t488
    ·rw [if_pos c19] at H
     have c19b0 := eq_true c19
     have c19b1 : decide (0 ≤ t488) = true := decide_eq_true c19
     clear c19
     by_cases c20 : t488 ≤ (t477.length : Int)
     ·rw [if_pos c20] at H
      have c20b0 := eq_true c20
      have c20b1 : decide (t488 ≤ (t477.length : Int)) = true := decide_eq_true c20
      clear c20
      obtain ⟨y491, hy491⟩ : ∃ y_ : List (List Int), y_ = (t477.take (t488 : Int).toNat) := ⟨_, rfl⟩
      replace H : (some (t476, t477, y491)) = some (r1, r2, r3) := by first | (rw [hy491]; with_reducible exact H) | (have H2_ := (Option.bind_some _ _).symm.trans H; rw [hy491]; with_reducible exact H2_) | (have H2_ := (Option.bind_some _ _).symm.trans H; with_reducible exact H2_) | with_reducible exact H | (rw [hy491]; exact H) | exact H
      have Ny491 := Aside0.mk hy491
      clear hy491
      simp only [Option.some.injEq, Prod.mk.injEq] at H
      obtain ⟨rfl, rfl, rfl⟩ := H
      obtain ⟨Ao21, co21, eo21⟩ := Kd.N_slice HO_6.out
      subst eo21
      go_wp2_with (first | (go_at_call 70; (with_reducible refine (spec_l1Cur_pick.calls gb480 l0 x481001_2 x481002_2 (wrap64 ((t477.length : Int) + 1)) t488 t489 t490 w _ ?side1 ?side2 A18.out).mono ?_); (case side1 => exact IsS69.g HI480.out); (case side2 => exact zb_ HB.out); rintro e w22 ⟨rfl, hi, hb, hk⟩; have n0_ := Aside0.mk (Kd.N_mono (Kd.N_keep (Kd.N_mono (ok := fun k_ => (((w.heap.size ≤ k_)) ∧ k_ ≠ gb480)) (zN_ HO_6.out) (fun k_ hk_ => (⟨hk_, hk_.2⟩ : _ ∧ k_ ≠ gb480))) hk (fun _ h => h.2)) (fun _ h => h.1)); have n1_ := Aside0.mk (hb); have n2_ := Aside0.mk (hi); clear HO_6; clear HB; clear HI480; have HO_6 := n0_; have HB := n1_; have HI480 := n2_; clear n0_ n1_ n2_; (try clear hb); (try clear hb2); (try clear hk); (try clear hi); have q23 : (t488 : Int) ≤ ((t477.length : Int) : Int) := of_decide_eq_true (by assumption); obtain ⟨i023, hi023, _, hsz23, _⟩ := info_parts info24; have hroom23 : t477.length ≤ co21 := (Kd.N_reads' HO_6.out).2.1; have hC23 : Kd.F (Kd.slice 3 (Kd.int .i64)) _ _ Ao21 t477.length t477 := (Kd.V_at (base := w.heap.size) (Kd.N_V HO_6.out)).2.2; have hcut23 := cut_to (P := Try.prog) 23 24 .i64 Try.underlying23 hi023 Ao21 t477.length co21 t488 (of_decide_eq_true (by assumption)) q23 hroom23; have hr23 := Kd.F_take (m := (t488 : Int).toNat) hC23 (by omega); have hy23 : y491.length = (t488 : Int).toNat := (by rw [Ny491.out, List.length_take]; omega); rw [← Ny491.out] at hr23; rw [← hy23] at hcut23; have HO495 := Aside0.mk (show Kd.V (Kd.slice 3 (Kd.int .i64)) 24 _ w.heap.size _ (.slice Ao21 y491.length co21) y491 from Kd.V_mk (by omega) hr23); have HC495 := Aside0.mk (show y491.length ≤ co21 from by omega); clear hr23 hC23 hroom23 hi023 hsz23; have KY23 := Aside0.mk hy23; clear hy23; replace q23 := eq_true q23))
      repeat (go_quiet (first | (go_at_call 70; (with_reducible refine (spec_l1Cur_pick.calls gb480 l0 x481001_2 x481002_2 (wrap64 ((t477.length : Int) + 1)) t488 t489 t490 w _ ?side1 ?side2 A18.out).mono ?_); (case side1 => exact IsS69.g HI480.out); (case side2 => exact zb_ HB.out); rintro e w22 ⟨rfl, hi, hb, hk⟩; have n0_ := Aside0.mk (Kd.N_mono (Kd.N_keep (Kd.N_mono (ok := fun k_ => (((w.heap.size ≤ k_)) ∧ k_ ≠ gb480)) (zN_ HO_6.out) (fun k_ hk_ => (⟨hk_, hk_.2⟩ : _ ∧ k_ ≠ gb480))) hk (fun _ h => h.2)) (fun _ h => h.1)); have n1_ := Aside0.mk (hb); have n2_ := Aside0.mk (hi); clear HO_6; clear HB; clear HI480; have HO_6 := n0_; have HB := n1_; have HI480 := n2_; clear n0_ n1_ n2_; (try clear hb); (try clear hb2); (try clear hk); (try clear hi); have q23 : (t488 : Int) ≤ ((t477.length : Int) : Int) := of_decide_eq_true (by assumption); obtain ⟨i023, hi023, _, hsz23, _⟩ := info_parts info24; have hroom23 : t477.length ≤ co21 := (Kd.N_reads' HO_6.out).2.1; have hC23 : Kd.F (Kd.slice 3 (Kd.int .i64)) _ _ Ao21 t477.length t477 := (Kd.V_at (base := w.heap.size) (Kd.N_V HO_6.out)).2.2; have hcut23 := cut_to (P := Try.prog) 23 24 .i64 Try.underlying23 hi023 Ao21 t477.length co21 t488 (of_decide_eq_true (by assumption)) q23 hroom23; have hr23 := Kd.F_take (m := (t488 : Int).toNat) hC23 (by omega); have hy23 : y491.length = (t488 : Int).toNat := (by rw [Ny491.out, List.length_take]; omega); rw [← Ny491.out] at hr23; rw [← hy23] at hcut23; have HO495 := Aside0.mk (show Kd.V (Kd.slice 3 (Kd.int .i64)) 24 _ w.heap.size _ (.slice Ao21 y491.length co21) y491 from Kd.V_mk (by omega) hr23); have HC495 := Aside0.mk (show y491.length ≤ co21 from by omega); clear hr23 hC23 hroom23 hi023 hsz23; have KY23 := Aside0.mk hy23; clear hy23; replace q23 := eq_true q23)); try go_wp2_with (first | (go_at_call 70; (with_reducible refine (spec_l1Cur_pick.calls gb480 l0 x481001_2 x481002_2 (wrap64 ((t477.length : Int) + 1)) t488 t489 t490 w _ ?side1 ?side2 A18.out).mono ?_); (case side1 => exact IsS69.g HI480.out); (case side2 => exact zb_ HB.out); rintro e w22 ⟨rfl, hi, hb, hk⟩; have n0_ := Aside0.mk (Kd.N_mono (Kd.N_keep (Kd.N_mono (ok := fun k_ => (((w.heap.size ≤ k_)) ∧ k_ ≠ gb480)) (zN_ HO_6.out) (fun k_ hk_ => (⟨hk_, hk_.2⟩ : _ ∧ k_ ≠ gb480))) hk (fun _ h => h.2)) (fun _ h => h.1)); have n1_ := Aside0.mk (hb); have n2_ := Aside0.mk (hi); clear HO_6; clear HB; clear HI480; have HO_6 := n0_; have HB := n1_; have HI480 := n2_; clear n0_ n1_ n2_; (try clear hb); (try clear hb2); (try clear hk); (try clear hi); have q23 : (t488 : Int) ≤ ((t477.length : Int) : Int) := of_decide_eq_true (by assumption); obtain ⟨i023, hi023, _, hsz23, _⟩ := info_parts info24; have hroom23 : t477.length ≤ co21 := (Kd.N_reads' HO_6.out).2.1; have hC23 : Kd.F (Kd.slice 3 (Kd.int .i64)) _ _ Ao21 t477.length t477 := (Kd.V_at (base := w.heap.size) (Kd.N_V HO_6.out)).2.2; have hcut23 := cut_to (P := Try.prog) 23 24 .i64 Try.underlying23 hi023 Ao21 t477.length co21 t488 (of_decide_eq_true (by assumption)) q23 hroom23; have hr23 := Kd.F_take (m := (t488 : Int).toNat) hC23 (by omega); have hy23 : y491.length = (t488 : Int).toNat := (by rw [Ny491.out, List.length_take]; omega); rw [← Ny491.out] at hr23; rw [← hy23] at hcut23; have HO495 := Aside0.mk (show Kd.V (Kd.slice 3 (Kd.int .i64)) 24 _ w.heap.size _ (.slice Ao21 y491.length co21) y491 from Kd.V_mk (by omega) hr23); have HC495 := Aside0.mk (show y491.length ≤ co21 from by omega); clear hr23 hC23 hroom23 hi023 hsz23; have KY23 := Aside0.mk hy23; clear hy23; replace q23 := eq_true q23)))
      go_ret3
      exact ⟨_, _, by first | rfl | (simp [errW_none, errW_some] <;> rfl) | (simp [*, errW_none, errW_some] <;> rfl), by (with_reducible repeat (first | apply Kd.N_alloc | apply Kd.N_drewN | apply Kd.N_drew)); exact Kd.N_mono HO_6.out (fun _ hk => hk.1), by (with_reducible repeat (first | apply Kd.V_alloc | apply Kd.V_drewN | apply Kd.V_drew)); exact Kd.V_mono HO495.out (fun _ hk => hk.1), zb_ HB.out⟩
     ·rw [if_neg c20] at H
      exact absurd H (by simp)
    ·rw [if_neg c19] at H
     exact absurd H (by simp)
def impl_SameModels.f (k : Nat) (a0 : Int) (l1 : List (List Int)) (l2 : List (List Int)) : Option (Bool × Bool) := if l1.length + l2.length < 4398046511104 then ((impl_GoodClauses.f a0 l1).bind fun t1 => if t1 = true then ((impl_GoodClauses.f a0 l2).bind fun t2 => if t2 = true then (if (l1 ++ l2).length > 60 then some (false, false) else (impl_countModels.f k a0 (l1 ++ l2)).bind fun n => (impl_countModels.f k a0 l1).bind fun x => if x = n then ((impl_countModels.f k a0 l2).bind fun y => some (y == n, true)) else some (false, true)) else some (false, false)) else some (false, false)) else none
theorem impl_SameModels.mono : ∀ a0 a1 a2 k, LeO (impl_SameModels.f k a0 a1 a2) (impl_SameModels.f (k + 1) a0 a1 a2) := by
 intro a0 a1 a2 k
 unfold impl_SameModels.f
 repeat' first
 | (with_reducible exact impl_countModels.mono _ _ _)
 | (with_reducible exact LeO.refl _)
 | (with_reducible exact LeO.none _)
 | (with_reducible refine LeO.ite ?_ ?_)
 | (with_reducible refine LeO.bind ?_ (fun _ => ?_))
set_option maxHeartbeats 1000000 in
set_option maxRecDepth 100000 in
theorem impl_SameModels.calls (k : Nat) (a0 : Int) (A1 : Option Addr) (c1 : Nat) (l1 : List (List Int)) (A2 : Option Addr) (c2 : Nat) (l2 : List (List Int)) (r1 : Bool) (r2 : Bool) (w : World) (hr1 : Kd.C (Kd.slice 3 (Kd.int .i64)) w A1 l1.length l1) (hc1 : l1.length ≤ c1) (hr2 : Kd.C (Kd.slice 3 (Kd.int .i64)) w A2 l2.length l2) (hc2 : l2.length ≤ c2) (h : impl_SameModels.f k a0 l1 l2 = some (r1, r2)) :
  Calls Try.prog 18 #[.int .i64 a0, .slice A1 l1.length c1, .slice A2 l2.length c2] w fun e w' => e = .returned (.tuple #[.bool r1, .bool r2]) ∧ Below w.heap.size w w' := by
 have HR1 := Aside0.mk hr1
 have HC1 := Aside0.mk hc1
 have HR2 := Aside0.mk hr2
 have HC2 := Aside0.mk hc2
 obtain ⟨wb, hwb⟩ : ∃ wb, wb = w := ⟨_, rfl⟩
 have HRB1 := Aside0.mk (show Kd.C (Kd.slice 3 (Kd.int .i64)) wb A1 l1.length l1 by rw [hwb]; exact hr1)
 have HRB2 := Aside0.mk (show Kd.C (Kd.slice 3 (Kd.int .i64)) wb A2 l2.length l2 by rw [hwb]; exact hr2)
 have HWB := Aside0.mk (show Below wb.heap.size wb w by rw [hwb]; exact Below.refl _ _)
 clear hr1 hc1 hr2 hc2 hwb
 unfold impl_SameModels.f at h
 by_cases c0 : l1.length + l2.length < 4398046511104
 ·rw [if_pos c0] at h
  obtain ⟨y, hy⟩ : ∃ y, y = l1 ++ l2 := ⟨_, rfl⟩
  have HY := Aside0.mk (show slices_Concat_rows [l1, l2] = some y by unfold slices_Concat_rows; rw [if_pos (by simpa using c0), hy]; simp)
  rw [← hy] at h
  clear c0 hy
  have HB := Aside0.mk (Below.refl w.heap.size w)
  replace h := Option.bind_eq_some_iff.mp h
  obtain ⟨t1, A1', h⟩ := h
  have G1 := Aside0.mk A1'
  clear A1'
  cases t1 with
  | false =>
   obtain ⟨rfl, rfl⟩ : false = r1 ∧ false = r2 := by simpa using h
   clear h
   go_enter Try.func18, Try.ntmps18
   go_wp2_with (first | (go_at_call 71; (with_reducible refine (slices_Concat_two_calls _ _ l1 l2 y _ ?side1 ?side2 HY.out).mono ?_); (case side1 => exact C_two_ _ _ _ _ _ _ _ _ HR1.out HC1.out HR2.out HC2.out); (case side2 => exact Nat.le_refl _); rintro e w6 ⟨v6, rfl, ho, hb⟩; obtain ⟨A6, c6, e6, hl6, hr6⟩ := R_came_ ho hb; subst e6; have HR6 := Aside0.mk hr6; have HC6 := Aside0.mk hl6; have n0_ := Aside0.mk (below_step (zb_ HB.out) hb); clear HB hr6 hl6 ho hb; have HB := n0_; clear n0_) | ((with_reducible refine gate_callee (f := 26) rfl ?_); refine goesL_ (some 16) rfl rfl Try.func26 (by kernel_rfl) rfl #[.int .i64 a0, .slice A1 l1.length c1] rfl (by simp only [zA_, zB_, zD_] <;> rfl) ?_; (with_reducible refine (impl_GoodClauses.calls a0 _ _ l1 false _ ?side1 ?side2 G1.out).mono ?_); (case side1 => exact zC_ (Kd.C_below HR1.out HB.out)); (case side2 => exact HC1.out); rintro e w7 ⟨rfl, hb⟩; refine ⟨_, rfl, ?_⟩; have q_ := Aside0.mk (Kd.C_below (show Kd.C (Kd.slice 3 (Kd.int .i64)) _ A6 y.length y by exact zC_ HR6.out) hb); clear HR6; have HR6 := q_; clear q_; have n0_ := Aside0.mk (below_step (zb_ HB.out) hb); clear HB; have HB := n0_; clear n0_; (try clear hb)))
   go_ret2
   exact ⟨by first | rfl | simp, zb_ HB.out⟩
  | true =>
   rw [if_pos rfl] at h
   replace h := Option.bind_eq_some_iff.mp h
   obtain ⟨t2, A2', h⟩ := h
   have G2 := Aside0.mk A2'
   clear A2'
   cases t2 with
   | false =>
    obtain ⟨rfl, rfl⟩ : false = r1 ∧ false = r2 := by simpa using h
    clear h
    go_enter Try.func18, Try.ntmps18
    go_wp2_with (first | (go_at_call 71; (with_reducible refine (slices_Concat_two_calls _ _ l1 l2 y _ ?side1 ?side2 HY.out).mono ?_); (case side1 => exact C_two_ _ _ _ _ _ _ _ _ HR1.out HC1.out HR2.out HC2.out); (case side2 => exact Nat.le_refl _); rintro e w6 ⟨v6, rfl, ho, hb⟩; obtain ⟨A6, c6, e6, hl6, hr6⟩ := R_came_ ho hb; subst e6; have HR6 := Aside0.mk hr6; have HC6 := Aside0.mk hl6; have n0_ := Aside0.mk (below_step (zb_ HB.out) hb); clear HB hr6 hl6 ho hb; have HB := n0_; clear n0_) | ((with_reducible refine gate_callee (f := 26) rfl ?_); refine goesL_ (some 16) rfl rfl Try.func26 (by kernel_rfl) rfl #[.int .i64 a0, .slice A1 l1.length c1] rfl (by simp only [zA_, zB_, zD_] <;> rfl) ?_; (with_reducible refine (impl_GoodClauses.calls a0 _ _ l1 true _ ?side1 ?side2 G1.out).mono ?_); (case side1 => exact zC_ (Kd.C_below HR1.out HB.out)); (case side2 => exact HC1.out); rintro e w7 ⟨rfl, hb⟩; refine ⟨_, rfl, ?_⟩; have q_ := Aside0.mk (Kd.C_below (show Kd.C (Kd.slice 3 (Kd.int .i64)) _ A6 y.length y by exact zC_ HR6.out) hb); clear HR6; have HR6 := q_; clear q_; have n0_ := Aside0.mk (below_step (zb_ HB.out) hb); clear HB; have HB := n0_; clear n0_; (try clear hb)) | (go_at_call 26; (with_reducible refine (impl_GoodClauses.calls a0 _ _ l2 false _ ?side1 ?side2 G2.out).mono ?_); (case side1 => exact zC_ (Kd.C_below HR2.out HB.out)); (case side2 => exact HC2.out); rintro e w8 ⟨rfl, hb⟩; have q_ := Aside0.mk (Kd.C_below (show Kd.C (Kd.slice 3 (Kd.int .i64)) _ A6 y.length y by exact zC_ HR6.out) hb); clear HR6; have HR6 := q_; clear q_; have n0_ := Aside0.mk (below_step (zb_ HB.out) hb); clear HB; have HB := n0_; clear n0_; (try clear hb)))
    go_ret2
    exact ⟨by first | rfl | simp, zb_ HB.out⟩
   | true =>
    rw [if_pos rfl] at h
    by_cases c3 : y.length > 60
    ·rw [if_pos c3] at h
     obtain ⟨rfl, rfl⟩ : false = r1 ∧ false = r2 := by simpa using h
     have d1 : decide (60 < y.length) = true := decide_eq_true c3
     have d2 : decide (60 < (y.length : Int)) = true := decide_eq_true (by omega)
     clear h c3
     go_enter Try.func18, Try.ntmps18
     go_wp2_with (first | (go_at_call 71; (with_reducible refine (slices_Concat_two_calls _ _ l1 l2 y _ ?side1 ?side2 HY.out).mono ?_); (case side1 => exact C_two_ _ _ _ _ _ _ _ _ HR1.out HC1.out HR2.out HC2.out); (case side2 => exact Nat.le_refl _); rintro e w6 ⟨v6, rfl, ho, hb⟩; obtain ⟨A6, c6, e6, hl6, hr6⟩ := R_came_ ho hb; subst e6; have HR6 := Aside0.mk hr6; have HC6 := Aside0.mk hl6; have n0_ := Aside0.mk (below_step (zb_ HB.out) hb); clear HB hr6 hl6 ho hb; have HB := n0_; clear n0_) | ((with_reducible refine gate_callee (f := 26) rfl ?_); refine goesL_ (some 16) rfl rfl Try.func26 (by kernel_rfl) rfl #[.int .i64 a0, .slice A1 l1.length c1] rfl (by simp only [zA_, zB_, zD_] <;> rfl) ?_; (with_reducible refine (impl_GoodClauses.calls a0 _ _ l1 true _ ?side1 ?side2 G1.out).mono ?_); (case side1 => exact zC_ (Kd.C_below HR1.out HB.out)); (case side2 => exact HC1.out); rintro e w7 ⟨rfl, hb⟩; refine ⟨_, rfl, ?_⟩; have q_ := Aside0.mk (Kd.C_below (show Kd.C (Kd.slice 3 (Kd.int .i64)) _ A6 y.length y by exact zC_ HR6.out) hb); clear HR6; have HR6 := q_; clear q_; have n0_ := Aside0.mk (below_step (zb_ HB.out) hb); clear HB; have HB := n0_; clear n0_; (try clear hb)) | (go_at_call 26; (with_reducible refine (impl_GoodClauses.calls a0 _ _ l2 true _ ?side1 ?side2 G2.out).mono ?_); (case side1 => exact zC_ (Kd.C_below HR2.out HB.out)); (case side2 => exact HC2.out); rintro e w8 ⟨rfl, hb⟩; have q_ := Aside0.mk (Kd.C_below (show Kd.C (Kd.slice 3 (Kd.int .i64)) _ A6 y.length y by exact zC_ HR6.out) hb); clear HR6; have HR6 := q_; clear q_; have n0_ := Aside0.mk (below_step (zb_ HB.out) hb); clear HB; have HB := n0_; clear n0_; (try clear hb)))
     go_ret2
     exact ⟨by first | rfl | simp, zb_ HB.out⟩
    ·rw [if_neg c3] at h
     have d1 : decide (60 < y.length) = false := decide_eq_false c3
     have d2 : decide (60 < (y.length : Int)) = false := decide_eq_false (by omega)
     clear c3
     replace h := Option.bind_eq_some_iff.mp h
     obtain ⟨n, A3', h⟩ := h
     have G3 := Aside0.mk A3'
     replace h := Option.bind_eq_some_iff.mp h
     obtain ⟨x, A4', h⟩ := h
     have G4 := Aside0.mk A4'
     clear A3' A4'
     by_cases c4 : x = n
     ·rw [if_pos c4] at h
      replace h := Option.bind_eq_some_iff.mp h
      obtain ⟨z, A5', h⟩ := h
      have G5 := Aside0.mk A5'
      obtain ⟨rfl, rfl⟩ : (z == n) = r1 ∧ true = r2 := by simpa using h
      have d4 : (x == n) = true := by simp [c4]
      clear h c4 A5'
      go_enter Try.func18, Try.ntmps18
      go_wp2_with (first | (go_at_call 71; (with_reducible refine (slices_Concat_two_calls _ _ l1 l2 y _ ?side1 ?side2 HY.out).mono ?_); (case side1 => exact C_two_ _ _ _ _ _ _ _ _ HR1.out HC1.out HR2.out HC2.out); (case side2 => exact Nat.le_refl _); rintro e w6 ⟨v6, rfl, ho, hb⟩; obtain ⟨A6, c6, e6, hl6, hr6⟩ := R_came_ ho hb; subst e6; have HR6 := Aside0.mk hr6; have HC6 := Aside0.mk hl6; have n0_ := Aside0.mk (below_step (zb_ HB.out) hb); clear HB hr6 hl6 ho hb; have HB := n0_; clear n0_) | ((with_reducible refine gate_callee (f := 26) rfl ?_); refine goesL_ (some 16) rfl rfl Try.func26 (by kernel_rfl) rfl #[.int .i64 a0, .slice A1 l1.length c1] rfl (by simp only [zA_, zB_, zD_] <;> rfl) ?_; (with_reducible refine (impl_GoodClauses.calls a0 _ _ l1 true _ ?side1 ?side2 G1.out).mono ?_); (case side1 => exact zC_ (Kd.C_below HR1.out HB.out)); (case side2 => exact HC1.out); rintro e w7 ⟨rfl, hb⟩; refine ⟨_, rfl, ?_⟩; have q_ := Aside0.mk (Kd.C_below (show Kd.C (Kd.slice 3 (Kd.int .i64)) _ A6 y.length y by exact zC_ HR6.out) hb); clear HR6; have HR6 := q_; clear q_; have n0_ := Aside0.mk (below_step (zb_ HB.out) hb); clear HB; have HB := n0_; clear n0_; (try clear hb)) | (go_at_call 26; (with_reducible refine (impl_GoodClauses.calls a0 _ _ l2 true _ ?side1 ?side2 G2.out).mono ?_); (case side1 => exact zC_ (Kd.C_below HR2.out HB.out)); (case side2 => exact HC2.out); rintro e w8 ⟨rfl, hb⟩; have q_ := Aside0.mk (Kd.C_below (show Kd.C (Kd.slice 3 (Kd.int .i64)) _ A6 y.length y by exact zC_ HR6.out) hb); clear HR6; have HR6 := q_; clear q_; have n0_ := Aside0.mk (below_step (zb_ HB.out) hb); clear HB; have HB := n0_; clear n0_; (try clear hb)) | ((with_reducible refine gate_callee (f := 62) rfl ?_); refine goesL_ (some 31) rfl rfl Try.func62 (by kernel_rfl) rfl #[.int .i64 a0, .slice A6 y.length c6] rfl (by simp only [zA_, zB_, zD_] <;> rfl) ?_; (with_reducible refine (impl_countModels.calls k a0 _ _ y n _ ?side1 ?side2 G3.out).mono ?_); (case side1 => exact zC_ HR6.out); (case side2 => exact HC6.out); rintro e w9 ⟨rfl, hb⟩; refine ⟨_, rfl, ?_⟩; have q_ := Aside0.mk (Kd.C_below (show Kd.C (Kd.slice 3 (Kd.int .i64)) _ A6 y.length y by exact zC_ HR6.out) hb); clear HR6; have HR6 := q_; clear q_; have n0_ := Aside0.mk (below_step (zb_ HB.out) hb); clear HB; have HB := n0_; clear n0_; (try clear hb)) | ((with_reducible refine gate_callee (f := 62) rfl ?_); refine goesL_ (some 34) rfl rfl Try.func62 (by kernel_rfl) rfl #[.int .i64 a0, .slice A1 l1.length c1] rfl (by simp only [zA_, zB_, zD_] <;> rfl) ?_; (with_reducible refine (impl_countModels.calls k a0 _ _ l1 x _ ?side1 ?side2 G4.out).mono ?_); (case side1 => exact zC_ (Kd.C_below HR1.out HB.out)); (case side2 => exact HC1.out); rintro e w10 ⟨rfl, hb⟩; refine ⟨_, rfl, ?_⟩; have n0_ := Aside0.mk (below_step (zb_ HB.out) hb); clear HB; have HB := n0_; clear n0_; (try clear hb)) | (go_at_call 62; (with_reducible refine (impl_countModels.calls k a0 _ _ l2 z _ ?side1 ?side2 G5.out).mono ?_); (case side1 => exact zC_ (Kd.C_below HR2.out HB.out)); (case side2 => exact HC2.out); rintro e w11 ⟨rfl, hb⟩; have n0_ := Aside0.mk (below_step (zb_ HB.out) hb); clear HB; have HB := n0_; clear n0_; (try clear hb)))
      go_ret2
      exact ⟨by first | rfl | simp, zb_ HB.out⟩
     ·rw [if_neg c4] at h
      obtain ⟨rfl, rfl⟩ : false = r1 ∧ true = r2 := by simpa using h
      have d4 : (x == n) = false := by simp [c4]
      clear h c4
      go_enter Try.func18, Try.ntmps18
      go_wp2_with (first | (go_at_call 71; (with_reducible refine (slices_Concat_two_calls _ _ l1 l2 y _ ?side1 ?side2 HY.out).mono ?_); (case side1 => exact C_two_ _ _ _ _ _ _ _ _ HR1.out HC1.out HR2.out HC2.out); (case side2 => exact Nat.le_refl _); rintro e w6 ⟨v6, rfl, ho, hb⟩; obtain ⟨A6, c6, e6, hl6, hr6⟩ := R_came_ ho hb; subst e6; have HR6 := Aside0.mk hr6; have HC6 := Aside0.mk hl6; have n0_ := Aside0.mk (below_step (zb_ HB.out) hb); clear HB hr6 hl6 ho hb; have HB := n0_; clear n0_) | ((with_reducible refine gate_callee (f := 26) rfl ?_); refine goesL_ (some 16) rfl rfl Try.func26 (by kernel_rfl) rfl #[.int .i64 a0, .slice A1 l1.length c1] rfl (by simp only [zA_, zB_, zD_] <;> rfl) ?_; (with_reducible refine (impl_GoodClauses.calls a0 _ _ l1 true _ ?side1 ?side2 G1.out).mono ?_); (case side1 => exact zC_ (Kd.C_below HR1.out HB.out)); (case side2 => exact HC1.out); rintro e w7 ⟨rfl, hb⟩; refine ⟨_, rfl, ?_⟩; have q_ := Aside0.mk (Kd.C_below (show Kd.C (Kd.slice 3 (Kd.int .i64)) _ A6 y.length y by exact zC_ HR6.out) hb); clear HR6; have HR6 := q_; clear q_; have n0_ := Aside0.mk (below_step (zb_ HB.out) hb); clear HB; have HB := n0_; clear n0_; (try clear hb)) | (go_at_call 26; (with_reducible refine (impl_GoodClauses.calls a0 _ _ l2 true _ ?side1 ?side2 G2.out).mono ?_); (case side1 => exact zC_ (Kd.C_below HR2.out HB.out)); (case side2 => exact HC2.out); rintro e w8 ⟨rfl, hb⟩; have q_ := Aside0.mk (Kd.C_below (show Kd.C (Kd.slice 3 (Kd.int .i64)) _ A6 y.length y by exact zC_ HR6.out) hb); clear HR6; have HR6 := q_; clear q_; have n0_ := Aside0.mk (below_step (zb_ HB.out) hb); clear HB; have HB := n0_; clear n0_; (try clear hb)) | ((with_reducible refine gate_callee (f := 62) rfl ?_); refine goesL_ (some 31) rfl rfl Try.func62 (by kernel_rfl) rfl #[.int .i64 a0, .slice A6 y.length c6] rfl (by simp only [zA_, zB_, zD_] <;> rfl) ?_; (with_reducible refine (impl_countModels.calls k a0 _ _ y n _ ?side1 ?side2 G3.out).mono ?_); (case side1 => exact zC_ HR6.out); (case side2 => exact HC6.out); rintro e w9 ⟨rfl, hb⟩; refine ⟨_, rfl, ?_⟩; have q_ := Aside0.mk (Kd.C_below (show Kd.C (Kd.slice 3 (Kd.int .i64)) _ A6 y.length y by exact zC_ HR6.out) hb); clear HR6; have HR6 := q_; clear q_; have n0_ := Aside0.mk (below_step (zb_ HB.out) hb); clear HB; have HB := n0_; clear n0_; (try clear hb)) | ((with_reducible refine gate_callee (f := 62) rfl ?_); refine goesL_ (some 34) rfl rfl Try.func62 (by kernel_rfl) rfl #[.int .i64 a0, .slice A1 l1.length c1] rfl (by simp only [zA_, zB_, zD_] <;> rfl) ?_; (with_reducible refine (impl_countModels.calls k a0 _ _ l1 x _ ?side1 ?side2 G4.out).mono ?_); (case side1 => exact zC_ (Kd.C_below HR1.out HB.out)); (case side2 => exact HC1.out); rintro e w10 ⟨rfl, hb⟩; refine ⟨_, rfl, ?_⟩; have n0_ := Aside0.mk (below_step (zb_ HB.out) hb); clear HB; have HB := n0_; clear n0_; (try clear hb)))
      go_ret2
      exact ⟨by first | rfl | simp, zb_ HB.out⟩
 ·rw [if_neg c0] at h
  exact absurd h (by simp)
def spec_l4Lit.f (l0 : List Bool) (a1 : Int) : Option (Bool) := if a1 < 0 then (if 0 ≤ (wrap64 ((wrap64 (-a1)) - 1)) then (if (wrap64 ((wrap64 (-a1)) - 1)) < (l0.length : Int) then (some (!(rdOf false l0 (wrap64 ((wrap64 (-a1)) - 1))))) else (none)) else (none)) else (if 0 ≤ (wrap64 (a1 - 1)) then (if (wrap64 (a1 - 1)) < (l0.length : Int) then (some (rdOf false l0 (wrap64 (a1 - 1)))) else (none)) else (none))
set_option maxHeartbeats 8000000 in
set_option maxRecDepth 100000 in
theorem spec_l4Lit.calls (A0 : Option Addr) (c0 : Nat) (l0 : List Bool) (a1 : Int) (r : Bool) (w : World) (hr0 : Kd.C Kd.bool w A0 l0.length l0) (hc0 : l0.length ≤ c0) (h : spec_l4Lit.f l0 a1 = some r) :
  Calls Try.prog 117 #[.slice A0 l0.length c0, .int .i64 a1] w fun e w' => e = .returned (.bool r) ∧ Drawn0 w w' := by
 have HR0 := Aside0.mk hr0
 have HC0 := Aside0.mk hc0
 clear hr0 hc0
 have H : (if a1 < 0 then (if 0 ≤ (wrap64 ((wrap64 (-a1)) - 1)) then (if (wrap64 ((wrap64 (-a1)) - 1)) < (l0.length : Int) then (some (!(rdOf false l0 (wrap64 ((wrap64 (-a1)) - 1))))) else (none)) else (none)) else (if 0 ≤ (wrap64 (a1 - 1)) then (if (wrap64 (a1 - 1)) < (l0.length : Int) then (some (rdOf false l0 (wrap64 (a1 - 1)))) else (none)) else (none))) = some r := h
 clear h
 by_cases c3 : a1 < 0
 ·rw [if_pos c3] at H
  have c3b0 : decide (a1 < 0) = true := decide_eq_true c3
  clear c3
  obtain ⟨ji4, hji4⟩ : ∃ j_ : Int, (wrap64 ((wrap64 (-a1)) - 1)) = j_ := ⟨_, rfl⟩
  replace H : (if 0 ≤ (ji4) then (if (ji4) < (l0.length : Int) then (some (!(rdOf false l0 (ji4)))) else (none)) else (none)) = some r := by first | (rw [hji4] at H; exact H) | (simp only [hji4] at H ⊢; exact H)
  have hji4w : (IntKind.i64.wrap ((wrap64 (-a1)) - 1)) = ji4 := (i64_w _).trans hji4
  by_cases c5 : 0 ≤ (ji4)
  ·rw [if_pos c5] at H
   have c5b0 : decide (0 ≤ (ji4)) = true := decide_eq_true c5
   clear c5
   by_cases c6 : (ji4) < (l0.length : Int)
   ·rw [if_pos c6] at H
    have c6b0 : decide ((ji4) < (l0.length : Int)) = true := decide_eq_true c6
    clear c6
    obtain rfl := Option.some.inj H
    have p496 : 0 ≤ ((ji4) : Int) := of_decide_eq_true (by assumption)
    have q496 : (ji4) < (l0.length : Int) := of_decide_eq_true (by assumption)
    obtain ⟨ad496, e496, hx496_0⟩ := Kd.at_bool HR0.out (ji4) p496 q496
    cases e496
    replace p496 := eq_true p496
    replace q496 := eq_true q496
    go_enter Try.func117, Try.ntmps117
    go_wp2
    go_ret
    exact ⟨by first | rfl | (simp; done) | (simp only [← hji4] <;> (first | rfl | simp)) | (simp [*]; done), by repeat (first | exact Drawn0.refl _ | apply Drawn0.step)⟩
   ·rw [if_neg c6] at H
    exact absurd H (by simp)
  ·rw [if_neg c5] at H
   exact absurd H (by simp)
 ·rw [if_neg c3] at H
  have c3b0 : decide (a1 < 0) = false := decide_eq_false c3
  clear c3
  obtain ⟨ji7, hji7⟩ : ∃ j_ : Int, (wrap64 (a1 - 1)) = j_ := ⟨_, rfl⟩
  replace H : (if 0 ≤ (ji7) then (if (ji7) < (l0.length : Int) then (some (rdOf false l0 (ji7))) else (none)) else (none)) = some r := by first | (rw [hji7] at H; exact H) | (simp only [hji7] at H ⊢; exact H)
  have hji7w : (IntKind.i64.wrap (a1 - 1)) = ji7 := (i64_w _).trans hji7
  by_cases c8 : 0 ≤ (ji7)
  ·rw [if_pos c8] at H
   have c8b0 : decide (0 ≤ (ji7)) = true := decide_eq_true c8
   clear c8
   by_cases c9 : (ji7) < (l0.length : Int)
   ·rw [if_pos c9] at H
    have c9b0 : decide ((ji7) < (l0.length : Int)) = true := decide_eq_true c9
    clear c9
    obtain rfl := Option.some.inj H
    have p497 : 0 ≤ ((ji7) : Int) := of_decide_eq_true (by assumption)
    have q497 : (ji7) < (l0.length : Int) := of_decide_eq_true (by assumption)
    obtain ⟨ad497, e497, hx497_0⟩ := Kd.at_bool HR0.out (ji7) p497 q497
    cases e497
    replace p497 := eq_true p497
    replace q497 := eq_true q497
    go_enter Try.func117, Try.ntmps117
    go_wp2
    go_ret
    exact ⟨by first | rfl | (simp; done) | (simp only [← hji7] <;> (first | rfl | simp)) | (simp [*]; done), by repeat (first | exact Drawn0.refl _ | apply Drawn0.step)⟩
   ·rw [if_neg c9] at H
    exact absurd H (by simp)
  ·rw [if_neg c8] at H
   exact absurd H (by simp)
end Go.Proofs.Ytpkbjgmeejlchab.PFnFollows
-- squeezed
