-- Made by a program of this session (wip/tools), which leans on the kit's print: checked by Lean alone.
import Derived.Test.YtpkbjgmeejlchaaPFnProgramx0
import Derived.Test.YtpkbjgmeejlchaaPFnProgramx5
namespace Go.Proofs.Ytpkbjgmeejlchaa.PFnProgram
open Go.RowKit Go.Proofs.YtpkbjgmeejlchaaW.PrintWords Go.Proofs.YtpkbjgmeejlchaaW.PrintLast Go.Proofs.YtpkbjgmeejlchaaW.PrintMore
attribute [local go_sem] max2_int min2_int max_two min_two max_three min_three max_four min_four   -- for this text's walks alone
set_option linter.unusedVariables false
set_option linter.unusedSimpArgs false
mutual
def impl_ReadProgram.l0 : Nat → ByteArray → List (S48) → Option ((List (S48)) × Int × Bool)
 | 0, _, _ => none
 | k + 1, x0, x5 => if x0.toList = ([] : List UInt8) then ((impl_GoodProgram.f k x5).bind fun t296 => (if t296 = true then (some (x5, 0, true)) else (some (([] : List (S48)), 3, false)))) else (if 0 < (x0.size : Int) then (if (Int.tmod (bt x0 0) 16) = 4 then (impl_ReadProgram.j1 k x0 x5 8) else (impl_ReadProgram.j1 k x0 x5 4)) else (none))
def impl_ReadProgram.j1 : Nat → ByteArray → List (S48) → Int → Option ((List (S48)) × Int × Bool)
 | 0, _, _, _ => none
 | k + 1, x0, x5, x6 => if (x0.size : Int) < x6 then (some (([] : List (S48)), 1, false)) else (if 0 < (x0.size : Int) then (if 1 < (x0.size : Int) then (if 2 < (x0.size : Int) then (if 3 < (x0.size : Int) then (if x6 = 8 then (if 7 < (x0.size : Int) then (impl_ReadProgram.j2 k x0 x5 x6 (wrap64 (Int.tmod (bt x0 0) 16)) (wrap64 ((Int.tdiv (bt x0 0) 16) % 256)) (wrap64 ((Int.tdiv (bt x0 1) 16) % 256)) (wrap64 (Int.tmod (bt x0 1) 16)) (wrap64 ((wrap64 (bt x0 3)) + (wrap64 (256 * (wrap64 (bt x0 7)))))) (wrap64 (bt x0 2))) else (none)) else (impl_ReadProgram.j2 k x0 x5 x6 (wrap64 (Int.tmod (bt x0 0) 16)) (wrap64 ((Int.tdiv (bt x0 0) 16) % 256)) (wrap64 ((Int.tdiv (bt x0 1) 16) % 256)) (wrap64 (Int.tmod (bt x0 1) 16)) (wrap64 (bt x0 3)) (wrap64 (bt x0 2)))) else (none)) else (none)) else (none)) else (none))
def impl_ReadProgram.j2 : Nat → ByteArray → List (S48) → Int → Int → Int → Int → Int → Int → Int → Option ((List (S48)) × Int × Bool)
 | 0, _, _, _, _, _, _, _, _, _ => none
 | k + 1, x0, x5, x6, x298000, x298001, x298002, x298003, x298004, x298005 => (impl_Step_valid.f k x298000 x298001 x298002 x298003 x298004 x298005).bind fun t298 => (if t298 = true then ((impl_Step_bytes.f x298000 x298001 x298002 x298003 x298004 x298005).bind fun t299 => (if 0 ≤ x6 then (if x6 ≤ (x0.size : Int) then (if (strOfNums t299).toList = (x0.extract 0 (x6 : Int).toNat).toList then (if x5.length < 2932031007402 then (impl_ReadProgram.l0 k (x0.extract (x6 : Int).toNat x0.size) (x5 ++ [(⟨x298000, x298001, x298002, x298003, x298004, x298005⟩ : S48)])) else (none)) else (some (([] : List (S48)), 2, false))) else (none)) else (none))) else (some (([] : List (S48)), 2, false)))
end
def impl_ReadProgram.f (k : Nat) (a0 : ByteArray) : Option ((List (S48)) × Int × Bool) := if (a0.size : Int) > 160 then (some (([] : List (S48)), 0, false)) else (impl_ReadProgram.l0 k a0 ([] : List (S48)))
theorem impl_ReadProgram.mono_l : ∀ k, (∀ y0 y1, LeO (impl_ReadProgram.l0 k y0 y1) (impl_ReadProgram.l0 (k + 1) y0 y1)) ∧ (∀ y0 y1 y2, LeO (impl_ReadProgram.j1 k y0 y1 y2) (impl_ReadProgram.j1 (k + 1) y0 y1 y2)) ∧ (∀ y0 y1 y2 y3 y4 y5 y6 y7 y8, LeO (impl_ReadProgram.j2 k y0 y1 y2 y3 y4 y5 y6 y7 y8) (impl_ReadProgram.j2 (k + 1) y0 y1 y2 y3 y4 y5 y6 y7 y8))
 | 0 => ⟨fun _ _ r h => by simp [impl_ReadProgram.l0] at h, fun _ _ _ r h => by simp [impl_ReadProgram.j1] at h, fun _ _ _ _ _ _ _ _ _ r h => by simp [impl_ReadProgram.j2] at h⟩
 | k + 1 => by
  obtain ⟨ih0, ih1, ih2⟩ := impl_ReadProgram.mono_l k
  refine ⟨?_, ?_, ?_⟩
  ·intro y0 y1
   unfold impl_ReadProgram.l0
   repeat' first
   | (with_reducible exact ih0 _ _)
   | (with_reducible exact ih1 _ _ _)
   | (with_reducible exact ih2 _ _ _ _ _ _ _ _ _)
   | (with_reducible exact impl_GoodProgram.mono _ _)
   | (with_reducible exact impl_Step_valid.mono _ _ _ _ _ _ _)
   | (with_reducible exact LeO.refl _)
   | (with_reducible exact LeO.none _)
   | (with_reducible refine LeO.ite ?_ ?_)
   | (with_reducible refine LeO.bind ?_ (fun _ => ?_))
   | exact ih0 _ _
   | exact ih1 _ _ _
   | exact ih2 _ _ _ _ _ _ _ _ _
   | exact impl_GoodProgram.mono _ _
   | exact impl_Step_valid.mono _ _ _ _ _ _ _
   | exact LeO.none _
   | refine LeO.ite ?_ ?_
   | refine LeO.bind ?_ (fun _ => ?_)
  ·intro y0 y1 y2
   unfold impl_ReadProgram.j1
   repeat' first
   | (with_reducible exact ih0 _ _)
   | (with_reducible exact ih1 _ _ _)
   | (with_reducible exact ih2 _ _ _ _ _ _ _ _ _)
   | (with_reducible exact impl_GoodProgram.mono _ _)
   | (with_reducible exact impl_Step_valid.mono _ _ _ _ _ _ _)
   | (with_reducible exact LeO.refl _)
   | (with_reducible exact LeO.none _)
   | (with_reducible refine LeO.ite ?_ ?_)
   | (with_reducible refine LeO.bind ?_ (fun _ => ?_))
   | exact ih0 _ _
   | exact ih1 _ _ _
   | exact ih2 _ _ _ _ _ _ _ _ _
   | exact impl_GoodProgram.mono _ _
   | exact impl_Step_valid.mono _ _ _ _ _ _ _
   | exact LeO.none _
   | refine LeO.ite ?_ ?_
   | refine LeO.bind ?_ (fun _ => ?_)
  ·intro y0 y1 y2 y3 y4 y5 y6 y7 y8
   unfold impl_ReadProgram.j2
   repeat' first
   | (with_reducible exact ih0 _ _)
   | (with_reducible exact ih1 _ _ _)
   | (with_reducible exact ih2 _ _ _ _ _ _ _ _ _)
   | (with_reducible exact impl_GoodProgram.mono _ _)
   | (with_reducible exact impl_Step_valid.mono _ _ _ _ _ _ _)
   | (with_reducible exact LeO.refl _)
   | (with_reducible exact LeO.none _)
   | (with_reducible refine LeO.ite ?_ ?_)
   | (with_reducible refine LeO.bind ?_ (fun _ => ?_))
   | exact ih0 _ _
   | exact ih1 _ _ _
   | exact ih2 _ _ _ _ _ _ _ _ _
   | exact impl_GoodProgram.mono _ _
   | exact impl_Step_valid.mono _ _ _ _ _ _ _
   | exact LeO.none _
   | refine LeO.ite ?_ ?_
   | refine LeO.bind ?_ (fun _ => ?_)
theorem impl_ReadProgram.mono : ∀ a0 k, LeO (impl_ReadProgram.f k a0) (impl_ReadProgram.f (k + 1) a0) := by
 intro a0 k
 obtain ⟨ih0, ih1, ih2⟩ := impl_ReadProgram.mono_l k
 unfold impl_ReadProgram.f
 repeat' first
   | (with_reducible exact ih0 _ _)
   | (with_reducible exact ih1 _ _ _)
   | (with_reducible exact ih2 _ _ _ _ _ _ _ _ _)
   | (with_reducible exact impl_GoodProgram.mono _ _)
   | (with_reducible exact impl_Step_valid.mono _ _ _ _ _ _ _)
   | (with_reducible exact LeO.refl _)
   | (with_reducible exact LeO.none _)
   | (with_reducible refine LeO.ite ?_ ?_)
   | (with_reducible refine LeO.bind ?_ (fun _ => ?_))
   | exact ih0 _ _
   | exact ih1 _ _ _
   | exact ih2 _ _ _ _ _ _ _ _ _
   | exact impl_GoodProgram.mono _ _
   | exact impl_Step_valid.mono _ _ _ _ _ _ _
   | exact LeO.none _
   | refine LeO.ite ?_ ?_
   | refine LeO.bind ?_ (fun _ => ?_)
def impl_ReadProgram.T10 : Bool × List (List Nat × List Nat) := (true, [([], []), ([0], [0]), ([1], [1]), ([2], [2]), ([], []), ([4], [4]), ([5], [5]), ([6], [6]), ([], []), ([8], [8]), ([9], [9]), ([10], [10]), ([], []), ([12], [12]), ([13], [13]), ([14], [14]), ([], []), ([16], [16]), ([17], [17]), ([], []), ([19], [19]), ([20], [20]), ([3, 7, 11, 15, 18, 21], [3, 7, 11, 15, 18, 21]), ([], []), ([23, 22, 0, 1, 2, 3, 4, 5, 6, 7, 8, 9, 10, 11, 12, 13, 14, 15, 16, 17, 18, 19, 20, 21, 22, 23], [22, 23])])
def impl_ReadProgram.B10 : List Nat := [0, 1, 3, 7, 0, 16, 48, 112, 0, 256, 768, 1792, 0, 4096, 12288, 28672, 0, 65536, 196608, 0, 524288, 1572864, 4194303, 0, 16777215]
theorem impl_ReadProgram.tab10 : rtab .any (opsOf Try.f33 10) = impl_ReadProgram.T10 := by kernel_rfl
theorem impl_ReadProgram.bits10 : waitsOk impl_ReadProgram.T10.2 impl_ReadProgram.B10 = true := by kernel_rfl
def impl_ReadProgram.T12 : Bool × List (List Nat × List Nat) := (true, [([], []), ([0], [0]), ([], []), ([2], [2]), ([3], [3]), ([4], [4]), ([1, 5], [1, 5]), ([0, 1, 2, 3, 4, 5, 6], []), ([7, 6, 0, 1, 2, 3, 4, 5, 6], [6, 7])])
def impl_ReadProgram.B12 : List Nat := [0, 1, 0, 4, 12, 28, 63, 127, 255]
theorem impl_ReadProgram.tab12 : rtab .any (opsOf Try.f33 12) = impl_ReadProgram.T12 := by kernel_rfl
theorem impl_ReadProgram.bits12 : waitsOk impl_ReadProgram.T12.2 impl_ReadProgram.B12 = true := by kernel_rfl
def impl_ReadProgram.T13 : Bool × List (List Nat × List Nat) := (true, [([], []), ([0], [0]), ([1], [1]), ([2, 1], [2]), ([3], [3]), ([4, 3, 3], [3, 4]), ([5, 3], [3, 5]), ([3], [3]), ([3], [3]), ([7, 8, 3], [3, 7, 8]), ([6, 9, 3], [3, 6, 9]), ([3, 10], [3, 10])])
def impl_ReadProgram.B13 : List Nat := [0, 1, 3, 7, 15, 31, 63, 15, 15, 399, 1023, 2047]
theorem impl_ReadProgram.tab13 : rtab .any (opsOf Try.f33 13) = impl_ReadProgram.T13 := by kernel_rfl
theorem impl_ReadProgram.bits13 : waitsOk impl_ReadProgram.T13.2 impl_ReadProgram.B13 = true := by kernel_rfl
set_option maxHeartbeats 8000000 in
set_option maxRecDepth 100000 in
theorem impl_ReadProgram.calls (k : Nat) (a0 : ByteArray) (r1 : List (S48)) (r2 : Int) (r3 : Bool) (w : World) (h : impl_ReadProgram.f k a0 = some (r1, r2, r3)) :
  Calls Try.prog 33 #[.string a0] w fun e w' => ∃ v0_ : Value, e = .returned (.tuple #[v0_, .int .i64 r2, .bool r3]) ∧ Kd.R k48 48 w' w.heap.size (fun _ => True) v0_ r1 ∧ Below w.heap.size w w' := by
 have hu48 := Try.underlying48
 have HB := Aside0.mk (Below.refl w.heap.size w)
 have H : (if (a0.size : Int) > 160 then (some (([] : List (S48)), 0, false)) else (impl_ReadProgram.l0 k a0 ([] : List (S48)))) = some (r1, r2, r3) := h
 clear h
 by_cases c2 : (a0.size : Int) > 160
 ·rw [if_pos c2] at H
  have c2b0 : decide (160 < (a0.size : Int)) = true := decide_eq_true c2
  have c2b1 : decide (160 < a0.size) = true := decide_eq_true (by omega)
  clear c2
  simp only [Option.some.injEq, Prod.mk.injEq] at H
  obtain ⟨rfl, rfl, rfl⟩ := H
  go_enter Try.func33, Try.ntmps33
  go_wp2
  go_ret3
  exact ⟨_, by first | rfl | (simp [errW_none, errW_some] <;> rfl) | (simp [*, errW_none, errW_some] <;> rfl), by first | exact Kd.R_nil _ _ _ _ _ | exact Kd.N_nil _ _ _ _ _ | exact Kd.V_nil _ _ _ _ _ | exact Kd.Q_nil _ _ _ _ _ | exact Kd.S_nil _ _ _ _ _, zb_ HB.out⟩
 ·rw [if_neg c2] at H
  have c2b0 : decide (160 < (a0.size : Int)) = false := decide_eq_false c2
  have c2b1 : decide (160 < a0.size) = false := decide_eq_false (by omega)
  clear c2
  have H' := Aside0.mk H
  clear H
  go_enter Try.func33, Try.ntmps33
  go_wp2
  go_loopg [0, 5] k (fun kq v0 v5 w' => ∃ (x0_1 : ByteArray) (x5_1 : List (S48)), v0 = .string x0_1 ∧ Aside0 (impl_ReadProgram.l0 kq x0_1 x5_1 = some (r1, r2, r3)) ∧ Aside0 (kq ≤ k) ∧ Aside0 (Kd.R k48 48 w' w.heap.size (fun _ => True) v5 x5_1) ∧ Aside0 (Below w.heap.size w w'))
  case atStart => exact ⟨(a0), (([] : List (S48))), (by first | rfl | (simp; done) | (simp [*]; done)), H', ⟨Nat.le_refl _⟩, ⟨by first | exact Kd.R_nil _ _ _ _ _ | exact Kd.N_nil _ _ _ _ _ | exact Kd.V_nil _ _ _ _ _ | exact Kd.Q_nil _ _ _ _ _ | exact Kd.S_nil _ _ _ _ _⟩, ⟨zb_ HB.out⟩⟩
  case round =>
   clear H'
   try clear c2
   try clear c2b0
   try clear c2b1
   try clear p2
   obtain ⟨x0_1, x5_1, rfl, HA, HK1, HO_5, HB⟩ := hrel
   cases gk with
   | zero => exact absurd HA.out (by simp [impl_ReadProgram.l0])
   | succ k1 =>
    have H := HA.out
    clear HA
    simp only [impl_ReadProgram.l0] at H
    by_cases c3 : x0_1.toList = ([] : List UInt8)
    ·rw [if_pos c3] at H
     have c3b0 : (x0_1.toList == ([] : List UInt8)) = true := beq_iff_eq.mpr c3
     have c3b1 : (x0_1.toList != ([] : List UInt8)) = false := bne_eq_false_iff_eq.mpr c3
     clear c3
     replace H := Option.bind_eq_some_iff.mp H
     obtain ⟨t296, A40, H⟩ := H
     (try dsimp only at H)
     have A4 := Aside0.mk A40
     clear A40
     by_cases c5 : t296 = true
     ·subst c5
      have H1 : (some (x5_1, 0, true)) = some (r1, r2, r3) := by rw [if_pos rfl] at H; exact H
      clear H
      have H := H1
      clear H1
      simp only [Option.some.injEq, Prod.mk.injEq] at H
      obtain ⟨rfl, rfl, rfl⟩ := H
      obtain ⟨Ao6, co6, eo6⟩ := Kd.R_slice HO_5.out
      subst eo6
      go_wp2_with (first | ((with_reducible refine gate_callee (f := 32) rfl ?_); refine goesL_ (some 74) rfl rfl Try.func32 (by kernel_rfl) rfl #[.slice Ao6 x5_1.length co6] rfl (by simp only [zA_, zB_, zD_] <;> rfl) ?_; (with_reducible refine (impl_GoodProgram.calls k1 _ _ x5_1 true _ ?side1 ?side2 A4.out).mono ?_); (case side1 => exact zC_ (Kd.R_reads' HO_5.out).2.2); (case side2 => exact (Kd.R_reads' HO_5.out).2.1); rintro e w7 ⟨rfl, hb⟩; refine ⟨_, rfl, ?_⟩; have n0_ := Aside0.mk (Kd.R_below (zR_ HO_5.out) hb); have n1_ := Aside0.mk (below_step (zb_ HB.out) hb); clear HO_5; clear HB; have HO_5 := n0_; have HB := n1_; clear n0_ n1_; (try clear hb); (try clear hb2); (try clear hk); (try clear hi)))
      go_ret3
      exact ⟨_, by first | rfl | (simp [errW_none, errW_some] <;> rfl) | (simp [*, errW_none, errW_some] <;> rfl), zR_ HO_5.out, zb_ HB.out⟩
     ·replace c5 := Bool.eq_false_iff.mpr c5
      subst c5
      have H1 : (some (([] : List (S48)), 3, false)) = some (r1, r2, r3) := by rw [if_neg (show ¬ (false = true) by decide)] at H; exact H
      clear H
      have H := H1
      clear H1
      simp only [Option.some.injEq, Prod.mk.injEq] at H
      obtain ⟨rfl, rfl, rfl⟩ := H
      obtain ⟨Ao8, co8, eo8⟩ := Kd.R_slice HO_5.out
      subst eo8
      go_wp2_with (first | ((with_reducible refine gate_callee (f := 32) rfl ?_); refine goesL_ (some 74) rfl rfl Try.func32 (by kernel_rfl) rfl #[.slice Ao8 x5_1.length co8] rfl (by simp only [zA_, zB_, zD_] <;> rfl) ?_; (with_reducible refine (impl_GoodProgram.calls k1 _ _ x5_1 false _ ?side1 ?side2 A4.out).mono ?_); (case side1 => exact zC_ (Kd.R_reads' HO_5.out).2.2); (case side2 => exact (Kd.R_reads' HO_5.out).2.1); rintro e w9 ⟨rfl, hb⟩; refine ⟨_, rfl, ?_⟩; have n0_ := Aside0.mk (Kd.R_below (zR_ HO_5.out) hb); have n1_ := Aside0.mk (below_step (zb_ HB.out) hb); clear HO_5; clear HB; have HO_5 := n0_; have HB := n1_; clear n0_ n1_; (try clear hb); (try clear hb2); (try clear hk); (try clear hi)))
      go_ret3
      exact ⟨_, by first | rfl | (simp [errW_none, errW_some] <;> rfl) | (simp [*, errW_none, errW_some] <;> rfl), by first | exact Kd.R_nil _ _ _ _ _ | exact Kd.N_nil _ _ _ _ _ | exact Kd.V_nil _ _ _ _ _ | exact Kd.Q_nil _ _ _ _ _ | exact Kd.S_nil _ _ _ _ _, zb_ HB.out⟩
    ·rw [if_neg c3] at H
     have c3b0 : (x0_1.toList == ([] : List UInt8)) = false := beq_eq_false_iff_ne.mpr c3
     have c3b1 : (x0_1.toList != ([] : List UInt8)) = true := bne_iff_ne.mpr c3
     by_cases c10 : 0 < (x0_1.size : Int)
     ·rw [if_pos c10] at H
      have c10b0 : decide (0 < (x0_1.size : Int)) = true := decide_eq_true c10
      have c10b1 : decide (0 < x0_1.size) = true := decide_eq_true (by omega)
      clear c10
      have HC12 := Aside0.mk H
      clear H
      have p11 : 0 ≤ (0 : Int) := (by omega)
      have q11 : 0 < x0_1.size := (by have : (0 : Int) < (x0_1.size : Int) := of_decide_eq_true (by assumption); omega)
      have hx11 : ∀ h : 0 < x0_1.size, ((x0_1[0]'h).toNat : Int) = bt x0_1 0 := bt_at x0_1 0
      clear p11
      have qi11 : (0 < (x0_1.size : Int)) = True := eq_true (of_decide_eq_true (by assumption))
      replace q11 := eq_true q11
      go_upto_if 16 with (fail)
      go_cut [6] (fun v6 wc => ∃ (kq : Nat) (x6_11 : Int), v6 = .int .i64 x6_11 ∧ Aside0 (impl_ReadProgram.j1 kq x0_1 x5_1 x6_11 = some (r1, r2, r3)) ∧ Aside0 (kq ≤ k1) ∧ Aside0 (Kd.R k48 48 wc w.heap.size (fun _ => True) u5 x5_1) ∧ Aside0 (Below w.heap.size w wc))
      case first =>
       have H := HC12.out
       clear HC12
       by_cases c13 : (Int.tmod (bt x0_1 0) 16) = 4
       ·rw [if_pos c13] at H
        have c13b0 : ((Int.tmod (bt x0_1 0) 16) == 4) = true := beq_iff_eq.mpr c13
        have c13b1 : ((Int.tmod (bt x0_1 0) 16) != 4) = false := bne_eq_false_iff_eq.mpr c13
        clear c13
        (first | rw [c13b0] | (simp only [i64_w, i32_w]; rw [c13b0]) | skip)
        have H' := Aside0.mk H
        clear H
        go_wp2
        go_meet
        case rel => exact ⟨_, (8), (by first | rfl | (simp; done) | (simp [*]; done)), H', ⟨by have := HK1.out; first | omega | exact Nat.le_refl _⟩, ⟨zR_ HO_5.out⟩, ⟨zb_ HB.out⟩⟩
       ·rw [if_neg c13] at H
        have c13b0 : ((Int.tmod (bt x0_1 0) 16) == 4) = false := beq_eq_false_iff_ne.mpr c13
        have c13b1 : ((Int.tmod (bt x0_1 0) 16) != 4) = true := bne_iff_ne.mpr c13
        (first | rw [c13b0] | (simp only [i64_w, i32_w]; rw [c13b0]) | skip)
        have H' := Aside0.mk H
        clear H
        go_wp2
        go_meet
        case rel => exact ⟨_, (4), (by first | rfl | (simp; done) | (simp [*]; done)), H', ⟨by have := HK1.out; first | omega | exact Nat.le_refl _⟩, ⟨zR_ HO_5.out⟩, ⟨zb_ HB.out⟩⟩
      case rest =>
       clear HC12
       try clear c1
       try clear p1
       try clear q1
       try clear hx1
       try clear qi1
       try clear c2
       try clear c2b0
       try clear c2b1
       try clear p2
       try clear c3
       try clear c3b0
       try clear c3b1
       try clear c5
       try clear c10
       try clear c10b0
       try clear c10b1
       try clear p11
       try clear q11
       try clear hx11
       try clear qi11
       try clear c13
       try clear c13b0
       try clear c13b1
       try clear p11
       try clear p2
       try clear q11
       obtain ⟨kq, x6_11, rfl, HA, HJ11, HO_5, HB⟩ := hcut
       cases kq with
       | zero => exact absurd HA.out (by simp [impl_ReadProgram.j1])
       | succ kj11 =>
        have H := HA.out
        clear HA
        simp only [impl_ReadProgram.j1] at H
        by_cases c14 : (x0_1.size : Int) < x6_11
        ·rw [if_pos c14] at H
         have c14b0 : decide ((x0_1.size : Int) < x6_11) = true := decide_eq_true c14
         clear c14
         simp only [Option.some.injEq, Prod.mk.injEq] at H
         obtain ⟨rfl, rfl, rfl⟩ := H
         go_wp2
         go_ret3
         exact ⟨_, by first | rfl | (simp [errW_none, errW_some] <;> rfl) | (simp [*, errW_none, errW_some] <;> rfl), by first | exact Kd.R_nil _ _ _ _ _ | exact Kd.N_nil _ _ _ _ _ | exact Kd.V_nil _ _ _ _ _ | exact Kd.Q_nil _ _ _ _ _ | exact Kd.S_nil _ _ _ _ _, zb_ HB.out⟩
        ·rw [if_neg c14] at H
         have c14b0 : decide ((x0_1.size : Int) < x6_11) = false := decide_eq_false c14
         clear c14
         by_cases c15 : 0 < (x0_1.size : Int)
         ·rw [if_pos c15] at H
          have c15b0 : decide (0 < (x0_1.size : Int)) = true := decide_eq_true c15
          have c15b1 : decide (0 < x0_1.size) = true := decide_eq_true (by omega)
          clear c15
          by_cases c18 : 1 < (x0_1.size : Int)
          ·rw [if_pos c18] at H
           have c18b0 : decide (1 < (x0_1.size : Int)) = true := decide_eq_true c18
           have c18b1 : decide (1 < x0_1.size) = true := decide_eq_true (by omega)
           clear c18
           by_cases c21 : 2 < (x0_1.size : Int)
           ·rw [if_pos c21] at H
            have c21b0 : decide (2 < (x0_1.size : Int)) = true := decide_eq_true c21
            have c21b1 : decide (2 < x0_1.size) = true := decide_eq_true (by omega)
            clear c21
            by_cases c23 : 3 < (x0_1.size : Int)
            ·rw [if_pos c23] at H
             have c23b0 : decide (3 < (x0_1.size : Int)) = true := decide_eq_true c23
             have c23b1 : decide (3 < x0_1.size) = true := decide_eq_true (by omega)
             clear c23
             have HC25 := Aside0.mk H
             clear H
             try go_wp2
             have n0_ := Aside0.mk (Kd.R_drew HO_5.out)
             have n1_ := Aside0.mk (below_drew1 HB.out)
             clear HO_5
             clear HB
             have HO_5 := n0_
             have HB := n1_
             clear n0_ n1_
             have p16 : 0 ≤ (0 : Int) := (by omega)
             have q16 : 0 < x0_1.size := (by have : (0 : Int) < (x0_1.size : Int) := of_decide_eq_true (by assumption); omega)
             have hx16 : ∀ h : 0 < x0_1.size, ((x0_1[0]'h).toNat : Int) = bt x0_1 0 := bt_at x0_1 0
             clear p16
             have qi16 : (0 < (x0_1.size : Int)) = True := eq_true (of_decide_eq_true (by assumption))
             replace q16 := eq_true q16
             have p17 : 0 ≤ (0 : Int) := (by omega)
             have q17 : 0 < x0_1.size := (by have : (0 : Int) < (x0_1.size : Int) := of_decide_eq_true (by assumption); omega)
             have hx17 : ∀ h : 0 < x0_1.size, ((x0_1[0]'h).toNat : Int) = bt x0_1 0 := bt_at x0_1 0
             clear p17
             have qi17 : (0 < (x0_1.size : Int)) = True := eq_true (of_decide_eq_true (by assumption))
             replace q17 := eq_true q17
             have p19 : 0 ≤ (1 : Int) := (by omega)
             have q19 : 1 < x0_1.size := (by have : (1 : Int) < (x0_1.size : Int) := of_decide_eq_true (by assumption); omega)
             have hx19 : ∀ h : 1 < x0_1.size, ((x0_1[1]'h).toNat : Int) = bt x0_1 1 := bt_at x0_1 1
             clear p19
             have qi19 : (1 < (x0_1.size : Int)) = True := eq_true (of_decide_eq_true (by assumption))
             replace q19 := eq_true q19
             have p20 : 0 ≤ (1 : Int) := (by omega)
             have q20 : 1 < x0_1.size := (by have : (1 : Int) < (x0_1.size : Int) := of_decide_eq_true (by assumption); omega)
             have hx20 : ∀ h : 1 < x0_1.size, ((x0_1[1]'h).toNat : Int) = bt x0_1 1 := bt_at x0_1 1
             clear p20
             have qi20 : (1 < (x0_1.size : Int)) = True := eq_true (of_decide_eq_true (by assumption))
             replace q20 := eq_true q20
             have p22 : 0 ≤ (2 : Int) := (by omega)
             have q22 : 2 < x0_1.size := (by have : (2 : Int) < (x0_1.size : Int) := of_decide_eq_true (by assumption); omega)
             have hx22 : ∀ h : 2 < x0_1.size, ((x0_1[2]'h).toNat : Int) = bt x0_1 2 := bt_at x0_1 2
             clear p22
             have qi22 : (2 < (x0_1.size : Int)) = True := eq_true (of_decide_eq_true (by assumption))
             replace q22 := eq_true q22
             have p24 : 0 ≤ (3 : Int) := (by omega)
             have q24 : 3 < x0_1.size := (by have : (3 : Int) < (x0_1.size : Int) := of_decide_eq_true (by assumption); omega)
             have hx24 : ∀ h : 3 < x0_1.size, ((x0_1[3]'h).toNat : Int) = bt x0_1 3 := bt_at x0_1 3
             clear p24
             have qi24 : (3 < (x0_1.size : Int)) = True := eq_true (of_decide_eq_true (by assumption))
             replace q24 := eq_true q24
             refine start_ (n := 25) (S := fun w' => True) (ds := []) #[false, false, false, false, false, false, false, false, false, false, false, false, false, false, false, false, false, false, false, false, false, false, false, false, false] (by kernel_rfl) rfl rfl trivial (fun hHeld => ?_); refine with_tabW impl_ReadProgram.tab10 impl_ReadProgram.bits10 (fun HT_ HW_ => ?_)
             generalize wc.drew = w26 at HO_5 HB hHeld ⊢
             refine pure_ (i := 0) (N := some 21) (v := ?_) (a' := ?_) #[true, false, false, false, false, false, false, false, false, false, false, false, false, false, false, false, false, false, false, false, false, false, false, false, false] rfl rfl (any_of HT_.out (by kernel_rfl)) (fun _ _ _ h => h) (Or.inl ⟨by rfl, ?_⟩) ?_ ?_
             rotate_left
             ·intro w'
              go_simp
              with_reducible rfl
             rotate_left
             ·simp only [Act.put, List.setIfInBounds_toArray, List.set_cons_zero, List.set_cons_succ, i64_w, i32_w]
              rfl
             refine pure_ (i := 4) (N := some 25) (v := ?_) (a' := ?_) #[true, false, false, false, true, false, false, false, false, false, false, false, false, false, false, false, false, false, false, false, false, false, false, false, false] rfl rfl (any_of HT_.out (by kernel_rfl)) (fun _ _ _ h => h) (Or.inl ⟨by rfl, ?_⟩) ?_ ?_
             rotate_left
             ·intro w'
              go_simp
              with_reducible rfl
             rotate_left
             ·simp only [Act.put, List.setIfInBounds_toArray, List.set_cons_zero, List.set_cons_succ, i64_w, i32_w]
              rfl
             refine pure_ (i := 8) (N := some 29) (v := ?_) (a' := ?_) #[true, false, false, false, true, false, false, false, true, false, false, false, false, false, false, false, false, false, false, false, false, false, false, false, false] rfl rfl (any_of HT_.out (by kernel_rfl)) (fun _ _ _ h => h) (Or.inl ⟨by rfl, ?_⟩) ?_ ?_
             rotate_left
             ·intro w'
              go_simp
              with_reducible rfl
             rotate_left
             ·simp only [Act.put, List.setIfInBounds_toArray, List.set_cons_zero, List.set_cons_succ, i64_w, i32_w]
              rfl
             refine pure_ (i := 12) (N := some 33) (v := ?_) (a' := ?_) #[true, false, false, false, true, false, false, false, true, false, false, false, true, false, false, false, false, false, false, false, false, false, false, false, false] rfl rfl (any_of HT_.out (by kernel_rfl)) (fun _ _ _ h => h) (Or.inl ⟨by rfl, ?_⟩) ?_ ?_
             rotate_left
             ·intro w'
              go_simp
              with_reducible rfl
             rotate_left
             ·simp only [Act.put, List.setIfInBounds_toArray, List.set_cons_zero, List.set_cons_succ, i64_w, i32_w]
              rfl
             refine pure_ (i := 16) (N := some 37) (v := ?_) (a' := ?_) #[true, false, false, false, true, false, false, false, true, false, false, false, true, false, false, false, true, false, false, false, false, false, false, false, false] rfl rfl (any_of HT_.out (by kernel_rfl)) (fun _ _ _ h => h) (Or.inl ⟨by rfl, ?_⟩) ?_ ?_
             rotate_left
             ·intro w'
              go_simp
              with_reducible rfl
             rotate_left
             ·simp only [Act.put, List.setIfInBounds_toArray, List.set_cons_zero, List.set_cons_succ, i64_w, i32_w]
              rfl
             refine pure_ (i := 19) (N := some 40) (v := ?_) (a' := ?_) #[true, false, false, false, true, false, false, false, true, false, false, false, true, false, false, false, true, false, false, true, false, false, false, false, false] rfl rfl (any_of HT_.out (by kernel_rfl)) (fun _ _ _ h => h) (Or.inl ⟨by rfl, ?_⟩) ?_ ?_
             rotate_left
             ·intro w'
              go_simp
              with_reducible rfl
             rotate_left
             ·simp only [Act.put, List.setIfInBounds_toArray, List.set_cons_zero, List.set_cons_succ, i64_w, i32_w]
              rfl
             refine take_ (i := 1) (N := some 22) (v := ?_) (a' := ?_) #[true, true, false, false, true, false, false, false, true, false, false, false, true, false, false, false, true, false, false, true, false, false, false, false, false] rfl rfl (take_ofW HT_.out HW_.out (by kernel_rfl)) (fun _ _ _ h => h) (Or.inl ⟨by rfl, ?_⟩) hHeld ?_ ?_
             rotate_left
             ·intro w' _
              go_simp
              with_reducible rfl
             rotate_left
             ·simp only [Act.put, List.setIfInBounds_toArray, List.set_cons_zero, List.set_cons_succ, i64_w, i32_w]
              rfl
             refine pure_ (i := 2) (N := some 23) (v := ?_) (a' := ?_) #[true, true, true, false, true, false, false, false, true, false, false, false, true, false, false, false, true, false, false, true, false, false, false, false, false] rfl rfl (any_of HT_.out (by kernel_rfl)) (fun _ _ _ h => h) (Or.inl ⟨by rfl, ?_⟩) ?_ ?_
             rotate_left
             ·intro w'
              go_simp
              with_reducible rfl
             rotate_left
             ·simp only [Act.put, List.setIfInBounds_toArray, List.set_cons_zero, List.set_cons_succ, i64_w, i32_w]
              rfl
             refine pure_ (i := 3) (N := some 24) (v := ?_) (a' := ?_) #[true, true, true, true, true, false, false, false, true, false, false, false, true, false, false, false, true, false, false, true, false, false, false, false, false] rfl rfl (any_of HT_.out (by kernel_rfl)) (fun _ _ _ h => h) (Or.inl ⟨by rfl, ?_⟩) ?_ ?_
             rotate_left
             ·intro w'
              go_simp
              with_reducible rfl
             rotate_left
             ·simp only [Act.put, List.setIfInBounds_toArray, List.set_cons_zero, List.set_cons_succ, i64_w, i32_w]
              rfl
             refine take_ (i := 5) (N := some 26) (v := ?_) (a' := ?_) #[true, true, true, true, true, true, false, false, true, false, false, false, true, false, false, false, true, false, false, true, false, false, false, false, false] rfl rfl (take_ofW HT_.out HW_.out (by kernel_rfl)) (fun _ _ _ h => h) (Or.inl ⟨by rfl, ?_⟩) hHeld ?_ ?_
             rotate_left
             ·intro w' _
              go_simp
              with_reducible rfl
             rotate_left
             ·simp only [Act.put, List.setIfInBounds_toArray, List.set_cons_zero, List.set_cons_succ, i64_w, i32_w]
              rfl
             refine pure_ (i := 6) (N := some 27) (v := ?_) (a' := ?_) #[true, true, true, true, true, true, true, false, true, false, false, false, true, false, false, false, true, false, false, true, false, false, false, false, false] rfl rfl (any_of HT_.out (by kernel_rfl)) (fun _ _ _ h => h) (Or.inl ⟨by rfl, ?_⟩) ?_ ?_
             rotate_left
             ·intro w'
              go_simp
              with_reducible rfl
             rotate_left
             ·simp only [Act.put, List.setIfInBounds_toArray, List.set_cons_zero, List.set_cons_succ, i64_w, i32_w]
              rfl
             refine pure_ (i := 7) (N := some 28) (v := ?_) (a' := ?_) #[true, true, true, true, true, true, true, true, true, false, false, false, true, false, false, false, true, false, false, true, false, false, false, false, false] rfl rfl (any_of HT_.out (by kernel_rfl)) (fun _ _ _ h => h) (Or.inl ⟨by rfl, ?_⟩) ?_ ?_
             rotate_left
             ·intro w'
              go_simp
              with_reducible rfl
             rotate_left
             ·simp only [Act.put, List.setIfInBounds_toArray, List.set_cons_zero, List.set_cons_succ, i64_w, i32_w]
              rfl
             refine take_ (i := 9) (N := some 30) (v := ?_) (a' := ?_) #[true, true, true, true, true, true, true, true, true, true, false, false, true, false, false, false, true, false, false, true, false, false, false, false, false] rfl rfl (take_ofW HT_.out HW_.out (by kernel_rfl)) (fun _ _ _ h => h) (Or.inl ⟨by rfl, ?_⟩) hHeld ?_ ?_
             rotate_left
             ·intro w' _
              go_simp
              with_reducible rfl
             rotate_left
             ·simp only [Act.put, List.setIfInBounds_toArray, List.set_cons_zero, List.set_cons_succ, i64_w, i32_w]
              rfl
             refine pure_ (i := 10) (N := some 31) (v := ?_) (a' := ?_) #[true, true, true, true, true, true, true, true, true, true, true, false, true, false, false, false, true, false, false, true, false, false, false, false, false] rfl rfl (any_of HT_.out (by kernel_rfl)) (fun _ _ _ h => h) (Or.inl ⟨by rfl, ?_⟩) ?_ ?_
             rotate_left
             ·intro w'
              go_simp
              with_reducible rfl
             rotate_left
             ·simp only [Act.put, List.setIfInBounds_toArray, List.set_cons_zero, List.set_cons_succ, i64_w, i32_w]
              rfl
             refine pure_ (i := 11) (N := some 32) (v := ?_) (a' := ?_) #[true, true, true, true, true, true, true, true, true, true, true, true, true, false, false, false, true, false, false, true, false, false, false, false, false] rfl rfl (any_of HT_.out (by kernel_rfl)) (fun _ _ _ h => h) (Or.inl ⟨by rfl, ?_⟩) ?_ ?_
             rotate_left
             ·intro w'
              go_simp
              with_reducible rfl
             rotate_left
             ·simp only [Act.put, List.setIfInBounds_toArray, List.set_cons_zero, List.set_cons_succ, i64_w, i32_w]
              rfl
             refine take_ (i := 13) (N := some 34) (v := ?_) (a' := ?_) #[true, true, true, true, true, true, true, true, true, true, true, true, true, true, false, false, true, false, false, true, false, false, false, false, false] rfl rfl (take_ofW HT_.out HW_.out (by kernel_rfl)) (fun _ _ _ h => h) (Or.inl ⟨by rfl, ?_⟩) hHeld ?_ ?_
             rotate_left
             ·intro w' _
              go_simp
              with_reducible rfl
             rotate_left
             ·simp only [Act.put, List.setIfInBounds_toArray, List.set_cons_zero, List.set_cons_succ, i64_w, i32_w]
              rfl
             refine pure_ (i := 14) (N := some 35) (v := ?_) (a' := ?_) #[true, true, true, true, true, true, true, true, true, true, true, true, true, true, true, false, true, false, false, true, false, false, false, false, false] rfl rfl (any_of HT_.out (by kernel_rfl)) (fun _ _ _ h => h) (Or.inl ⟨by rfl, ?_⟩) ?_ ?_
             rotate_left
             ·intro w'
              go_simp
              with_reducible rfl
             rotate_left
             ·simp only [Act.put, List.setIfInBounds_toArray, List.set_cons_zero, List.set_cons_succ, i64_w, i32_w]
              rfl
             refine pure_ (i := 15) (N := some 36) (v := ?_) (a' := ?_) #[true, true, true, true, true, true, true, true, true, true, true, true, true, true, true, true, true, false, false, true, false, false, false, false, false] rfl rfl (any_of HT_.out (by kernel_rfl)) (fun _ _ _ h => h) (Or.inl ⟨by rfl, ?_⟩) ?_ ?_
             rotate_left
             ·intro w'
              go_simp
              with_reducible rfl
             rotate_left
             ·simp only [Act.put, List.setIfInBounds_toArray, List.set_cons_zero, List.set_cons_succ, i64_w, i32_w]
              rfl
             refine take_ (i := 17) (N := some 38) (v := ?_) (a' := ?_) #[true, true, true, true, true, true, true, true, true, true, true, true, true, true, true, true, true, true, false, true, false, false, false, false, false] rfl rfl (take_ofW HT_.out HW_.out (by kernel_rfl)) (fun _ _ _ h => h) (Or.inl ⟨by rfl, ?_⟩) hHeld ?_ ?_
             rotate_left
             ·intro w' _
              go_simp
              with_reducible rfl
             rotate_left
             ·simp only [Act.put, List.setIfInBounds_toArray, List.set_cons_zero, List.set_cons_succ, i64_w, i32_w]
              rfl
             refine pure_ (i := 18) (N := some 39) (v := ?_) (a' := ?_) #[true, true, true, true, true, true, true, true, true, true, true, true, true, true, true, true, true, true, true, true, false, false, false, false, false] rfl rfl (any_of HT_.out (by kernel_rfl)) (fun _ _ _ h => h) (Or.inl ⟨by rfl, ?_⟩) ?_ ?_
             rotate_left
             ·intro w'
              go_simp
              with_reducible rfl
             rotate_left
             ·simp only [Act.put, List.setIfInBounds_toArray, List.set_cons_zero, List.set_cons_succ, i64_w, i32_w]
              rfl
             refine take_ (i := 20) (N := some 41) (v := ?_) (a' := ?_) #[true, true, true, true, true, true, true, true, true, true, true, true, true, true, true, true, true, true, true, true, true, false, false, false, false] rfl rfl (take_ofW HT_.out HW_.out (by kernel_rfl)) (fun _ _ _ h => h) (Or.inl ⟨by rfl, ?_⟩) hHeld ?_ ?_
             rotate_left
             ·intro w' _
              go_simp
              with_reducible rfl
             rotate_left
             ·simp only [Act.put, List.setIfInBounds_toArray, List.set_cons_zero, List.set_cons_succ, i64_w, i32_w]
              rfl
             refine pure_ (i := 21) (N := some 42) (v := ?_) (a' := ?_) #[true, true, true, true, true, true, true, true, true, true, true, true, true, true, true, true, true, true, true, true, true, true, false, false, false] rfl rfl (any_of HT_.out (by kernel_rfl)) (fun _ _ _ h => h) (Or.inl ⟨by rfl, ?_⟩) ?_ ?_
             rotate_left
             ·intro w'
              go_simp
              with_reducible rfl
             rotate_left
             ·simp only [Act.put, List.setIfInBounds_toArray, List.set_cons_zero, List.set_cons_succ, i64_w, i32_w]
              rfl
             refine pure_ (i := 22) (N := some 43) (v := ?_) (a' := ?_) #[true, true, true, true, true, true, true, true, true, true, true, true, true, true, true, true, true, true, true, true, true, true, true, false, false] rfl rfl (any_of HT_.out (by kernel_rfl)) (fun _ _ _ h => h) (Or.inl ⟨by rfl, ?_⟩) ?_ ?_
             rotate_left
             ·intro w'
              go_simp
              with_reducible rfl
             rotate_left
             ·simp only [Act.put, List.setIfInBounds_toArray, List.set_cons_zero, List.set_cons_succ, i64_w, i32_w]
              rfl
             refine one_ (i := 23) (N := some 7) #[true, true, true, true, true, true, true, true, true, true, true, true, true, true, true, true, true, true, true, true, true, true, true, true, false] rfl rfl (one_of HT_.out (by kernel_rfl)) (by decide) (fun K hK => ?_)
             refine box_step ?hg (N := 7) ?hd (cs := #[.int .i64 0, .int .i64 0, .int .i64 0, .int .i64 0, .int .i64 0, .int .i64 0]) (t := 48) ?hr ?_; (case hd => rfl); (case hg => rfl); (case hr => first | (go_simp; done) | (go_simp; rfl))
             intro gb297 hg w27 hbox hb
             have n0_ := Aside0.mk (Kd.R_below (Kd.R_elderB (zR_ HO_5.out) gb297 (Nat.le_of_eq hg.symm)) hb)
             have n1_ := Aside0.mk (below_step (zb_ HB.out) hb)
             have n2_ := Aside0.mk (hbox)
             have n3_ := Aside0.mk ((by rw [hg]; exact (below_size (zb_ HB.out)) : w.heap.size ≤ gb297))
             have n4_ := Aside0.mk ((by rw [hg]; exact (below_size (zb_ HB.out)) : w.heap.size ≤ gb297))
             clear HO_5
             clear HB
             have HO_5 := n0_
             have HB := n1_
             have BK297 := n2_
             have GW297 := n3_
             have GE297 := n4_
             clear n0_ n1_ n2_ n3_ n4_
             clear hb hbox hg
             refine hK.out _ _ trivial (fun hHeld => ?_)
             clear hK K
             refine norm_ (a' := ?_) ?_ ?_
             rotate_left
             ·show Act.put _ (some 7) _ = _
              simp only [Act.put, List.setIfInBounds_toArray, List.set_cons_zero, List.set_cons_succ, i64_w, i32_w]
              rfl
             refine one_ (i := 24) (N := none) #[true, true, true, true, true, true, true, true, true, true, true, true, true, true, true, true, true, true, true, true, true, true, true, true, true] rfl rfl (one_of HT_.out (by kernel_rfl)) (by decide) (fun K hK => ?_)
             have hs28 : w27.cell? ⟨gb297, 0, none⟩ = some (.int .i64 0) := (blk_cell BK297.out 0).trans rfl
             have hfs28 := blk_frozen BK297.out 0
             have hs29 : w27.cell? ⟨gb297, 1, none⟩ = some (.int .i64 0) := (blk_cell BK297.out 1).trans rfl
             have hfs29 := blk_frozen BK297.out 1
             have hs30 : w27.cell? ⟨gb297, 2, none⟩ = some (.int .i64 0) := (blk_cell BK297.out 2).trans rfl
             have hfs30 := blk_frozen BK297.out 2
             have hs31 : w27.cell? ⟨gb297, 3, none⟩ = some (.int .i64 0) := (blk_cell BK297.out 3).trans rfl
             have hfs31 := blk_frozen BK297.out 3
             have hs32 : w27.cell? ⟨gb297, 4, none⟩ = some (.int .i64 0) := (blk_cell BK297.out 4).trans rfl
             have hfs32 := blk_frozen BK297.out 4
             have hs33 : w27.cell? ⟨gb297, 5, none⟩ = some (.int .i64 0) := (blk_cell BK297.out 5).trans rfl
             have hfs33 := blk_frozen BK297.out 5
             refine skip_ (w1 := ?_) (by rfl) rfl ?_ ?_
             rotate_left
             ·go_simp
              rfl
             refine hK.out _ _ trivial (fun hHeld => ?_)
             clear hK K
             refine done_ (done_of HT_.out (by kernel_rfl)) ?_
             go_upto_if 45 with (fail)
             go_cut [] (fun wc => ∃ (kq : Nat) (x298004_24 : Int), Aside0 (impl_ReadProgram.j2 kq x0_1 x5_1 x6_11 (wrap64 (Int.tmod (bt x0_1 0) 16)) (wrap64 ((Int.tdiv (bt x0_1 0) 16) % 256)) (wrap64 ((Int.tdiv (bt x0_1 1) 16) % 256)) (wrap64 (Int.tmod (bt x0_1 1) 16)) x298004_24 (wrap64 (bt x0_1 2)) = some (r1, r2, r3)) ∧ Aside0 (kq ≤ kj11) ∧ Aside0 (Kd.R k48 48 wc w.heap.size (fun k_ => k_ ≠ gb297) u5 x5_1) ∧ Aside0 (wc.heap[gb297]? = some (.cells #[.int .i64 (wrap64 (Int.tmod (bt x0_1 0) 16)), .int .i64 (wrap64 ((Int.tdiv (bt x0_1 0) 16) % 256)), .int .i64 (wrap64 ((Int.tdiv (bt x0_1 1) 16) % 256)), .int .i64 (wrap64 (Int.tmod (bt x0_1 1) 16)), .int .i64 x298004_24, .int .i64 (wrap64 (bt x0_1 2))] 48 (0, 0))) ∧ Aside0 (Below w.heap.size w wc))
             case first =>
              have H := HC25.out
              clear HC25
              by_cases c34 : x6_11 = 8
              ·rw [if_pos c34] at H
               have c34b0 : (x6_11 == 8) = true := beq_iff_eq.mpr c34
               have c34b1 : (x6_11 != 8) = false := bne_eq_false_iff_eq.mpr c34
               clear c34
               (first | rw [c34b0] | (simp only [i64_w, i32_w]; rw [c34b0]) | skip)
               by_cases c35 : 7 < (x0_1.size : Int)
               ·rw [if_pos c35] at H
                have c35b0 : decide (7 < (x0_1.size : Int)) = true := decide_eq_true c35
                have c35b1 : decide (7 < x0_1.size) = true := decide_eq_true (by omega)
                clear c35
                have H' := Aside0.mk H
                clear H
                try go_wp2
                have n0_ : Aside0 (Kd.R k48 48 ((((((w27.setCell ⟨gb297, 0, none⟩ (.int .i64 (wrap64 (Int.tmod (bt x0_1 0) 16)))).setCell ⟨gb297, 1, none⟩ (.int .i64 (wrap64 ((Int.tdiv (bt x0_1 0) 16) % 256)))).setCell ⟨gb297, 2, none⟩ (.int .i64 (wrap64 ((Int.tdiv (bt x0_1 1) 16) % 256)))).setCell ⟨gb297, 3, none⟩ (.int .i64 (wrap64 (Int.tmod (bt x0_1 1) 16)))).setCell ⟨gb297, 4, none⟩ (.int .i64 (wrap64 (bt x0_1 3)))).setCell ⟨gb297, 5, none⟩ (.int .i64 (wrap64 (bt x0_1 2)))) w.heap.size (fun k_ => k_ ≠ gb297) u5 x5_1) := ⟨by (with_reducible repeat (first | apply Kd.R_alloc | apply Kd.R_drewN | apply Kd.R_drew)); exact Kd.R_mono (Kd.R_far (p := ⟨gb297, 5, none⟩) (Kd.R_far (p := ⟨gb297, 4, none⟩) (Kd.R_far (p := ⟨gb297, 3, none⟩) (Kd.R_far (p := ⟨gb297, 2, none⟩) (Kd.R_far (p := ⟨gb297, 1, none⟩) (Kd.R_far (p := ⟨gb297, 0, none⟩) (Kd.R_mono HO_5.out (fun k_ hk => (⟨hk, hk.2⟩ : _ ∧ k_ ≠ gb297))) (fun _ hk => hk.2) (.int .i64 (wrap64 (Int.tmod (bt x0_1 0) 16)))) (fun _ hk => hk.2) (.int .i64 (wrap64 ((Int.tdiv (bt x0_1 0) 16) % 256)))) (fun _ hk => hk.2) (.int .i64 (wrap64 ((Int.tdiv (bt x0_1 1) 16) % 256)))) (fun _ hk => hk.2) (.int .i64 (wrap64 (Int.tmod (bt x0_1 1) 16)))) (fun _ hk => hk.2) (.int .i64 (wrap64 (bt x0_1 3)))) (fun _ hk => hk.2) (.int .i64 (wrap64 (bt x0_1 2)))) (fun _ hk => hk.1.2)⟩
                have n1_ : Aside0 (((((((w27.setCell ⟨gb297, 0, none⟩ (.int .i64 (wrap64 (Int.tmod (bt x0_1 0) 16)))).setCell ⟨gb297, 1, none⟩ (.int .i64 (wrap64 ((Int.tdiv (bt x0_1 0) 16) % 256)))).setCell ⟨gb297, 2, none⟩ (.int .i64 (wrap64 ((Int.tdiv (bt x0_1 1) 16) % 256)))).setCell ⟨gb297, 3, none⟩ (.int .i64 (wrap64 (Int.tmod (bt x0_1 1) 16)))).setCell ⟨gb297, 4, none⟩ (.int .i64 (wrap64 (bt x0_1 3)))).setCell ⟨gb297, 5, none⟩ (.int .i64 (wrap64 (bt x0_1 2)))).heap[gb297]? = some (.cells #[.int .i64 (wrap64 (Int.tmod (bt x0_1 0) 16)), .int .i64 (wrap64 ((Int.tdiv (bt x0_1 0) 16) % 256)), .int .i64 (wrap64 ((Int.tdiv (bt x0_1 1) 16) % 256)), .int .i64 (wrap64 (Int.tmod (bt x0_1 1) 16)), .int .i64 (wrap64 (bt x0_1 3)), .int .i64 (wrap64 (bt x0_1 2))] 48 (0, 0))) := ⟨by (with_reducible repeat (first | refine blk_drewN ?_ _ | refine blk_drew ?_ | refine blk_alloc ?_ _)); refine blk_put (cs := #[.int .i64 (wrap64 (Int.tmod (bt x0_1 0) 16)), .int .i64 (wrap64 ((Int.tdiv (bt x0_1 0) 16) % 256)), .int .i64 (wrap64 ((Int.tdiv (bt x0_1 1) 16) % 256)), .int .i64 (wrap64 (Int.tmod (bt x0_1 1) 16)), .int .i64 (wrap64 (bt x0_1 3)), .int .i64 0]) ?_ 5 _ rfl; (with_reducible repeat (first | refine blk_drewN ?_ _ | refine blk_drew ?_ | refine blk_alloc ?_ _)); refine blk_put (cs := #[.int .i64 (wrap64 (Int.tmod (bt x0_1 0) 16)), .int .i64 (wrap64 ((Int.tdiv (bt x0_1 0) 16) % 256)), .int .i64 (wrap64 ((Int.tdiv (bt x0_1 1) 16) % 256)), .int .i64 (wrap64 (Int.tmod (bt x0_1 1) 16)), .int .i64 0, .int .i64 0]) ?_ 4 _ rfl; (with_reducible repeat (first | refine blk_drewN ?_ _ | refine blk_drew ?_ | refine blk_alloc ?_ _)); refine blk_put (cs := #[.int .i64 (wrap64 (Int.tmod (bt x0_1 0) 16)), .int .i64 (wrap64 ((Int.tdiv (bt x0_1 0) 16) % 256)), .int .i64 (wrap64 ((Int.tdiv (bt x0_1 1) 16) % 256)), .int .i64 0, .int .i64 0, .int .i64 0]) ?_ 3 _ rfl; (with_reducible repeat (first | refine blk_drewN ?_ _ | refine blk_drew ?_ | refine blk_alloc ?_ _)); refine blk_put (cs := #[.int .i64 (wrap64 (Int.tmod (bt x0_1 0) 16)), .int .i64 (wrap64 ((Int.tdiv (bt x0_1 0) 16) % 256)), .int .i64 0, .int .i64 0, .int .i64 0, .int .i64 0]) ?_ 2 _ rfl; (with_reducible repeat (first | refine blk_drewN ?_ _ | refine blk_drew ?_ | refine blk_alloc ?_ _)); refine blk_put (cs := #[.int .i64 (wrap64 (Int.tmod (bt x0_1 0) 16)), .int .i64 0, .int .i64 0, .int .i64 0, .int .i64 0, .int .i64 0]) ?_ 1 _ rfl; (with_reducible repeat (first | refine blk_drewN ?_ _ | refine blk_drew ?_ | refine blk_alloc ?_ _)); refine blk_put (cs := #[.int .i64 0, .int .i64 0, .int .i64 0, .int .i64 0, .int .i64 0, .int .i64 0]) ?_ 0 _ rfl; (with_reducible repeat (first | refine blk_drewN ?_ _ | refine blk_drew ?_ | refine blk_alloc ?_ _)); exact BK297.out⟩
                have n2_ : Aside0 (Below w.heap.size w ((((((w27.setCell ⟨gb297, 0, none⟩ (.int .i64 (wrap64 (Int.tmod (bt x0_1 0) 16)))).setCell ⟨gb297, 1, none⟩ (.int .i64 (wrap64 ((Int.tdiv (bt x0_1 0) 16) % 256)))).setCell ⟨gb297, 2, none⟩ (.int .i64 (wrap64 ((Int.tdiv (bt x0_1 1) 16) % 256)))).setCell ⟨gb297, 3, none⟩ (.int .i64 (wrap64 (Int.tmod (bt x0_1 1) 16)))).setCell ⟨gb297, 4, none⟩ (.int .i64 (wrap64 (bt x0_1 3)))).setCell ⟨gb297, 5, none⟩ (.int .i64 (wrap64 (bt x0_1 2))))) := ⟨by repeat (first | (with_reducible first | exact HB.out | apply below_alloc | apply pw_below_drewN | apply below_drew1 | refine below_set ?_ GE297.out) | exact HB.out)⟩
                (try clear HO_5)
                (try clear BK297)
                (try clear HB)
                generalize ((((((w27.setCell ⟨gb297, 0, none⟩ (.int .i64 (wrap64 (Int.tmod (bt x0_1 0) 16)))).setCell ⟨gb297, 1, none⟩ (.int .i64 (wrap64 ((Int.tdiv (bt x0_1 0) 16) % 256)))).setCell ⟨gb297, 2, none⟩ (.int .i64 (wrap64 ((Int.tdiv (bt x0_1 1) 16) % 256)))).setCell ⟨gb297, 3, none⟩ (.int .i64 (wrap64 (Int.tmod (bt x0_1 1) 16)))).setCell ⟨gb297, 4, none⟩ (.int .i64 (wrap64 (bt x0_1 3)))).setCell ⟨gb297, 5, none⟩ (.int .i64 (wrap64 (bt x0_1 2)))) = w37 at n0_ n1_ n2_ ⊢
                have HO_5 := n0_
                have BK297 := n1_
                have HB := n2_
                clear n0_ n1_ n2_
                have n0_ := Aside0.mk (Kd.R_drew HO_5.out)
                have n1_ := Aside0.mk (blk_drew BK297.out)
                have n2_ := Aside0.mk (below_drew1 HB.out)
                clear HO_5
                clear BK297
                clear HB
                have HO_5 := n0_
                have BK297 := n1_
                have HB := n2_
                clear n0_ n1_ n2_
                have p36 : 0 ≤ (7 : Int) := (by omega)
                have q36 : 7 < x0_1.size := (by have : (7 : Int) < (x0_1.size : Int) := of_decide_eq_true (by assumption); omega)
                have hx36 : ∀ h : 7 < x0_1.size, ((x0_1[7]'h).toNat : Int) = bt x0_1 7 := bt_at x0_1 7
                clear p36
                have qi36 : (7 < (x0_1.size : Int)) = True := eq_true (of_decide_eq_true (by assumption))
                replace q36 := eq_true q36
                refine start_ (n := 9) (S := fun w' => w'.cell? ⟨gb297, 0, none⟩ = some (.int .i64 (wrap64 (Int.tmod (bt x0_1 0) 16))) ∧ w'.cell? ⟨gb297, 1, none⟩ = some (.int .i64 (wrap64 ((Int.tdiv (bt x0_1 0) 16) % 256))) ∧ w'.cell? ⟨gb297, 2, none⟩ = some (.int .i64 (wrap64 ((Int.tdiv (bt x0_1 1) 16) % 256))) ∧ w'.cell? ⟨gb297, 3, none⟩ = some (.int .i64 (wrap64 (Int.tmod (bt x0_1 1) 16))) ∧ w'.cell? ⟨gb297, 4, none⟩ = some (.int .i64 (wrap64 (bt x0_1 3))) ∧ w'.cell? ⟨gb297, 5, none⟩ = some (.int .i64 (wrap64 (bt x0_1 2)))) (ds := [8]) #[false, false, false, false, false, false, false, false, false] (by kernel_rfl) rfl rfl ⟨(blk_cell BK297.out 0).trans rfl, (blk_cell BK297.out 1).trans rfl, (blk_cell BK297.out 2).trans rfl, (blk_cell BK297.out 3).trans rfl, (blk_cell BK297.out 4).trans rfl, (blk_cell BK297.out 5).trans rfl⟩ (fun hHeld => ?_); refine with_tabW impl_ReadProgram.tab12 impl_ReadProgram.bits12 (fun HT_ HW_ => ?_)
                generalize w37.drew = w38 at HO_5 BK297 HB hHeld ⊢
                refine pure_ (i := 0) (N := some 46) (v := ?_) (a' := ?_) #[true, false, false, false, false, false, false, false, false] rfl rfl (any_of HT_.out (by kernel_rfl)) (fun _ _ _ h => h) (Or.inl ⟨by rfl, ?_⟩) ?_ ?_
                rotate_left
                ·intro w'
                 go_simp
                 with_reducible rfl
                rotate_left
                ·simp only [Act.put, List.setIfInBounds_toArray, List.set_cons_zero, List.set_cons_succ, i64_w, i32_w]
                 rfl
                refine pure_ (i := 2) (N := some 48) (v := ?_) (a' := ?_) #[true, false, true, false, false, false, false, false, false] rfl rfl (any_of HT_.out (by kernel_rfl)) (fun _ _ _ h => h) (Or.inl ⟨by rfl, ?_⟩) ?_ ?_
                rotate_left
                ·intro w'
                 go_simp
                 with_reducible rfl
                rotate_left
                ·simp only [Act.put, List.setIfInBounds_toArray, List.set_cons_zero, List.set_cons_succ, i64_w, i32_w]
                 rfl
                refine take_ (i := 1) (N := some 47) (v := ?_) (a' := ?_) #[true, true, true, false, false, false, false, false, false] rfl rfl (take_ofW HT_.out HW_.out (by kernel_rfl)) (fun _ _ _ h => h) (Or.inl ⟨by rfl, ?_⟩) hHeld ?_ ?_
                rotate_left
                ·rintro w' ⟨s0, s1, s2, s3, s4, s5⟩
                 go_simp
                 with_reducible rfl
                rotate_left
                ·simp only [Act.put, List.setIfInBounds_toArray, List.set_cons_zero, List.set_cons_succ, i64_w, i32_w]
                 rfl
                refine take_ (i := 3) (N := some 49) (v := ?_) (a' := ?_) #[true, true, true, true, false, false, false, false, false] rfl rfl (take_ofW HT_.out HW_.out (by kernel_rfl)) (fun _ _ _ h => h) (Or.inl ⟨by rfl, ?_⟩) hHeld ?_ ?_
                rotate_left
                ·rintro w' ⟨s0, s1, s2, s3, s4, s5⟩
                 go_simp
                 with_reducible rfl
                rotate_left
                ·simp only [Act.put, List.setIfInBounds_toArray, List.set_cons_zero, List.set_cons_succ, i64_w, i32_w]
                 rfl
                refine pure_ (i := 4) (N := some 50) (v := ?_) (a' := ?_) #[true, true, true, true, true, false, false, false, false] rfl rfl (any_of HT_.out (by kernel_rfl)) (fun _ _ _ h => h) (Or.inl ⟨by rfl, ?_⟩) ?_ ?_
                rotate_left
                ·intro w'
                 go_simp
                 with_reducible rfl
                rotate_left
                ·simp only [Act.put, List.setIfInBounds_toArray, List.set_cons_zero, List.set_cons_succ, i64_w, i32_w]
                 rfl
                refine pure_ (i := 5) (N := some 51) (v := ?_) (a' := ?_) #[true, true, true, true, true, true, false, false, false] rfl rfl (any_of HT_.out (by kernel_rfl)) (fun _ _ _ h => h) (Or.inl ⟨by rfl, ?_⟩) ?_ ?_
                rotate_left
                ·intro w'
                 go_simp
                 with_reducible rfl
                rotate_left
                ·simp only [Act.put, List.setIfInBounds_toArray, List.set_cons_zero, List.set_cons_succ, i64_w, i32_w]
                 rfl
                refine pure_ (i := 6) (N := some 52) (v := ?_) (a' := ?_) #[true, true, true, true, true, true, true, false, false] rfl rfl (any_of HT_.out (by kernel_rfl)) (fun _ _ _ h => h) (Or.inl ⟨by rfl, ?_⟩) ?_ ?_
                rotate_left
                ·intro w'
                 go_simp
                 with_reducible rfl
                rotate_left
                ·simp only [Act.put, List.setIfInBounds_toArray, List.set_cons_zero, List.set_cons_succ, i64_w, i32_w]
                 rfl
                refine pure_ (i := 7) (N := some 53) (v := ?_) (a' := ?_) #[true, true, true, true, true, true, true, true, false] rfl rfl (any_of HT_.out (by kernel_rfl)) (fun _ _ _ h => h) (Or.inl ⟨by rfl, ?_⟩) ?_ ?_
                rotate_left
                ·intro w'
                 go_simp
                 with_reducible rfl
                rotate_left
                ·simp only [Act.put, List.setIfInBounds_toArray, List.set_cons_zero, List.set_cons_succ, i64_w, i32_w]
                 rfl
                refine last_ (i := 8) (N := none) #[true, true, true, true, true, true, true, true, true] rfl rfl (one_of HT_.out (by kernel_rfl)) (by decide) (fun K hK => ?_)
                have hs39 : w38.cell? ⟨gb297, 4, none⟩ = some (.int .i64 (wrap64 (bt x0_1 3))) := (blk_cell BK297.out 4).trans rfl
                have hfs39 := blk_frozen BK297.out 4
                refine skip_ (w1 := ?_) (by rfl) rfl ?_ ?_
                rotate_left
                ·go_simp
                 rfl
                refine hK.out _ _ ?_
                clear hK K
                refine done_ (done_of HT_.out (by kernel_rfl)) ?_
                try go_wp2
                go_meet
                case rel => exact ⟨_, (wrap64 ((wrap64 (bt x0_1 3)) + (wrap64 (256 * (wrap64 (bt x0_1 7)))))), H', ⟨by have := HK1.out; have := HJ11.out; first | omega | exact Nat.le_refl _⟩, ⟨by (with_reducible repeat (first | apply Kd.R_alloc | apply Kd.R_drewN | apply Kd.R_drew)); exact Kd.R_mono (Kd.R_far (p := ⟨gb297, 4, none⟩) (Kd.R_mono HO_5.out (fun k_ hk => (⟨hk, hk⟩ : _ ∧ k_ ≠ gb297))) (fun _ hk => hk.2) (.int .i64 (wrap64 ((wrap64 (bt x0_1 3)) + (wrap64 (256 * (wrap64 (bt x0_1 7)))))))) (fun _ hk => hk.1)⟩, ⟨by (with_reducible repeat (first | refine blk_drewN ?_ _ | refine blk_drew ?_ | refine blk_alloc ?_ _)); refine blk_put (cs := #[.int .i64 (wrap64 (Int.tmod (bt x0_1 0) 16)), .int .i64 (wrap64 ((Int.tdiv (bt x0_1 0) 16) % 256)), .int .i64 (wrap64 ((Int.tdiv (bt x0_1 1) 16) % 256)), .int .i64 (wrap64 (Int.tmod (bt x0_1 1) 16)), .int .i64 (wrap64 (bt x0_1 3)), .int .i64 (wrap64 (bt x0_1 2))]) ?_ 4 _ rfl; (with_reducible repeat (first | refine blk_drewN ?_ _ | refine blk_drew ?_ | refine blk_alloc ?_ _)); exact BK297.out⟩, ⟨by repeat (first | (with_reducible first | exact HB.out | apply below_alloc | apply pw_below_drewN | apply below_drew1 | refine below_set ?_ GE297.out) | exact HB.out)⟩⟩
               ·rw [if_neg c35] at H
                exact absurd H (by simp)
              ·rw [if_neg c34] at H
               have c34b0 : (x6_11 == 8) = false := beq_eq_false_iff_ne.mpr c34
               have c34b1 : (x6_11 != 8) = true := bne_iff_ne.mpr c34
               (first | rw [c34b0] | (simp only [i64_w, i32_w]; rw [c34b0]) | skip)
               have H' := Aside0.mk H
               clear H
               go_wp2
               go_meet
               case rel => exact ⟨_, (wrap64 (bt x0_1 3)), H', ⟨by have := HK1.out; have := HJ11.out; first | omega | exact Nat.le_refl _⟩, ⟨by (with_reducible repeat (first | apply Kd.R_alloc | apply Kd.R_drewN | apply Kd.R_drew)); exact Kd.R_mono (Kd.R_far (p := ⟨gb297, 5, none⟩) (Kd.R_far (p := ⟨gb297, 4, none⟩) (Kd.R_far (p := ⟨gb297, 3, none⟩) (Kd.R_far (p := ⟨gb297, 2, none⟩) (Kd.R_far (p := ⟨gb297, 1, none⟩) (Kd.R_far (p := ⟨gb297, 0, none⟩) (Kd.R_mono HO_5.out (fun k_ hk => (⟨hk, hk.2⟩ : _ ∧ k_ ≠ gb297))) (fun _ hk => hk.2) (.int .i64 (wrap64 (Int.tmod (bt x0_1 0) 16)))) (fun _ hk => hk.2) (.int .i64 (wrap64 ((Int.tdiv (bt x0_1 0) 16) % 256)))) (fun _ hk => hk.2) (.int .i64 (wrap64 ((Int.tdiv (bt x0_1 1) 16) % 256)))) (fun _ hk => hk.2) (.int .i64 (wrap64 (Int.tmod (bt x0_1 1) 16)))) (fun _ hk => hk.2) (.int .i64 (wrap64 (bt x0_1 3)))) (fun _ hk => hk.2) (.int .i64 (wrap64 (bt x0_1 2)))) (fun _ hk => hk.1.2)⟩, ⟨by (with_reducible repeat (first | refine blk_drewN ?_ _ | refine blk_drew ?_ | refine blk_alloc ?_ _)); refine blk_put (cs := #[.int .i64 (wrap64 (Int.tmod (bt x0_1 0) 16)), .int .i64 (wrap64 ((Int.tdiv (bt x0_1 0) 16) % 256)), .int .i64 (wrap64 ((Int.tdiv (bt x0_1 1) 16) % 256)), .int .i64 (wrap64 (Int.tmod (bt x0_1 1) 16)), .int .i64 (wrap64 (bt x0_1 3)), .int .i64 0]) ?_ 5 _ rfl; (with_reducible repeat (first | refine blk_drewN ?_ _ | refine blk_drew ?_ | refine blk_alloc ?_ _)); refine blk_put (cs := #[.int .i64 (wrap64 (Int.tmod (bt x0_1 0) 16)), .int .i64 (wrap64 ((Int.tdiv (bt x0_1 0) 16) % 256)), .int .i64 (wrap64 ((Int.tdiv (bt x0_1 1) 16) % 256)), .int .i64 (wrap64 (Int.tmod (bt x0_1 1) 16)), .int .i64 0, .int .i64 0]) ?_ 4 _ rfl; (with_reducible repeat (first | refine blk_drewN ?_ _ | refine blk_drew ?_ | refine blk_alloc ?_ _)); refine blk_put (cs := #[.int .i64 (wrap64 (Int.tmod (bt x0_1 0) 16)), .int .i64 (wrap64 ((Int.tdiv (bt x0_1 0) 16) % 256)), .int .i64 (wrap64 ((Int.tdiv (bt x0_1 1) 16) % 256)), .int .i64 0, .int .i64 0, .int .i64 0]) ?_ 3 _ rfl; (with_reducible repeat (first | refine blk_drewN ?_ _ | refine blk_drew ?_ | refine blk_alloc ?_ _)); refine blk_put (cs := #[.int .i64 (wrap64 (Int.tmod (bt x0_1 0) 16)), .int .i64 (wrap64 ((Int.tdiv (bt x0_1 0) 16) % 256)), .int .i64 0, .int .i64 0, .int .i64 0, .int .i64 0]) ?_ 2 _ rfl; (with_reducible repeat (first | refine blk_drewN ?_ _ | refine blk_drew ?_ | refine blk_alloc ?_ _)); refine blk_put (cs := #[.int .i64 (wrap64 (Int.tmod (bt x0_1 0) 16)), .int .i64 0, .int .i64 0, .int .i64 0, .int .i64 0, .int .i64 0]) ?_ 1 _ rfl; (with_reducible repeat (first | refine blk_drewN ?_ _ | refine blk_drew ?_ | refine blk_alloc ?_ _)); refine blk_put (cs := #[.int .i64 0, .int .i64 0, .int .i64 0, .int .i64 0, .int .i64 0, .int .i64 0]) ?_ 0 _ rfl; (with_reducible repeat (first | refine blk_drewN ?_ _ | refine blk_drew ?_ | refine blk_alloc ?_ _)); exact BK297.out⟩, ⟨by repeat (first | (with_reducible first | exact HB.out | apply below_alloc | apply pw_below_drewN | apply below_drew1 | refine below_set ?_ GE297.out) | exact HB.out)⟩⟩
             case rest =>
              clear HC25
              try clear c1
              try clear p1
              try clear q1
              try clear hx1
              try clear qi1
              try clear c2
              try clear c2b0
              try clear c2b1
              try clear p2
              try clear q2
              try clear hx2
              try clear qi2
              try clear c3
              try clear c3b0
              try clear c3b1
              try clear p3
              try clear q3
              try clear hx3
              try clear qi3
              try clear c5
              try clear p6
              try clear c10
              try clear c10b0
              try clear c10b1
              try clear p11
              try clear q11
              try clear hx11
              try clear qi11
              try clear c13
              try clear c13b0
              try clear c13b1
              try clear c14
              try clear c14b0
              try clear c15
              try clear c15b0
              try clear c15b1
              try clear p16
              try clear q16
              try clear hx16
              try clear qi16
              try clear p17
              try clear q17
              try clear hx17
              try clear qi17
              try clear c18
              try clear c18b0
              try clear c18b1
              try clear p19
              try clear q19
              try clear hx19
              try clear qi19
              try clear p20
              try clear q20
              try clear hx20
              try clear qi20
              try clear c21
              try clear c21b0
              try clear c21b1
              try clear p22
              try clear q22
              try clear hx22
              try clear qi22
              try clear c23
              try clear c23b0
              try clear c23b1
              try clear p24
              try clear q24
              try clear hx24
              try clear qi24
              try clear c32
              try clear c33
              try clear c34
              try clear c34b0
              try clear c34b1
              try clear c35
              try clear c35b0
              try clear c35b1
              try clear p36
              try clear q36
              try clear hx36
              try clear qi36
              try clear p1
              try clear p11
              try clear p16
              try clear p17
              try clear p19
              try clear p2
              try clear p20
              try clear p22
              try clear p24
              try clear p36
              try clear q1
              try clear q11
              try clear q16
              try clear q17
              try clear q19
              try clear q20
              try clear q22
              try clear q24
              try clear q36
              obtain ⟨kq, x298004_24, HA, HJ24, HO_5, BK297, HB⟩ := hcut
              cases kq with
              | zero => exact absurd HA.out (by simp [impl_ReadProgram.j2])
              | succ kj24 =>
               have H := HA.out
               clear HA
               simp only [impl_ReadProgram.j2] at H
               replace H := Option.bind_eq_some_iff.mp H
               obtain ⟨t298, A400, H⟩ := H
               (try dsimp only at H)
               have A40 := Aside0.mk A400
               clear A400
               by_cases c41 : t298 = true
               ·subst c41
                have H1 : ((impl_Step_bytes.f (wrap64 (Int.tmod (bt x0_1 0) 16)) (wrap64 ((Int.tdiv (bt x0_1 0) 16) % 256)) (wrap64 ((Int.tdiv (bt x0_1 1) 16) % 256)) (wrap64 (Int.tmod (bt x0_1 1) 16)) x298004_24 (wrap64 (bt x0_1 2))).bind fun t299 => (if 0 ≤ x6_11 then (if x6_11 ≤ (x0_1.size : Int) then (if (strOfNums t299).toList = (x0_1.extract 0 (x6_11 : Int).toNat).toList then (if x5_1.length < 2932031007402 then (impl_ReadProgram.l0 kj24 (x0_1.extract (x6_11 : Int).toNat x0_1.size) (x5_1 ++ [(⟨(wrap64 (Int.tmod (bt x0_1 0) 16)), (wrap64 ((Int.tdiv (bt x0_1 0) 16) % 256)), (wrap64 ((Int.tdiv (bt x0_1 1) 16) % 256)), (wrap64 (Int.tmod (bt x0_1 1) 16)), x298004_24, (wrap64 (bt x0_1 2))⟩ : S48)])) else (none)) else (some (([] : List (S48)), 2, false))) else (none)) else (none))) = some (r1, r2, r3) := by rw [if_pos rfl] at H; exact H
                clear H
                have H := H1
                clear H1
                replace H := Option.bind_eq_some_iff.mp H
                obtain ⟨t299, A420, H⟩ := H
                (try dsimp only at H)
                have A42 := Aside0.mk A420
                clear A420
                by_cases c43 : 0 ≤ x6_11
                ·rw [if_pos c43] at H
                 have c43b0 := eq_true c43
                 have c43b1 : decide (0 ≤ x6_11) = true := decide_eq_true c43
                 clear c43
                 by_cases c44 : x6_11 ≤ (x0_1.size : Int)
                 ·rw [if_pos c44] at H
                  have c44b0 := eq_true c44
                  have c44b1 : decide (x6_11 ≤ (x0_1.size : Int)) = true := decide_eq_true c44
                  clear c44
                  by_cases c45 : (strOfNums t299).toList = (x0_1.extract 0 (x6_11 : Int).toNat).toList
                  ·rw [if_pos c45] at H
                   have c45b0 : ((strOfNums t299).toList == (x0_1.extract 0 (x6_11 : Int).toNat).toList) = true := beq_iff_eq.mpr c45
                   have c45b1 : ((strOfNums t299).toList != (x0_1.extract 0 (x6_11 : Int).toNat).toList) = false := bne_eq_false_iff_eq.mpr c45
                   clear c45
                   by_cases c46 : x5_1.length < 2932031007402
                   ·rw [if_pos c46] at H
                    have LMc46 := Aside0.mk c46
                    clear c46
                    obtain ⟨y302, hy302⟩ : ∃ y_ : List (S48), y_ = (x5_1 ++ [(⟨(wrap64 (Int.tmod (bt x0_1 0) 16)), (wrap64 ((Int.tdiv (bt x0_1 0) 16) % 256)), (wrap64 ((Int.tdiv (bt x0_1 1) 16) % 256)), (wrap64 (Int.tmod (bt x0_1 1) 16)), x298004_24, (wrap64 (bt x0_1 2))⟩ : S48)]) := ⟨_, rfl⟩
                    replace H : (impl_ReadProgram.l0 kj24 (x0_1.extract (x6_11 : Int).toNat x0_1.size) y302) = some (r1, r2, r3) := by first | (rw [hy302]; with_reducible exact H) | (have H2_ := (Option.bind_some _ _).symm.trans H; rw [hy302]; with_reducible exact H2_) | (have H2_ := (Option.bind_some _ _).symm.trans H; with_reducible exact H2_) | with_reducible exact H | (rw [hy302]; exact H) | exact H
                    have Ny302 := Aside0.mk hy302
                    clear hy302
                    have c47b0 := eq_true (of_decide_eq_true (by assumption) : 0 ≤ x6_11)
                    have c48b0 := eq_true (of_decide_eq_true (by assumption) : x6_11 ≤ (x0_1.size : Int))
                    have H' := Aside0.mk H
                    clear H
                    try go_wp2
                    have n0_ := Aside0.mk (Kd.R_drew HO_5.out)
                    have n1_ := Aside0.mk (blk_drew BK297.out)
                    have n2_ := Aside0.mk (below_drew1 HB.out)
                    clear HO_5
                    clear BK297
                    clear HB
                    have HO_5 := n0_
                    have BK297 := n1_
                    have HB := n2_
                    clear n0_ n1_ n2_
                    refine start_ (n := 12) (S := fun w' => w'.cell? ⟨gb297, 0, none⟩ = some (.int .i64 (wrap64 (Int.tmod (bt x0_1 0) 16))) ∧ w'.cell? ⟨gb297, 1, none⟩ = some (.int .i64 (wrap64 ((Int.tdiv (bt x0_1 0) 16) % 256))) ∧ w'.cell? ⟨gb297, 2, none⟩ = some (.int .i64 (wrap64 ((Int.tdiv (bt x0_1 1) 16) % 256))) ∧ w'.cell? ⟨gb297, 3, none⟩ = some (.int .i64 (wrap64 (Int.tmod (bt x0_1 1) 16))) ∧ w'.cell? ⟨gb297, 4, none⟩ = some (.int .i64 x298004_24) ∧ w'.cell? ⟨gb297, 5, none⟩ = some (.int .i64 (wrap64 (bt x0_1 2)))) (ds := []) #[false, false, false, false, false, false, false, false, false, false, false, false] (by kernel_rfl) rfl rfl ⟨(blk_cell BK297.out 0).trans rfl, (blk_cell BK297.out 1).trans rfl, (blk_cell BK297.out 2).trans rfl, (blk_cell BK297.out 3).trans rfl, (blk_cell BK297.out 4).trans rfl, (blk_cell BK297.out 5).trans rfl⟩ (fun hHeld => ?_); refine with_tabW impl_ReadProgram.tab13 impl_ReadProgram.bits13 (fun HT_ HW_ => ?_)
                    generalize wc.drew = w49 at HO_5 BK297 HB hHeld ⊢
                    refine take_ (i := 0) (N := some 54) (v := ?_) (a' := ?_) #[true, false, false, false, false, false, false, false, false, false, false, false] rfl rfl (take_ofW HT_.out HW_.out (by kernel_rfl)) (fun _ _ _ h => h) (Or.inl ⟨by rfl, ?_⟩) hHeld ?_ ?_
                    rotate_left
                    ·rintro w' ⟨s0, s1, s2, s3, s4, s5⟩
                     go_simp
                     with_reducible rfl
                    rotate_left
                    ·simp only [Act.put, List.setIfInBounds_toArray, List.set_cons_zero, List.set_cons_succ, i64_w, i32_w]
                     rfl
                    refine one_ (i := 1) (N := some 55) #[true, true, false, false, false, false, false, false, false, false, false, false] rfl rfl (one_of HT_.out (by kernel_rfl)) (by decide) (fun K hK => ?_)
                    refine goes_ Try.func82 (by kernel_rfl) rfl #[.agg #[.int .i64 (wrap64 (Int.tmod (bt x0_1 0) 16)), .int .i64 (wrap64 ((Int.tdiv (bt x0_1 0) 16) % 256)), .int .i64 (wrap64 ((Int.tdiv (bt x0_1 1) 16) % 256)), .int .i64 (wrap64 (Int.tmod (bt x0_1 1) 16)), .int .i64 x298004_24, .int .i64 (wrap64 (bt x0_1 2))]] (by rfl) rfl rfl (by simp only [zA_, zB_, zD_] <;> rfl) ?_
                    with_reducible refine (impl_Step_valid.calls kj24 (wrap64 (Int.tmod (bt x0_1 0) 16)) (wrap64 ((Int.tdiv (bt x0_1 0) 16) % 256)) (wrap64 ((Int.tdiv (bt x0_1 1) 16) % 256)) (wrap64 (Int.tmod (bt x0_1 1) 16)) x298004_24 (wrap64 (bt x0_1 2)) true _ A40.out).mono ?_
                    rintro e w50 ⟨rfl, hb⟩
                    refine ⟨_, rfl, ?_⟩
                    have n0_ := Aside0.mk (Kd.R_below (zR_ HO_5.out) hb)
                    have n1_ := Aside0.mk (blk_below (g := gb297) (o := .cells #[.int .i64 (wrap64 (Int.tmod (bt x0_1 0) 16)), .int .i64 (wrap64 ((Int.tdiv (bt x0_1 0) 16) % 256)), .int .i64 (wrap64 ((Int.tdiv (bt x0_1 1) 16) % 256)), .int .i64 (wrap64 (Int.tmod (bt x0_1 1) 16)), .int .i64 x298004_24, .int .i64 (wrap64 (bt x0_1 2))] 48 (0, 0)) (by (with_reducible repeat (first | refine blk_drewN ?_ _ | refine blk_drew ?_ | refine blk_alloc ?_ _)); exact BK297.out) hb)
                    have n2_ := Aside0.mk (below_step (by repeat (first | (with_reducible first | exact HB.out | apply below_alloc | apply pw_below_drewN | apply below_drew1 | refine below_set ?_ GE297.out) | exact HB.out)) hb)
                    clear HO_5
                    clear BK297
                    clear HB
                    have HO_5 := n0_
                    have BK297 := n1_
                    have HB := n2_
                    clear n0_ n1_ n2_
                    (try clear hb)
                    (try clear hb2)
                    (try clear hk)
                    (try clear hi)
                    refine hK.out _ _ ⟨(blk_cell BK297.out 0).trans rfl, (blk_cell BK297.out 1).trans rfl, (blk_cell BK297.out 2).trans rfl, (blk_cell BK297.out 3).trans rfl, (blk_cell BK297.out 4).trans rfl, (blk_cell BK297.out 5).trans rfl⟩ (fun hHeld => ?_)
                    clear hK K
                    refine norm_ (a' := ?_) ?_ ?_
                    rotate_left
                    ·show Act.put _ (some 55) _ = _
                     simp only [Act.put, List.setIfInBounds_toArray, List.set_cons_zero, List.set_cons_succ, i64_w, i32_w]
                     rfl
                    refine pure_ (i := 2) (N := some 56) (v := ?_) (a' := ?_) #[true, true, true, false, false, false, false, false, false, false, false, false] rfl rfl (any_of HT_.out (by kernel_rfl)) (fun _ _ _ h => h) (Or.inl ⟨by rfl, ?_⟩) ?_ ?_
                    rotate_left
                    ·intro w'
                     go_simp
                     with_reducible rfl
                    rotate_left
                    ·simp only [Act.put, List.setIfInBounds_toArray, List.set_cons_zero, List.set_cons_succ, i64_w, i32_w]
                     rfl
                    refine pure_ (i := 3) (N := some 57) (v := ?_) (a' := ?_) #[true, true, true, true, false, false, false, false, false, false, false, false] rfl rfl (any_of HT_.out (by kernel_rfl)) (fun _ _ _ h => h) (Or.inl ⟨by rfl, ?_⟩) ?_ ?_
                    rotate_left
                    ·intro w'
                     go_simp
                     with_reducible rfl
                    rotate_left
                    ·simp only [Act.put, List.setIfInBounds_toArray, List.set_cons_zero, List.set_cons_succ, i64_w, i32_w]
                     rfl
                    refine pure_ (i := 7) (N := some 61) (v := ?_) (a' := ?_) #[true, true, true, true, false, false, false, true, false, false, false, false] rfl rfl (any_of HT_.out (by kernel_rfl)) (fun _ _ _ h => h) (Or.inl ⟨by rfl, ?_⟩) ?_ ?_
                    rotate_left
                    ·intro w'
                     go_simp
                     with_reducible rfl
                    rotate_left
                    ·simp only [Act.put, List.setIfInBounds_toArray, List.set_cons_zero, List.set_cons_succ, i64_w, i32_w]
                     rfl
                    refine pure_ (i := 8) (N := some 62) (v := ?_) (a' := ?_) #[true, true, true, true, false, false, false, true, true, false, false, false] rfl rfl (any_of HT_.out (by kernel_rfl)) (fun _ _ _ h => h) (Or.inl ⟨by rfl, ?_⟩) ?_ ?_
                    rotate_left
                    ·intro w'
                     go_simp
                     with_reducible rfl
                    rotate_left
                    ·simp only [Act.put, List.setIfInBounds_toArray, List.set_cons_zero, List.set_cons_succ, i64_w, i32_w]
                     rfl
                    refine pure_ (i := 9) (N := some 63) (v := ?_) (a' := ?_) #[true, true, true, true, false, false, false, true, true, true, false, false] rfl rfl (any_of HT_.out (by kernel_rfl)) (fun _ _ _ h => h) (Or.inl ⟨by rfl, ?_⟩) ?_ ?_
                    rotate_left
                    ·intro w'
                     go_simp
                     with_reducible rfl
                    rotate_left
                    ·simp only [Act.put, List.setIfInBounds_toArray, List.set_cons_zero, List.set_cons_succ, i64_w, i32_w]
                     rfl
                    refine take_ (i := 4) (N := some 58) (v := ?_) (a' := ?_) #[true, true, true, true, true, false, false, true, true, true, false, false] rfl rfl (take_ofW HT_.out HW_.out (by kernel_rfl)) (fun _ _ _ h => h) (Or.inl ⟨by rfl, ?_⟩) hHeld ?_ ?_
                    rotate_left
                    ·rintro w' ⟨s0, s1, s2, s3, s4, s5⟩
                     go_simp
                     with_reducible rfl
                    rotate_left
                    ·simp only [Act.put, List.setIfInBounds_toArray, List.set_cons_zero, List.set_cons_succ, i64_w, i32_w]
                     rfl
                    refine one_ (i := 5) (N := some 59) #[true, true, true, true, true, true, false, true, true, true, false, false] rfl rfl (one_of HT_.out (by kernel_rfl)) (by decide) (fun K hK => ?_)
                    refine goes_ Try.func78 (by kernel_rfl) rfl #[.agg #[.int .i64 (wrap64 (Int.tmod (bt x0_1 0) 16)), .int .i64 (wrap64 ((Int.tdiv (bt x0_1 0) 16) % 256)), .int .i64 (wrap64 ((Int.tdiv (bt x0_1 1) 16) % 256)), .int .i64 (wrap64 (Int.tmod (bt x0_1 1) 16)), .int .i64 x298004_24, .int .i64 (wrap64 (bt x0_1 2))]] (by rfl) rfl rfl (by simp only [zA_, zB_, zD_] <;> rfl) ?_
                    with_reducible refine (impl_Step_bytes.calls (wrap64 (Int.tmod (bt x0_1 0) 16)) (wrap64 ((Int.tdiv (bt x0_1 0) 16) % 256)) (wrap64 ((Int.tdiv (bt x0_1 1) 16) % 256)) (wrap64 (Int.tmod (bt x0_1 1) 16)) x298004_24 (wrap64 (bt x0_1 2)) t299 _ A42.out).mono ?_
                    rintro e w51 ⟨v300, rfl, ho0, hb⟩
                    refine ⟨_, rfl, ?_⟩
                    have n0_ := Aside0.mk (Kd.R_below (zR_ HO_5.out) hb)
                    have n1_ := Aside0.mk (Kd.R_lower ho0 (below_size (by repeat (first | (with_reducible first | exact HB.out | apply below_alloc | apply pw_below_drewN | apply below_drew1 | refine below_set ?_ GE297.out) | exact HB.out))))
                    have n2_ := Aside0.mk (blk_below (g := gb297) (o := .cells #[.int .i64 (wrap64 (Int.tmod (bt x0_1 0) 16)), .int .i64 (wrap64 ((Int.tdiv (bt x0_1 0) 16) % 256)), .int .i64 (wrap64 ((Int.tdiv (bt x0_1 1) 16) % 256)), .int .i64 (wrap64 (Int.tmod (bt x0_1 1) 16)), .int .i64 x298004_24, .int .i64 (wrap64 (bt x0_1 2))] 48 (0, 0)) (by (with_reducible repeat (first | refine blk_drewN ?_ _ | refine blk_drew ?_ | refine blk_alloc ?_ _)); exact BK297.out) hb)
                    have n3_ := Aside0.mk (below_step (by repeat (first | (with_reducible first | exact HB.out | apply below_alloc | apply pw_below_drewN | apply below_drew1 | refine below_set ?_ GE297.out) | exact HB.out)) hb)
                    clear HO_5
                    clear BK297
                    clear HB
                    have HO_5 := n0_
                    have HO301 := n1_
                    have BK297 := n2_
                    have HB := n3_
                    clear n0_ n1_ n2_ n3_
                    (try clear hb)
                    (try clear hb2)
                    (try clear hk)
                    (try clear hi)
                    (try clear ho0)
                    refine hK.out _ _ ⟨(blk_cell BK297.out 0).trans rfl, (blk_cell BK297.out 1).trans rfl, (blk_cell BK297.out 2).trans rfl, (blk_cell BK297.out 3).trans rfl, (blk_cell BK297.out 4).trans rfl, (blk_cell BK297.out 5).trans rfl⟩ (fun hHeld => ?_)
                    clear hK K
                    refine norm_ (a' := ?_) ?_ ?_
                    rotate_left
                    ·show Act.put _ (some 59) _ = _
                     simp only [Act.put, List.setIfInBounds_toArray, List.set_cons_zero, List.set_cons_succ, i64_w, i32_w]
                     rfl
                    refine one_ (i := 6) (N := some 60) #[true, true, true, true, true, true, true, true, true, true, false, false] rfl rfl (one_of HT_.out (by kernel_rfl)) (by decide) (fun K hK => ?_)
                    have hcv52 := own_string (P := Try.prog) Try.underlying22 Try.underlying5 Try.underlying9 (Kd.own_of_R HO301.out)
                    refine value_ (w1 := ?_) (v := ?_) (by rfl) rfl ?_ ?_
                    rotate_left 2
                    ·go_simp
                     constructor
                     ·rfl
                     ·rfl
                    clear hcv52
                    refine hK.out _ _ ⟨(blk_cell BK297.out 0).trans rfl, (blk_cell BK297.out 1).trans rfl, (blk_cell BK297.out 2).trans rfl, (blk_cell BK297.out 3).trans rfl, (blk_cell BK297.out 4).trans rfl, (blk_cell BK297.out 5).trans rfl⟩ (fun hHeld => ?_)
                    clear hK K
                    refine norm_ (a' := ?_) ?_ ?_
                    rotate_left
                    ·show Act.put _ (some 60) _ = _
                     simp only [Act.put, List.setIfInBounds_toArray, List.set_cons_zero, List.set_cons_succ, i64_w, i32_w]
                     rfl
                    refine pure_ (i := 10) (N := some 64) (v := ?_) (a' := ?_) #[true, true, true, true, true, true, true, true, true, true, true, false] rfl rfl (any_of HT_.out (by kernel_rfl)) (fun _ _ _ h => h) (Or.inl ⟨by rfl, ?_⟩) ?_ ?_
                    rotate_left
                    ·intro w'
                     go_simp
                     with_reducible rfl
                    rotate_left
                    ·simp only [Act.put, List.setIfInBounds_toArray, List.set_cons_zero, List.set_cons_succ, i64_w, i32_w]
                     rfl
                    refine pure_ (i := 11) (N := some 65) (v := ?_) (a' := ?_) #[true, true, true, true, true, true, true, true, true, true, true, true] rfl rfl (any_of HT_.out (by kernel_rfl)) (fun _ _ _ h => h) (Or.inl ⟨by rfl, ?_⟩) ?_ ?_
                    rotate_left
                    ·intro w'
                     go_simp
                     with_reducible rfl
                    rotate_left
                    ·simp only [Act.put, List.setIfInBounds_toArray, List.set_cons_zero, List.set_cons_succ, i64_w, i32_w]
                     rfl
                    refine done_ (done_of HT_.out (by kernel_rfl)) ?_
                    have hcz53_0 : w51.cell? ⟨gb297, 0, none⟩ = some (.int .i64 (wrap64 (Int.tmod (bt x0_1 0) 16))) := (blk_cell BK297.out 0).trans rfl
                    have hcz53_1 : w51.cell? ⟨gb297, 1, none⟩ = some (.int .i64 (wrap64 ((Int.tdiv (bt x0_1 0) 16) % 256))) := (blk_cell BK297.out 1).trans rfl
                    have hcz53_2 : w51.cell? ⟨gb297, 2, none⟩ = some (.int .i64 (wrap64 ((Int.tdiv (bt x0_1 1) 16) % 256))) := (blk_cell BK297.out 2).trans rfl
                    have hcz53_3 : w51.cell? ⟨gb297, 3, none⟩ = some (.int .i64 (wrap64 (Int.tmod (bt x0_1 1) 16))) := (blk_cell BK297.out 3).trans rfl
                    have hcz53_4 : w51.cell? ⟨gb297, 4, none⟩ = some (.int .i64 x298004_24) := (blk_cell BK297.out 4).trans rfl
                    have hcz53_5 : w51.cell? ⟨gb297, 5, none⟩ = some (.int .i64 (wrap64 (bt x0_1 2))) := (blk_cell BK297.out 5).trans rfl
                    have hfz53_0 := blk_frozen BK297.out 0
                    have hfz53_1 := blk_frozen BK297.out 1
                    have hfz53_2 := blk_frozen BK297.out 2
                    have hfz53_3 := blk_frozen BK297.out 3
                    have hfz53_4 := blk_frozen BK297.out 4
                    have hfz53_5 := blk_frozen BK297.out 5
                    try go_wp2_with (first | ((with_reducible refine gate_builtin (b := .append) (xs := #[.tmp 66, .tmp 68]) rfl ?_); at_builtin; refine Kd.R_append k48 (w0 := w) w.heap.size rfl (.tmp 66) (.tmp 68) 35 48 (.agg #[(.int .i64 0), (.int .i64 0), (.int .i64 0), (.int .i64 0), (.int .i64 0), (.int .i64 0)]) 48 rfl Try.underlying35 info48 rfl (by decide) (by omega) u5 x5_1 (⟨(wrap64 (Int.tmod (bt x0_1 0) 16)), (wrap64 ((Int.tdiv (bt x0_1 0) 16) % 256)), (wrap64 ((Int.tdiv (bt x0_1 1) 16) % 256)), (wrap64 (Int.tmod (bt x0_1 1) 16)), x298004_24, (wrap64 (bt x0_1 2))⟩ : S48) [.int .i64 (wrap64 (Int.tmod (bt x0_1 0) 16)), .int .i64 (wrap64 ((Int.tdiv (bt x0_1 0) 16) % 256)), .int .i64 (wrap64 ((Int.tdiv (bt x0_1 1) 16) % 256)), .int .i64 (wrap64 (Int.tmod (bt x0_1 1) 16)), .int .i64 x298004_24, .int .i64 (wrap64 (bt x0_1 2))] (fun k_ => k_ ≠ gb297) (fun _ => False) rfl rfl ?aP (fun _ hk => hk.elim) ?aF ?aO ?aB ?aS ?aL ?_; (case aP => exact k48_mkM _ _ _ (⟨(wrap64 (Int.tmod (bt x0_1 0) 16)), (wrap64 ((Int.tdiv (bt x0_1 0) 16) % 256)), (wrap64 ((Int.tdiv (bt x0_1 1) 16) % 256)), (wrap64 (Int.tmod (bt x0_1 1) 16)), x298004_24, (wrap64 (bt x0_1 2))⟩ : S48)); (case aB => exact (by repeat (first | (with_reducible first | exact HB.out | apply below_alloc | apply pw_below_drewN | apply below_drew1 | refine below_set ?_ GE297.out) | exact HB.out))); (case aF => exact (fun k_ hk => Kd.freshB (g := gb297) (o := .cells #[.int .i64 (wrap64 (Int.tmod (bt x0_1 0) 16)), .int .i64 (wrap64 ((Int.tdiv (bt x0_1 0) 16) % 256)), .int .i64 (wrap64 ((Int.tdiv (bt x0_1 1) 16) % 256)), .int .i64 (wrap64 (Int.tmod (bt x0_1 1) 16)), .int .i64 x298004_24, .int .i64 (wrap64 (bt x0_1 2))] 48 (0, 0)) (by (with_reducible repeat (first | refine blk_drewN ?_ _ | refine blk_drew ?_ | refine blk_alloc ?_ _)); exact BK297.out) k_ hk)); (case aO => exact (zR_ HO_5.out)); (case aS => exact (below_size (by repeat (first | (with_reducible first | exact HB.out | apply below_alloc | apply pw_below_drewN | apply below_drew1 | refine below_set ?_ GE297.out) | exact HB.out)))); (case aL => have := LMc46.out; omega); intro v303 w54 ho hb hg hat; rw [← Ny302.out] at ho; have n0_ := Aside0.mk (blk_grown (g := gb297) (o := .cells #[.int .i64 (wrap64 (Int.tmod (bt x0_1 0) 16)), .int .i64 (wrap64 ((Int.tdiv (bt x0_1 0) 16) % 256)), .int .i64 (wrap64 ((Int.tdiv (bt x0_1 1) 16) % 256)), .int .i64 (wrap64 (Int.tmod (bt x0_1 1) 16)), .int .i64 x298004_24, .int .i64 (wrap64 (bt x0_1 2))] 48 (0, 0)) (by (with_reducible repeat (first | refine blk_drewN ?_ _ | refine blk_drew ?_ | refine blk_alloc ?_ _)); exact BK297.out) hg (Kd.R_away HO_5.out (fun _ hk => hk))); have n1_ := Aside0.mk (Kd.R_over' (zR_ HO301.out) (Kd.R_typed (zR_ HO_5.out)) (by decide) hg); have n2_ := Aside0.mk (hb); have n3_ := Aside0.mk (ho); clear BK297; clear HO301; clear HB; clear HO_5; have BK297 := n0_; have HO301 := n1_; have HB := n2_; have HO304 := n3_; clear n0_ n1_ n2_ n3_; clear ho hb hg hat))
                    go_roundg kj24
                    case measure => have := HK1.out; have := HJ11.out; have := HJ24.out; omega
                    case rel => exact ⟨(x0_1.extract (x6_11 : Int).toNat x0_1.size), (y302), (by first | rfl | (simp; done) | (simp [*]; done)), H', ⟨by have := HK1.out; have := HJ11.out; have := HJ24.out; omega⟩, ⟨by (with_reducible repeat (first | apply Kd.R_alloc | apply Kd.R_drewN | apply Kd.R_drew)); exact Kd.R_mono HO304.out (fun _ hk => trivial)⟩, ⟨by repeat (first | (with_reducible first | exact HB.out | apply below_alloc | apply pw_below_drewN | apply below_drew1 | refine below_set ?_ GE297.out) | exact HB.out)⟩⟩
                   ·rw [if_neg c46] at H
                    exact absurd H (by simp)
                  ·rw [if_neg c45] at H
                   have c45b0 : ((strOfNums t299).toList == (x0_1.extract 0 (x6_11 : Int).toNat).toList) = false := beq_eq_false_iff_ne.mpr c45
                   have c45b1 : ((strOfNums t299).toList != (x0_1.extract 0 (x6_11 : Int).toNat).toList) = true := bne_iff_ne.mpr c45
                   simp only [Option.some.injEq, Prod.mk.injEq] at H
                   obtain ⟨rfl, rfl, rfl⟩ := H
                   try go_wp2
                   have n0_ := Aside0.mk (Kd.R_drew HO_5.out)
                   have n1_ := Aside0.mk (blk_drew BK297.out)
                   have n2_ := Aside0.mk (below_drew1 HB.out)
                   clear HO_5
                   clear BK297
                   clear HB
                   have HO_5 := n0_
                   have BK297 := n1_
                   have HB := n2_
                   clear n0_ n1_ n2_
                   refine start_ (n := 12) (S := fun w' => w'.cell? ⟨gb297, 0, none⟩ = some (.int .i64 (wrap64 (Int.tmod (bt x0_1 0) 16))) ∧ w'.cell? ⟨gb297, 1, none⟩ = some (.int .i64 (wrap64 ((Int.tdiv (bt x0_1 0) 16) % 256))) ∧ w'.cell? ⟨gb297, 2, none⟩ = some (.int .i64 (wrap64 ((Int.tdiv (bt x0_1 1) 16) % 256))) ∧ w'.cell? ⟨gb297, 3, none⟩ = some (.int .i64 (wrap64 (Int.tmod (bt x0_1 1) 16))) ∧ w'.cell? ⟨gb297, 4, none⟩ = some (.int .i64 x298004_24) ∧ w'.cell? ⟨gb297, 5, none⟩ = some (.int .i64 (wrap64 (bt x0_1 2)))) (ds := []) #[false, false, false, false, false, false, false, false, false, false, false, false] (by kernel_rfl) rfl rfl ⟨(blk_cell BK297.out 0).trans rfl, (blk_cell BK297.out 1).trans rfl, (blk_cell BK297.out 2).trans rfl, (blk_cell BK297.out 3).trans rfl, (blk_cell BK297.out 4).trans rfl, (blk_cell BK297.out 5).trans rfl⟩ (fun hHeld => ?_); refine with_tabW impl_ReadProgram.tab13 impl_ReadProgram.bits13 (fun HT_ HW_ => ?_)
                   generalize wc.drew = w55 at HO_5 BK297 HB hHeld ⊢
                   refine take_ (i := 0) (N := some 54) (v := ?_) (a' := ?_) #[true, false, false, false, false, false, false, false, false, false, false, false] rfl rfl (take_ofW HT_.out HW_.out (by kernel_rfl)) (fun _ _ _ h => h) (Or.inl ⟨by rfl, ?_⟩) hHeld ?_ ?_
                   rotate_left
                   ·rintro w' ⟨s0, s1, s2, s3, s4, s5⟩
                    go_simp
                    with_reducible rfl
                   rotate_left
                   ·simp only [Act.put, List.setIfInBounds_toArray, List.set_cons_zero, List.set_cons_succ, i64_w, i32_w]
                    rfl
                   refine one_ (i := 1) (N := some 55) #[true, true, false, false, false, false, false, false, false, false, false, false] rfl rfl (one_of HT_.out (by kernel_rfl)) (by decide) (fun K hK => ?_)
                   refine goes_ Try.func82 (by kernel_rfl) rfl #[.agg #[.int .i64 (wrap64 (Int.tmod (bt x0_1 0) 16)), .int .i64 (wrap64 ((Int.tdiv (bt x0_1 0) 16) % 256)), .int .i64 (wrap64 ((Int.tdiv (bt x0_1 1) 16) % 256)), .int .i64 (wrap64 (Int.tmod (bt x0_1 1) 16)), .int .i64 x298004_24, .int .i64 (wrap64 (bt x0_1 2))]] (by rfl) rfl rfl (by simp only [zA_, zB_, zD_] <;> rfl) ?_
                   with_reducible refine (impl_Step_valid.calls kj24 (wrap64 (Int.tmod (bt x0_1 0) 16)) (wrap64 ((Int.tdiv (bt x0_1 0) 16) % 256)) (wrap64 ((Int.tdiv (bt x0_1 1) 16) % 256)) (wrap64 (Int.tmod (bt x0_1 1) 16)) x298004_24 (wrap64 (bt x0_1 2)) true _ A40.out).mono ?_
                   rintro e w56 ⟨rfl, hb⟩
                   refine ⟨_, rfl, ?_⟩
                   have n0_ := Aside0.mk (Kd.R_below (zR_ HO_5.out) hb)
                   have n1_ := Aside0.mk (blk_below (g := gb297) (o := .cells #[.int .i64 (wrap64 (Int.tmod (bt x0_1 0) 16)), .int .i64 (wrap64 ((Int.tdiv (bt x0_1 0) 16) % 256)), .int .i64 (wrap64 ((Int.tdiv (bt x0_1 1) 16) % 256)), .int .i64 (wrap64 (Int.tmod (bt x0_1 1) 16)), .int .i64 x298004_24, .int .i64 (wrap64 (bt x0_1 2))] 48 (0, 0)) (by (with_reducible repeat (first | refine blk_drewN ?_ _ | refine blk_drew ?_ | refine blk_alloc ?_ _)); exact BK297.out) hb)
                   have n2_ := Aside0.mk (below_step (by repeat (first | (with_reducible first | exact HB.out | apply below_alloc | apply pw_below_drewN | apply below_drew1 | refine below_set ?_ GE297.out) | exact HB.out)) hb)
                   clear HO_5
                   clear BK297
                   clear HB
                   have HO_5 := n0_
                   have BK297 := n1_
                   have HB := n2_
                   clear n0_ n1_ n2_
                   (try clear hb)
                   (try clear hb2)
                   (try clear hk)
                   (try clear hi)
                   refine hK.out _ _ ⟨(blk_cell BK297.out 0).trans rfl, (blk_cell BK297.out 1).trans rfl, (blk_cell BK297.out 2).trans rfl, (blk_cell BK297.out 3).trans rfl, (blk_cell BK297.out 4).trans rfl, (blk_cell BK297.out 5).trans rfl⟩ (fun hHeld => ?_)
                   clear hK K
                   refine norm_ (a' := ?_) ?_ ?_
                   rotate_left
                   ·show Act.put _ (some 55) _ = _
                    simp only [Act.put, List.setIfInBounds_toArray, List.set_cons_zero, List.set_cons_succ, i64_w, i32_w]
                    rfl
                   refine pure_ (i := 2) (N := some 56) (v := ?_) (a' := ?_) #[true, true, true, false, false, false, false, false, false, false, false, false] rfl rfl (any_of HT_.out (by kernel_rfl)) (fun _ _ _ h => h) (Or.inl ⟨by rfl, ?_⟩) ?_ ?_
                   rotate_left
                   ·intro w'
                    go_simp
                    with_reducible rfl
                   rotate_left
                   ·simp only [Act.put, List.setIfInBounds_toArray, List.set_cons_zero, List.set_cons_succ, i64_w, i32_w]
                    rfl
                   refine pure_ (i := 3) (N := some 57) (v := ?_) (a' := ?_) #[true, true, true, true, false, false, false, false, false, false, false, false] rfl rfl (any_of HT_.out (by kernel_rfl)) (fun _ _ _ h => h) (Or.inl ⟨by rfl, ?_⟩) ?_ ?_
                   rotate_left
                   ·intro w'
                    go_simp
                    with_reducible rfl
                   rotate_left
                   ·simp only [Act.put, List.setIfInBounds_toArray, List.set_cons_zero, List.set_cons_succ, i64_w, i32_w]
                    rfl
                   refine pure_ (i := 7) (N := some 61) (v := ?_) (a' := ?_) #[true, true, true, true, false, false, false, true, false, false, false, false] rfl rfl (any_of HT_.out (by kernel_rfl)) (fun _ _ _ h => h) (Or.inl ⟨by rfl, ?_⟩) ?_ ?_
                   rotate_left
                   ·intro w'
                    go_simp
                    with_reducible rfl
                   rotate_left
                   ·simp only [Act.put, List.setIfInBounds_toArray, List.set_cons_zero, List.set_cons_succ, i64_w, i32_w]
                    rfl
                   refine pure_ (i := 8) (N := some 62) (v := ?_) (a' := ?_) #[true, true, true, true, false, false, false, true, true, false, false, false] rfl rfl (any_of HT_.out (by kernel_rfl)) (fun _ _ _ h => h) (Or.inl ⟨by rfl, ?_⟩) ?_ ?_
                   rotate_left
                   ·intro w'
                    go_simp
                    with_reducible rfl
                   rotate_left
                   ·simp only [Act.put, List.setIfInBounds_toArray, List.set_cons_zero, List.set_cons_succ, i64_w, i32_w]
                    rfl
                   refine pure_ (i := 9) (N := some 63) (v := ?_) (a' := ?_) #[true, true, true, true, false, false, false, true, true, true, false, false] rfl rfl (any_of HT_.out (by kernel_rfl)) (fun _ _ _ h => h) (Or.inl ⟨by rfl, ?_⟩) ?_ ?_
                   rotate_left
                   ·intro w'
                    go_simp
                    with_reducible rfl
                   rotate_left
                   ·simp only [Act.put, List.setIfInBounds_toArray, List.set_cons_zero, List.set_cons_succ, i64_w, i32_w]
                    rfl
                   refine take_ (i := 4) (N := some 58) (v := ?_) (a' := ?_) #[true, true, true, true, true, false, false, true, true, true, false, false] rfl rfl (take_ofW HT_.out HW_.out (by kernel_rfl)) (fun _ _ _ h => h) (Or.inl ⟨by rfl, ?_⟩) hHeld ?_ ?_
                   rotate_left
                   ·rintro w' ⟨s0, s1, s2, s3, s4, s5⟩
                    go_simp
                    with_reducible rfl
                   rotate_left
                   ·simp only [Act.put, List.setIfInBounds_toArray, List.set_cons_zero, List.set_cons_succ, i64_w, i32_w]
                    rfl
                   refine one_ (i := 5) (N := some 59) #[true, true, true, true, true, true, false, true, true, true, false, false] rfl rfl (one_of HT_.out (by kernel_rfl)) (by decide) (fun K hK => ?_)
                   refine goes_ Try.func78 (by kernel_rfl) rfl #[.agg #[.int .i64 (wrap64 (Int.tmod (bt x0_1 0) 16)), .int .i64 (wrap64 ((Int.tdiv (bt x0_1 0) 16) % 256)), .int .i64 (wrap64 ((Int.tdiv (bt x0_1 1) 16) % 256)), .int .i64 (wrap64 (Int.tmod (bt x0_1 1) 16)), .int .i64 x298004_24, .int .i64 (wrap64 (bt x0_1 2))]] (by rfl) rfl rfl (by simp only [zA_, zB_, zD_] <;> rfl) ?_
                   with_reducible refine (impl_Step_bytes.calls (wrap64 (Int.tmod (bt x0_1 0) 16)) (wrap64 ((Int.tdiv (bt x0_1 0) 16) % 256)) (wrap64 ((Int.tdiv (bt x0_1 1) 16) % 256)) (wrap64 (Int.tmod (bt x0_1 1) 16)) x298004_24 (wrap64 (bt x0_1 2)) t299 _ A42.out).mono ?_
                   rintro e w57 ⟨v300, rfl, ho0, hb⟩
                   refine ⟨_, rfl, ?_⟩
                   have n0_ := Aside0.mk (Kd.R_below (zR_ HO_5.out) hb)
                   have n1_ := Aside0.mk (Kd.R_lower ho0 (below_size (by repeat (first | (with_reducible first | exact HB.out | apply below_alloc | apply pw_below_drewN | apply below_drew1 | refine below_set ?_ GE297.out) | exact HB.out))))
                   have n2_ := Aside0.mk (blk_below (g := gb297) (o := .cells #[.int .i64 (wrap64 (Int.tmod (bt x0_1 0) 16)), .int .i64 (wrap64 ((Int.tdiv (bt x0_1 0) 16) % 256)), .int .i64 (wrap64 ((Int.tdiv (bt x0_1 1) 16) % 256)), .int .i64 (wrap64 (Int.tmod (bt x0_1 1) 16)), .int .i64 x298004_24, .int .i64 (wrap64 (bt x0_1 2))] 48 (0, 0)) (by (with_reducible repeat (first | refine blk_drewN ?_ _ | refine blk_drew ?_ | refine blk_alloc ?_ _)); exact BK297.out) hb)
                   have n3_ := Aside0.mk (below_step (by repeat (first | (with_reducible first | exact HB.out | apply below_alloc | apply pw_below_drewN | apply below_drew1 | refine below_set ?_ GE297.out) | exact HB.out)) hb)
                   clear HO_5
                   clear BK297
                   clear HB
                   have HO_5 := n0_
                   have HO301 := n1_
                   have BK297 := n2_
                   have HB := n3_
                   clear n0_ n1_ n2_ n3_
                   (try clear hb)
                   (try clear hb2)
                   (try clear hk)
                   (try clear hi)
                   (try clear ho0)
                   refine hK.out _ _ ⟨(blk_cell BK297.out 0).trans rfl, (blk_cell BK297.out 1).trans rfl, (blk_cell BK297.out 2).trans rfl, (blk_cell BK297.out 3).trans rfl, (blk_cell BK297.out 4).trans rfl, (blk_cell BK297.out 5).trans rfl⟩ (fun hHeld => ?_)
                   clear hK K
                   refine norm_ (a' := ?_) ?_ ?_
                   rotate_left
                   ·show Act.put _ (some 59) _ = _
                    simp only [Act.put, List.setIfInBounds_toArray, List.set_cons_zero, List.set_cons_succ, i64_w, i32_w]
                    rfl
                   refine one_ (i := 6) (N := some 60) #[true, true, true, true, true, true, true, true, true, true, false, false] rfl rfl (one_of HT_.out (by kernel_rfl)) (by decide) (fun K hK => ?_)
                   have hcv58 := own_string (P := Try.prog) Try.underlying22 Try.underlying5 Try.underlying9 (Kd.own_of_R HO301.out)
                   refine value_ (w1 := ?_) (v := ?_) (by rfl) rfl ?_ ?_
                   rotate_left 2
                   ·go_simp
                    constructor
                    ·rfl
                    ·rfl
                   clear hcv58
                   refine hK.out _ _ ⟨(blk_cell BK297.out 0).trans rfl, (blk_cell BK297.out 1).trans rfl, (blk_cell BK297.out 2).trans rfl, (blk_cell BK297.out 3).trans rfl, (blk_cell BK297.out 4).trans rfl, (blk_cell BK297.out 5).trans rfl⟩ (fun hHeld => ?_)
                   clear hK K
                   refine norm_ (a' := ?_) ?_ ?_
                   rotate_left
                   ·show Act.put _ (some 60) _ = _
                    simp only [Act.put, List.setIfInBounds_toArray, List.set_cons_zero, List.set_cons_succ, i64_w, i32_w]
                    rfl
                   refine pure_ (i := 10) (N := some 64) (v := ?_) (a' := ?_) #[true, true, true, true, true, true, true, true, true, true, true, false] rfl rfl (any_of HT_.out (by kernel_rfl)) (fun _ _ _ h => h) (Or.inl ⟨by rfl, ?_⟩) ?_ ?_
                   rotate_left
                   ·intro w'
                    go_simp
                    with_reducible rfl
                   rotate_left
                   ·simp only [Act.put, List.setIfInBounds_toArray, List.set_cons_zero, List.set_cons_succ, i64_w, i32_w]
                    rfl
                   refine pure_ (i := 11) (N := some 65) (v := ?_) (a' := ?_) #[true, true, true, true, true, true, true, true, true, true, true, true] rfl rfl (any_of HT_.out (by kernel_rfl)) (fun _ _ _ h => h) (Or.inl ⟨by rfl, ?_⟩) ?_ ?_
                   rotate_left
                   ·intro w'
                    go_simp
                    with_reducible rfl
                   rotate_left
                   ·simp only [Act.put, List.setIfInBounds_toArray, List.set_cons_zero, List.set_cons_succ, i64_w, i32_w]
                    rfl
                   refine done_ (done_of HT_.out (by kernel_rfl)) ?_
                   try go_wp2
                   go_ret3
                   exact ⟨_, by first | rfl | (simp [errW_none, errW_some] <;> rfl) | (simp [*, errW_none, errW_some] <;> rfl), by first | exact Kd.R_nil _ _ _ _ _ | exact Kd.N_nil _ _ _ _ _ | exact Kd.V_nil _ _ _ _ _ | exact Kd.Q_nil _ _ _ _ _ | exact Kd.S_nil _ _ _ _ _, by repeat (first | (with_reducible first | exact HB.out | apply below_alloc | apply pw_below_drewN | apply below_drew1 | refine below_set ?_ GE297.out) | exact HB.out)⟩
                 ·rw [if_neg c44] at H
                  exact absurd H (by simp)
                ·rw [if_neg c43] at H
                 exact absurd H (by simp)
               ·replace c41 := Bool.eq_false_iff.mpr c41
                subst c41
                have H1 : (some (([] : List (S48)), 2, false)) = some (r1, r2, r3) := by rw [if_neg (show ¬ (false = true) by decide)] at H; exact H
                clear H
                have H := H1
                clear H1
                simp only [Option.some.injEq, Prod.mk.injEq] at H
                obtain ⟨rfl, rfl, rfl⟩ := H
                try go_wp2
                have n0_ := Aside0.mk (Kd.R_drew HO_5.out)
                have n1_ := Aside0.mk (blk_drew BK297.out)
                have n2_ := Aside0.mk (below_drew1 HB.out)
                clear HO_5
                clear BK297
                clear HB
                have HO_5 := n0_
                have BK297 := n1_
                have HB := n2_
                clear n0_ n1_ n2_
                refine start_ (n := 12) (S := fun w' => w'.cell? ⟨gb297, 0, none⟩ = some (.int .i64 (wrap64 (Int.tmod (bt x0_1 0) 16))) ∧ w'.cell? ⟨gb297, 1, none⟩ = some (.int .i64 (wrap64 ((Int.tdiv (bt x0_1 0) 16) % 256))) ∧ w'.cell? ⟨gb297, 2, none⟩ = some (.int .i64 (wrap64 ((Int.tdiv (bt x0_1 1) 16) % 256))) ∧ w'.cell? ⟨gb297, 3, none⟩ = some (.int .i64 (wrap64 (Int.tmod (bt x0_1 1) 16))) ∧ w'.cell? ⟨gb297, 4, none⟩ = some (.int .i64 x298004_24) ∧ w'.cell? ⟨gb297, 5, none⟩ = some (.int .i64 (wrap64 (bt x0_1 2)))) (ds := []) #[false, false, false, false, false, false, false, false, false, false, false, false] (by kernel_rfl) rfl rfl ⟨(blk_cell BK297.out 0).trans rfl, (blk_cell BK297.out 1).trans rfl, (blk_cell BK297.out 2).trans rfl, (blk_cell BK297.out 3).trans rfl, (blk_cell BK297.out 4).trans rfl, (blk_cell BK297.out 5).trans rfl⟩ (fun hHeld => ?_); refine with_tabW impl_ReadProgram.tab13 impl_ReadProgram.bits13 (fun HT_ HW_ => ?_)
                generalize wc.drew = w59 at HO_5 BK297 HB hHeld ⊢
                refine take_ (i := 0) (N := some 54) (v := ?_) (a' := ?_) #[true, false, false, false, false, false, false, false, false, false, false, false] rfl rfl (take_ofW HT_.out HW_.out (by kernel_rfl)) (fun _ _ _ h => h) (Or.inl ⟨by rfl, ?_⟩) hHeld ?_ ?_
                rotate_left
                ·rintro w' ⟨s0, s1, s2, s3, s4, s5⟩
                 go_simp
                 with_reducible rfl
                rotate_left
                ·simp only [Act.put, List.setIfInBounds_toArray, List.set_cons_zero, List.set_cons_succ, i64_w, i32_w]
                 rfl
                refine one_ (i := 1) (N := some 55) #[true, true, false, false, false, false, false, false, false, false, false, false] rfl rfl (one_of HT_.out (by kernel_rfl)) (by decide) (fun K hK => ?_)
                refine goes_ Try.func82 (by kernel_rfl) rfl #[.agg #[.int .i64 (wrap64 (Int.tmod (bt x0_1 0) 16)), .int .i64 (wrap64 ((Int.tdiv (bt x0_1 0) 16) % 256)), .int .i64 (wrap64 ((Int.tdiv (bt x0_1 1) 16) % 256)), .int .i64 (wrap64 (Int.tmod (bt x0_1 1) 16)), .int .i64 x298004_24, .int .i64 (wrap64 (bt x0_1 2))]] (by rfl) rfl rfl (by simp only [zA_, zB_, zD_] <;> rfl) ?_
                with_reducible refine (impl_Step_valid.calls kj24 (wrap64 (Int.tmod (bt x0_1 0) 16)) (wrap64 ((Int.tdiv (bt x0_1 0) 16) % 256)) (wrap64 ((Int.tdiv (bt x0_1 1) 16) % 256)) (wrap64 (Int.tmod (bt x0_1 1) 16)) x298004_24 (wrap64 (bt x0_1 2)) false _ A40.out).mono ?_
                rintro e w60 ⟨rfl, hb⟩
                refine ⟨_, rfl, ?_⟩
                have n0_ := Aside0.mk (Kd.R_below (zR_ HO_5.out) hb)
                have n1_ := Aside0.mk (blk_below (g := gb297) (o := .cells #[.int .i64 (wrap64 (Int.tmod (bt x0_1 0) 16)), .int .i64 (wrap64 ((Int.tdiv (bt x0_1 0) 16) % 256)), .int .i64 (wrap64 ((Int.tdiv (bt x0_1 1) 16) % 256)), .int .i64 (wrap64 (Int.tmod (bt x0_1 1) 16)), .int .i64 x298004_24, .int .i64 (wrap64 (bt x0_1 2))] 48 (0, 0)) (by (with_reducible repeat (first | refine blk_drewN ?_ _ | refine blk_drew ?_ | refine blk_alloc ?_ _)); exact BK297.out) hb)
                have n2_ := Aside0.mk (below_step (by repeat (first | (with_reducible first | exact HB.out | apply below_alloc | apply pw_below_drewN | apply below_drew1 | refine below_set ?_ GE297.out) | exact HB.out)) hb)
                clear HO_5
                clear BK297
                clear HB
                have HO_5 := n0_
                have BK297 := n1_
                have HB := n2_
                clear n0_ n1_ n2_
                (try clear hb)
                (try clear hb2)
                (try clear hk)
                (try clear hi)
                refine hK.out _ _ ⟨(blk_cell BK297.out 0).trans rfl, (blk_cell BK297.out 1).trans rfl, (blk_cell BK297.out 2).trans rfl, (blk_cell BK297.out 3).trans rfl, (blk_cell BK297.out 4).trans rfl, (blk_cell BK297.out 5).trans rfl⟩ (fun hHeld => ?_)
                clear hK K
                refine norm_ (a' := ?_) ?_ ?_
                rotate_left
                ·show Act.put _ (some 55) _ = _
                 simp only [Act.put, List.setIfInBounds_toArray, List.set_cons_zero, List.set_cons_succ, i64_w, i32_w]
                 rfl
                refine pure_ (i := 2) (N := some 56) (v := ?_) (a' := ?_) #[true, true, true, false, false, false, false, false, false, false, false, false] rfl rfl (any_of HT_.out (by kernel_rfl)) (fun _ _ _ h => h) (Or.inl ⟨by rfl, ?_⟩) ?_ ?_
                rotate_left
                ·intro w'
                 go_simp
                 with_reducible rfl
                rotate_left
                ·simp only [Act.put, List.setIfInBounds_toArray, List.set_cons_zero, List.set_cons_succ, i64_w, i32_w]
                 rfl
                refine pure_ (i := 3) (N := some 57) (v := ?_) (a' := ?_) #[true, true, true, true, false, false, false, false, false, false, false, false] rfl rfl (any_of HT_.out (by kernel_rfl)) (fun _ _ _ h => h) (Or.inl ⟨by rfl, ?_⟩) ?_ ?_
                rotate_left
                ·intro w'
                 go_simp
                 with_reducible rfl
                rotate_left
                ·simp only [Act.put, List.setIfInBounds_toArray, List.set_cons_zero, List.set_cons_succ, i64_w, i32_w]
                 rfl
                refine pure_ (i := 4) (N := some 58) (v := undef) (a' := ?_) #[true, true, true, true, true, false, false, false, false, false, false, false] rfl rfl (any_of HT_.out (by kernel_rfl)) (fun _ _ _ h => h) (Or.inr ⟨by rfl, rfl⟩) ?_ ?_
                rotate_left
                ·simp only [Act.put, List.setIfInBounds_toArray, List.set_cons_zero, List.set_cons_succ, i64_w, i32_w]
                 rfl
                refine pure_ (i := 5) (N := some 59) (v := undef) (a' := ?_) #[true, true, true, true, true, true, false, false, false, false, false, false] rfl rfl (any_of HT_.out (by kernel_rfl)) (fun _ _ _ h => h) (Or.inr ⟨by rfl, rfl⟩) ?_ ?_
                rotate_left
                ·simp only [Act.put, List.setIfInBounds_toArray, List.set_cons_zero, List.set_cons_succ, i64_w, i32_w]
                 rfl
                refine pure_ (i := 6) (N := some 60) (v := undef) (a' := ?_) #[true, true, true, true, true, true, true, false, false, false, false, false] rfl rfl (any_of HT_.out (by kernel_rfl)) (fun _ _ _ h => h) (Or.inr ⟨by rfl, rfl⟩) ?_ ?_
                rotate_left
                ·simp only [Act.put, List.setIfInBounds_toArray, List.set_cons_zero, List.set_cons_succ, i64_w, i32_w]
                 rfl
                refine pure_ (i := 7) (N := some 61) (v := undef) (a' := ?_) #[true, true, true, true, true, true, true, true, false, false, false, false] rfl rfl (any_of HT_.out (by kernel_rfl)) (fun _ _ _ h => h) (Or.inr ⟨by rfl, rfl⟩) ?_ ?_
                rotate_left
                ·simp only [Act.put, List.setIfInBounds_toArray, List.set_cons_zero, List.set_cons_succ, i64_w, i32_w]
                 rfl
                refine pure_ (i := 8) (N := some 62) (v := undef) (a' := ?_) #[true, true, true, true, true, true, true, true, true, false, false, false] rfl rfl (any_of HT_.out (by kernel_rfl)) (fun _ _ _ h => h) (Or.inr ⟨by rfl, rfl⟩) ?_ ?_
                rotate_left
                ·simp only [Act.put, List.setIfInBounds_toArray, List.set_cons_zero, List.set_cons_succ, i64_w, i32_w]
                 rfl
                refine pure_ (i := 9) (N := some 63) (v := undef) (a' := ?_) #[true, true, true, true, true, true, true, true, true, true, false, false] rfl rfl (any_of HT_.out (by kernel_rfl)) (fun _ _ _ h => h) (Or.inr ⟨by rfl, rfl⟩) ?_ ?_
                rotate_left
                ·simp only [Act.put, List.setIfInBounds_toArray, List.set_cons_zero, List.set_cons_succ, i64_w, i32_w]
                 rfl
                refine pure_ (i := 10) (N := some 64) (v := undef) (a' := ?_) #[true, true, true, true, true, true, true, true, true, true, true, false] rfl rfl (any_of HT_.out (by kernel_rfl)) (fun _ _ _ h => h) (Or.inr ⟨by rfl, rfl⟩) ?_ ?_
                rotate_left
                ·simp only [Act.put, List.setIfInBounds_toArray, List.set_cons_zero, List.set_cons_succ, i64_w, i32_w]
                 rfl
                refine pure_ (i := 11) (N := some 65) (v := ?_) (a' := ?_) #[true, true, true, true, true, true, true, true, true, true, true, true] rfl rfl (any_of HT_.out (by kernel_rfl)) (fun _ _ _ h => h) (Or.inl ⟨by rfl, ?_⟩) ?_ ?_
                rotate_left
                ·intro w'
                 go_simp
                 with_reducible rfl
                rotate_left
                ·simp only [Act.put, List.setIfInBounds_toArray, List.set_cons_zero, List.set_cons_succ, i64_w, i32_w]
                 rfl
                refine done_ (done_of HT_.out (by kernel_rfl)) ?_
                try go_wp2
                go_ret3
                exact ⟨_, by first | rfl | (simp [errW_none, errW_some] <;> rfl) | (simp [*, errW_none, errW_some] <;> rfl), by first | exact Kd.R_nil _ _ _ _ _ | exact Kd.N_nil _ _ _ _ _ | exact Kd.V_nil _ _ _ _ _ | exact Kd.Q_nil _ _ _ _ _ | exact Kd.S_nil _ _ _ _ _, by repeat (first | (with_reducible first | exact HB.out | apply below_alloc | apply pw_below_drewN | apply below_drew1 | refine below_set ?_ GE297.out) | exact HB.out)⟩
            ·rw [if_neg c23] at H
             exact absurd H (by simp)
           ·rw [if_neg c21] at H
            exact absurd H (by simp)
          ·rw [if_neg c18] at H
           exact absurd H (by simp)
         ·rw [if_neg c15] at H
          exact absurd H (by simp)
     ·rw [if_neg c10] at H
      exact absurd H (by simp)
end Go.Proofs.Ytpkbjgmeejlchaa.PFnProgram
-- squeezed
